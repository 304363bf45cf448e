/- A part of the proof: Z0. -/
import Derived.Lib.Split
set_option linter.all false
set_option maxRecDepth 100000
set_option maxHeartbeats 0
namespace Go.Proofs.YtimokmplkpbmdaaGreatDoor
theorem Nj {c:UInt8} {t:List UInt8}:∀{l:List UInt8},c∉l->Lib.index l (c::t)= -1
 |[],_=>rfl
 |a::l,h=>by
  have h1:¬c=a/\c∉l:=by simpa using h
  unfold Lib.index;rw[Nj h1.2,show (c::t).isPrefixOf (a::l)=false by simp[List.isPrefixOf,h1.1]];rfl
theorem Nk {c:UInt8} {t:List UInt8} (m:List UInt8):∀{l:List UInt8},c∉l->Lib.index (l++(c::t++m)) (c::t)=(l.length:Nat)
 |[],_=>by
  show Lib.index (c::(t++m)) (c::t)=0;unfold Lib.index;rw[if_pos (by simp[List.isPrefixOf])]
 |a::l,h=>by
  have h1:¬c=a/\c∉l:=by simpa using h
  rw[List.cons_append];unfold Lib.index;rw[Nk m h1.2,show (c::t).isPrefixOf (a::(l++(c::t++m)))=false by simp[List.isPrefixOf,h1.1]];simp
theorem QI {c:UInt8} {t l:List UInt8} (h:c∉l):Lib.cut l (c::t)=(l,[],false):=by
 unfold Lib.cut;rw[Nj h];rfl
theorem IW {c:UInt8} {t l:List UInt8} (m:List UInt8) (h:c∉l):Lib.cut (l++(c::t++m)) (c::t)=(l,m,true):=by
 unfold Lib.cut;rw[Nk m h,if_pos (by omega)];simp
def fE (sep:List UInt8):List (List UInt8)->List UInt8
 |[]=>[]
 |[p]=>p
 |p::q::r=>p++(sep++fE sep (q::r))
theorem ext_list (s:List UInt8) (n:Nat):(⟨s.toArray⟩:ByteArray).extract n s.length=⟨(s.drop n).toArray⟩:=by
 apply ByteArray.ext;apply Array.ext';exact Lib.extract_to_end ⟨s.toArray⟩ n
theorem ZF (s:List UInt8) (n:Nat):(⟨s.toArray⟩:ByteArray).extract 0 n=⟨(s.take n).toArray⟩:=by
 apply ByteArray.ext;apply Array.ext';exact Lib.extract_from_zero ⟨s.toArray⟩ n
theorem vP (c:UInt8) (t:List UInt8):∀ps:List (List UInt8),ps≠[]->(∀p∈ps,c∉p)->
  Lib.countB ⟨(fE (c::t) ps).toArray⟩ ⟨(c::t).toArray⟩+1=ps.length/\
  Lib.splitB ⟨(c::t).toArray⟩ 0 (Lib.countB ⟨(fE (c::t) ps).toArray⟩ ⟨(c::t).toArray⟩) ⟨(fE (c::t) ps).toArray⟩=ps.map fun p=>⟨p.toArray⟩
 |[],h,_=>absurd rfl h
 |[p],_,h=>by
  have hi:Lib.indexB ⟨p.toArray⟩ ⟨(c::t).toArray⟩= -1:=Nj (h p (List.mem_singleton.2 rfl));show Lib.countB ⟨p.toArray⟩ _+1=1/\Lib.splitB _ 0 _ ⟨p.toArray⟩=[⟨p.toArray⟩]
  rw[Lib.countB_miss _ _ hi,Lib.splitB_miss _ _ _ _ hi];exact⟨rfl,rfl⟩
 |p::q::r,_,h=>by
  have hi:Lib.indexB ⟨(p++(c::t++fE (c::t) (q::r))).toArray⟩ ⟨(c::t).toArray⟩=(p.length:Nat):=Nk _ (h p (List.mem_cons_self ..));have ih:=vP c t (q::r) (by simp) (fun x hx=>h x (List.mem_cons_of_mem _ hx))
  have he:(⟨(p++(c::t++fE (c::t) (q::r))).toArray⟩:ByteArray).extract (p.length+(⟨(c::t).toArray⟩:ByteArray).size) (⟨(p++(c::t++fE (c::t) (q::r))).toArray⟩:ByteArray).size=⟨(fE (c::t) (q::r)).toArray⟩:=by
   refine (ext_list _ _).trans ?_;rw[<-List.append_assoc,show p.length+(⟨(c::t).toArray⟩:ByteArray).size=(p++c::t).length by rw[List.length_append];rfl,List.drop_left]
  show Lib.countB ⟨(p++(c::t++fE (c::t) (q::r))).toArray⟩ _+1=_/\Lib.splitB _ 0 (Lib.countB ⟨(p++(c::t++fE (c::t) (q::r))).toArray⟩ _) ⟨(p++(c::t++fE (c::t) (q::r))).toArray⟩=_;rw[Lib.countB_hit _ _ _ (by show 1<=(c::t).length;simp) hi,he,Nat.add_comm 1,Lib.splitB_hit _ _ _ _ _ hi,he,ih.2,ZF];refine⟨congrArg (·+1) ih.1,?_⟩;rw[Nat.add_zero,List.take_left];rfl
end Go.Proofs.YtimokmplkpbmdaaGreatDoor
