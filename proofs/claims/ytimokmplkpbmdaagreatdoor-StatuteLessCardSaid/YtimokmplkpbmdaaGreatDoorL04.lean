/- A part of the proof: P4. -/
import Derived.Test.YtimokmplkpbmdaaGreatDoorB26
import Derived.Test.YtimokmplkpbmdaaGreatDoorL02
set_option linter.all false
set_option maxRecDepth 100000
set_option maxHeartbeats 0
namespace Go.Proofs.YtimokmplkpbmdaaGreatDoor
open Go.RowKit
theorem u8_tri {a b:UInt8} (h1:¬a<b) (h2:¬b<a):a=b:=UInt8.le_antisymm (UInt8.not_lt.1 h2) (UInt8.not_lt.1 h1)
theorem bl_cons (a b:UInt8) (x y:List UInt8):Op.bytesLess (a::x) (b::y)=(decide (a<b)||(a==b&&Op.bytesLess x y)):=rfl
theorem bl_nil (x:List UInt8):Op.bytesLess x []=false:=by cases x<;>rfl
theorem bl_trans:∀x y z:List UInt8,Op.bytesLess x y=true->Op.bytesLess y z=true->Op.bytesLess x z=true:=by
 intro x
 induction x with
 |nil=>
  intro y z h1 h2;cases z with
  |nil=>rw[bl_nil] at h2;cases h2
  |cons c z=>rfl
 |cons a x ih=>
  intro y z h1 h2;cases y with
  |nil=>rw[bl_nil] at h1;cases h1
  |cons b y=>
   cases z with
   |nil=>rw[bl_nil] at h2;cases h2
   |cons c z=>
    rw[bl_cons] at*;simp only[Bool.or_eq_true,decide_eq_true_eq,Bool.and_eq_true,beq_iff_eq] at*;rcases h1 with h1|⟨rfl,h1⟩
    ·rcases h2 with h2|⟨rfl,h2⟩
     ·exact .inl (UInt8.lt_trans h1 h2)
     ·exact .inl h1
    ·rcases h2 with h2|⟨rfl,h2⟩
     ·exact .inl h2
     ·exact .inr ⟨rfl,ih y z h1 h2⟩
theorem bl_tri:∀x y:List UInt8,Op.bytesLess x y=false->Op.bytesLess y x=false->x=y:=by
 intro x
 induction x with
 |nil=>
  intro y h1 h2;cases y with
  |nil=>rfl
  |cons b y=>cases h1
 |cons a x ih=>
  intro y h1 h2;cases y with
  |nil=>cases h2
  |cons b y=>
   rw[bl_cons] at*;simp only[Bool.or_eq_false_iff,decide_eq_false_iff_not,Bool.and_eq_false_iff,beq_eq_false_iff_ne] at*;have hab:a=b:=u8_tri h1.1 h2.1;subst hab;rw[ih y (by rcases h1.2 with h|h;exact absurd rfl h;exact h) (by rcases h2.2 with h|h;exact absurd rfl h;exact h)]
theorem bef_iff (a b:Nd):befN a b=true↔a.op<b.op∨(a.op=b.op/\Op.bytesLess a.name.data.toList b.name.data.toList=true):=by
 unfold befN;rw[Lib.toList_data,Lib.toList_data];simp
theorem bef_trans {a b c:Nd} (h1:befN a b=true) (h2:befN b c=true):befN a c=true:=by
 rw[bef_iff] at*;rcases h1 with h1|⟨e1,h1⟩
 ·rcases h2 with h2|⟨e2,h2⟩
  ·exact .inl (by omega)
  ·exact .inl (by omega)
 ·rcases h2 with h2|⟨e2,h2⟩
  ·exact .inl (by omega)
  ·exact .inr ⟨e1.trans e2,bl_trans _ _ _ h1 h2⟩
theorem bef_tri {a b:Nd} (h1:¬befN a b=true) (h2:¬befN b a=true):a.op=b.op/\a.name=b.name:=by
 rw[bef_iff] at*;have e:a.op=b.op:=by omega
 refine⟨e,?_⟩
 have h3:Op.bytesLess a.name.data.toList b.name.data.toList=false:=by
  cases h:Op.bytesLess a.name.data.toList b.name.data.toList
  ·rfl
  ·exact absurd (.inr ⟨e,h⟩) h1
 have h4:Op.bytesLess b.name.data.toList a.name.data.toList=false:=by
  cases h:Op.bytesLess b.name.data.toList a.name.data.toList
  ·rfl
  ·exact absurd (.inr ⟨e.symm,h⟩) h2
 have h5:=bl_tri _ _ h3 h4;have h6:b.name=a.name:=ba_eq (l:=a.name.data.toList) h5.symm;exact h6.symm
theorem bef_tri0 {a b:Nd} (ha:a.num=zR) (hb:b.num=zR) (h1:¬befN a b=true) (h2:¬befN b a=true):a=b:=by
 obtain⟨e1,e2⟩:=bef_tri h1 h2;obtain⟨x,y,z⟩:=a;obtain⟨x',y',z'⟩:=b;simp only at*;subst e1 e2 ha hb;rfl
abbrev Str (l:List Nd):Prop:=l.Pairwise (fun a b=>befN a b=true)
def place (out:List Nd) (n:Nd):Nat:=(out.takeWhile (befN · n)).length
def ins (out:List Nd) (n:Nd):List Nd:=if out[place out n]?=some n then out else out.take (place out n)++[n]++out.drop (place out n)
theorem tw_split {α:Type} (p:α->Bool) (l:List α):l.take (l.takeWhile p).length=l.takeWhile p/\l.drop (l.takeWhile p).length=l.dropWhile p/\(∀x∈l.takeWhile p,p x=true)/\(∀d m,l.dropWhile p=d::m->p d=false):=by
 induction l with
 |nil=>exact⟨rfl,rfl,fun x hx=>(by cases hx),fun d m h=>(by cases h)⟩
 |cons a l ih=>
  obtain⟨h1,h2,h3,h4⟩:=ih;cases ha:p a
  ·rw[List.takeWhile_cons_of_neg (by simp[ha]),List.dropWhile_cons_of_neg (by simp[ha])];refine⟨rfl,rfl,fun x hx=>(by cases hx),fun d m h=>?_⟩;injection h with h _;rw[<-h];exact ha
  ·rw[List.takeWhile_cons_of_pos ha,List.dropWhile_cons_of_pos ha];refine⟨by simp[h1],by simp[h2],fun x hx=>?_,h4⟩;rcases List.mem_cons.1 hx with rfl|hx
   ·exact ha
   ·exact h3 x hx
theorem place_split (out:List Nd) (n:Nd):out.take (place out n)=out.takeWhile (befN · n)/\out.drop (place out n)=out.dropWhile (befN · n):=⟨(tw_split _ out).1,(tw_split _ out).2.1⟩
theorem ins_mem (out:List Nd) (n x:Nd):x∈ins out n↔x∈out∨x=n:=by
 unfold ins;split
 ·next h=>
  have hn:=List.mem_of_getElem? h;exact⟨.inl,fun h=>by rcases h with h|rfl;exact h;exact hn⟩
 ·have h:=List.take_append_drop (place out n) out;constructor
  ·intro hx;rcases List.mem_append.1 hx with hx|hx
   ·rcases List.mem_append.1 hx with hx|hx
    ·exact .inl (List.mem_of_mem_take hx)
    ·exact .inr (by simpa using hx)
   ·exact .inl (List.mem_of_mem_drop hx)
  ·intro hx;rcases hx with hx|rfl
   ·rw[<-h] at hx;rcases List.mem_append.1 hx with hx|hx
    ·exact List.mem_append_left _ (List.mem_append_left _ hx)
    ·exact List.mem_append_right _ hx
   ·simp
theorem ins_str {out:List Nd} {n:Nd} (hs:Str out) (hz:∀x∈out,x.num=zR) (hn:n.num=zR):Str (ins out n):=by
 unfold ins;split
 ·exact hs
 ·next hne=>
  have h:=List.take_append_drop (place out n) out;obtain⟨e1,e2⟩:=place_split out n;have hs':=hs;rw[<-h] at hs';obtain⟨p1,p2,p3⟩:=List.pairwise_append.1 hs'
  have hT:∀x∈out.take (place out n),befN x n=true:=fun x hx=>by
   rw[e1] at hx;exact (tw_split (befN · n) out).2.2.1 x hx
  have hD:∀x∈out.drop (place out n),befN n x=true:=by
   intro x hx;cases hd:out.drop (place out n) with
   |nil=>rw[hd] at hx;cases hx
   |cons d l=>
    have hd0:¬befN d n=true:=by
     have:=(tw_split (befN · n) out).2.2.2 d l (by rw[<-e2,hd]);rw[this];simp
    have hdm:d∈out:=List.mem_of_mem_drop (by rw[hd];exact List.mem_cons_self ..)
    have hdn:d≠n:=by
     rintro rfl;apply hne;have h3:(out.drop (place out d))[0]?=some d:=by rw[hd];rfl
     rw[List.getElem?_drop] at h3;simpa using h3
    have hnd:befN n d=true:=Classical.byContradiction fun hh=>hdn (bef_tri0 (hz d hdm) hn hd0 hh)
    rw[hd] at hx p2;rcases List.mem_cons.1 hx with rfl|hx
    ·exact hnd
    ·exact bef_trans hnd ((List.pairwise_cons.1 p2).1 x hx)
  refine List.pairwise_append.2 ⟨List.pairwise_append.2 ⟨p1,by simp,fun a ha b hb=>?_⟩,p2,fun a ha b hb=>?_⟩
  ·obtain rfl:b=n:=by simpa using hb
   exact hT a ha
  ·rcases List.mem_append.1 ha with ha|ha
   ·exact p3 a ha b hb
   ·obtain rfl:a=n:=by simpa using ha
    exact hD b hb
def nmd (e:List Nd):List Nd:=e.filter fun n=>(shp n.op).nam
def insL (e:List Nd) (out:List Nd):List Nd:=(nmd e).foldl ins out
def refsE (e:List Nd):List Nd:=if checkE e=0 then insL e [] else []
theorem insL_snoc (e:List Nd) (n:Nd) (out:List Nd):insL (e++[n]) out=if (shp n.op).nam then ins (insL e out) n else insL e out:=by
 unfold insL nmd;rw[List.filter_append,List.foldl_append];cases h:(shp n.op).nam<;>simp[h]
theorem nmd_zr {e:List Nd} (h:∀n∈e,wrongN n=0):∀n∈nmd e,n.num=zR:=by
 intro n hn;obtain⟨h1,h2⟩:=List.mem_filter.1 hn;have h3:=shp_nam n.op;rw[h2] at h3;have h4:=of_decide_eq_true h3.symm;refine (num_big (h n h1) (by omega)).2 ?_;rw[shp_stp];exact decide_eq_false (by omega)
theorem fold_ins (l out:List Nd) (hl:∀n∈l,n.num=zR) (ho:Str out) (hz:∀n∈out,n.num=zR):Str (l.foldl ins out)/\∀n,n∈l.foldl ins out↔n∈out∨n∈l:=by
 induction l generalizing out with
 |nil=>exact⟨ho,fun n=>by simp⟩
 |cons a l ih=>
  have ha:=hl a (List.mem_cons_self ..)
  obtain⟨h1,h2⟩:=ih (ins out a) (fun n hn=>hl n (List.mem_cons_of_mem _ hn)) (ins_str ho hz ha) (fun n hn=>by
   rcases (ins_mem _ _ _).1 hn with h|rfl
   ·exact hz n h
   ·exact ha)
  refine⟨h1,fun n=>?_⟩;rw[List.foldl_cons,h2,ins_mem,List.mem_cons];constructor
  ·rintro ((h|h)|h)
   ·exact .inl h
   ·exact .inr (.inl h)
   ·exact .inr (.inr h)
  ·rintro (h|h|h)
   ·exact .inl (.inl h)
   ·exact .inl (.inr h)
   ·exact .inr h
theorem refsE_spec {e:List Nd} (h:checkE e=0):Str (refsE e)/\∀n,n∈refsE e↔n∈nmd e:=by
 have:=fold_ins (nmd e) [] (nmd_zr (checkE_wr h)) List.Pairwise.nil (fun n hn=>by cases hn);unfold refsE insL;rw[if_pos h];exact⟨this.1,fun n=>by rw[this.2];simp⟩
end Go.Proofs.YtimokmplkpbmdaaGreatDoor
