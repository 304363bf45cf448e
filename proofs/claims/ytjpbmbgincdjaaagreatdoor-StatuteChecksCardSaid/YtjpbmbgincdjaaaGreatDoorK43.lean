/- Part: Wk. -/
import Derived.Deep.Matrix
import Derived.Test.YtjpbmbgincdjaaaGreatDoorK32
import Derived.Test.YtjpbmbgincdjaaaGreatDoorK42
set_option linter.all false
set_option maxRecDepth 100000
set_option maxHeartbeats 0
namespace Go.Proofs.YtjpbmbgincdjaaaGreatDoor
open Go.ChangeShapes Go.WideShapes Go.ChangeAt Go.RowKit List World Go.Proofs.Tryz
theorem zX {x:Int} (h:(Lit.int .i64 x).wf=true):-9223372036854775808<=x/\x<=9223372036854775807:=by
 simp only[Lit.wf,Bool.and_eq_true,decide_eq_true_eq] at h;exact⟨h.1,h.2⟩
theorem Iw (b off m:Nat):(⟨b,off,none⟩:Addr).add m=⟨b,off+m,none⟩:=by unfold Addr.add;split<;>simp_all
theorem Qi (xs:List (List Int × Hd)):xs.flatMap V5=xs.map fun r=>Value.slice r.2.a r.2.n r.2.c:=by
 induction xs with
 |nil=>rfl
 |cons x xs ih=>rw[flatMap_cons,ih];rfl
theorem Qj {H:Type} {enc:TypeId × Value->H} {W:World} {base:Nat} {held:Bool} {r:Reach} {b0:Nat} {v:Value} {d:DataW H} {p:List MemPlace} (hv:Value.okWide prog W r b0 22 v) (h:DataW.Trod enc prog W base (fun _=>true) held 22 v d p):
  ∃(xs:List (List Int × Hd)) (hh:Hd),v=.slice hh.a hh.n hh.c/\dB W V5 xs hh/\∀r∈xs,IR W W.heap.size r:=by
 obtain⟨fuel,hf⟩:=h;obtain⟨A,n,c,rfl⟩:=okWide_slice underlying22 hv;rcases Go.Deep.open_int_rows underlying22 underlying106 underlying3 (by kernel_rfl) (by kernel_rfl) hf with⟨hcs,_⟩|⟨a,len,cap,As,L,C,Z,hcs,_,hl,hm,_,hx⟩
 ·have hcs:[Value.slice A n c]=[.slice none 0 0]:=hcs;injection hcs with hcs _;injection hcs with h1 h2 h3;subst h1 h2 h3;exact⟨[],⟨none,0,0⟩,rfl,⟨rfl,Nat.le_refl _,Nat.zero_le _,.inl rfl⟩,fun r hr=>by cases hr⟩
 ·have hcs:[Value.slice A n c]=[.slice (some a) len cap]:=hcs;injection hcs with hcs _;injection hcs with h1 h2 h3;subst h1 h2 h3;refine⟨(List.range n).map fun r=>((Z r).take (L r),⟨As r,L r,C r⟩),⟨some a,n,c⟩,rfl,⟨by simp,hl,hm,?_⟩,fun r hr=>?_⟩
  ·by_cases hn:n=0
   ·subst hn;exact .inl rfl
   ·have h00:=(hx 0 (by omega)).1;obtain⟨b,off,spot⟩:=a
    have hspot:spot=none:=by
     have:=cell?_spot h00;simpa [Addr.add] using this
    subst hspot;refine .inr ⟨b,off,rfl,?_,fun i hil=>?_⟩
    ·rw[Iw] at h00;exact cell_lt h00
    ·have e:((List.range n).map fun r=>(((Z r).take (L r),⟨As r,L r,C r⟩):List Int × Hd)).flatMap V5=(List.range n).map fun r=>Value.slice (As r) (L r) (C r):=by rw[Qi,map_map];rfl
     have apf:i<n:=by rw[e] at hil;simpa using hil
     have h1:=(hx i (by omega)).1;rw[Iw] at h1;rw[h1];simp only[e]
     simp
  ·obtain⟨i,hi,rfl⟩:=mem_map.1 hr;have hi:i<n:=by simpa using hi
   obtain⟨_,q2,q3,q4,q5,q6,q7⟩:=hx i (by omega);refine⟨by simp only[length_take];omega,q2,q3,?_,fun x hx=>zX (q5 x (mem_of_mem_take hx)),fun hne ad had=>?_⟩
   ·by_cases hL:L i=0
    ·simp only[hL,take_zero];exact .inl rfl
    ·obtain⟨a',ha⟩:∃a',As i=some a':=by
      cases hA:As i with
      |none=>have:=q6 hA;omega
      |some a'=>exact⟨a',rfl⟩
     have hc:=(q7 a' ha).2;have h00:=hc 0 (by omega);obtain⟨b,off,spot⟩:=a'
     have hspot:spot=none:=by
      have:=cell?_spot h00;simpa [Addr.add] using this
     subst hspot;refine .inr ⟨b,off,ha,?_,fun k hk=>?_⟩
     ·rw[Iw] at h00;exact cell_lt h00
     ·unfold zvs at hk⊢;rw[length_map,length_take] at hk;have h1:=hc k (by omega);rw[Iw] at h1;rw[h1,getElem_map,getElem_take,getD_eq_getElem?_getD,getElem?_eq_getElem (by omega)];rfl
   ·simp only at had hne
    have hL:0<C i:=by
     rcases Nat.eq_zero_or_pos (C i) with h0|h0
     ·exfalso;apply hne;rw[take_eq_nil_iff];right;exact length_eq_zero_iff.1 (by omega)
     ·exact h0
    have h00:=(q7 ad had).2 0 hL;exact block_lt_of_cell? _ _ h00 |> fun h=>by simpa [Addr.add] using h
end Go.Proofs.YtjpbmbgincdjaaaGreatDoor
