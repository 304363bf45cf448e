/- A part of the proof: Wk Wt. -/
import Derived.Deep.Matrix
import Derived.Test.YtkgiaegmkncljaaGreatDoorS37
import Derived.Test.YtkgiaegmkncljaaGreatDoorS40
set_option linter.unusedVariables false
set_option linter.unusedSimpArgs false
set_option maxRecDepth 100000
set_option maxHeartbeats 40000000
namespace Go.Proofs.YtkgiaegmkncljaaGreatDoor
open Go.ChangeShapes Go.WideShapes Go.ChangeAt Go.RowKit
theorem i64_in64 {x:Int} (h:(Lit.int .i64 x).wf=true):-9223372036854775808≤x∧x≤9223372036854775807:=by
 simp only[Lit.wf,Bool.and_eq_true,decide_eq_true_eq] at h;exact⟨h.1,h.2⟩
theorem add_nn (b off m:Nat):(⟨b,off,none⟩:Addr).add m=⟨b,off+m,none⟩:=by unfold Addr.add;split<;>simp_all
theorem flat_row (xs:List (List Int × Hd)):xs.flatMap rowV=xs.map fun r=>Value.slice r.2.a r.2.n r.2.c:=by
 induction xs with
 |nil=>rfl
 |cons x xs ih=>rw[List.flatMap_cons,ih];rfl
theorem rows_of_trod {H:Type} {enc:TypeId × Value→H} {W:World} {base:Nat} {held:Bool} {r:Reach} {b0:Nat} {v:Value} {d:DataW H} {p:List MemPlace} (hv:Value.okWide Tryz.prog W r b0 22 v) (h:DataW.Trod enc Tryz.prog W base (fun _=>true) held 22 v d p):
  ∃(xs:List (List Int × Hd)) (hh:Hd),v=.slice hh.a hh.n hh.c∧RowAt W rowV xs hh∧∀r∈xs,IR W W.heap.size r:=by
 obtain⟨fuel,hf⟩:=h;obtain⟨A,n,c,rfl⟩:=okWide_slice Tryz.underlying22 hv;rcases Go.Deep.open_int_rows Tryz.underlying22 Tryz.underlying23 Tryz.underlying3 (by kernel_rfl) (by kernel_rfl) hf with⟨hcs,_⟩|⟨a,len,cap,As,L,C,Z,hcs,_,hl,hm,_,hx⟩
 ·have hcs:[Value.slice A n c]=[.slice none 0 0]:=hcs;injection hcs with hcs _;injection hcs with h1 h2 h3;subst h1 h2 h3;exact⟨[],⟨none,0,0⟩,rfl,⟨rfl,Nat.le_refl _,Nat.zero_le _,.inl rfl⟩,fun r hr=>by cases hr⟩
 ·have hcs:[Value.slice A n c]=[.slice (some a) len cap]:=hcs;injection hcs with hcs _;injection hcs with h1 h2 h3;subst h1 h2 h3;refine⟨(List.range n).map fun r=>((Z r).take (L r),⟨As r,L r,C r⟩),⟨some a,n,c⟩,rfl,⟨by simp,hl,hm,?_⟩,fun r hr=>?_⟩
  ·by_cases hn:n=0
   ·subst hn;exact .inl rfl
   ·have h00:=(hx 0 (by omega)).1;obtain⟨b,off,spot⟩:=a
    have hspot:spot=none:=by
     have:=World.cell?_spot h00;simpa [Addr.add] using this
    subst hspot;refine .inr ⟨b,off,rfl,?_,fun i hil=>?_⟩
    ·rw[add_nn] at h00;exact cell_lt h00
    ·have e:((List.range n).map fun r=>(((Z r).take (L r),⟨As r,L r,C r⟩):List Int × Hd)).flatMap rowV=(List.range n).map fun r=>Value.slice (As r) (L r) (C r):=by rw[flat_row,List.map_map];rfl
     have hil':i<n:=by rw[e] at hil;simpa using hil
     have h1:=(hx i (by omega)).1;rw[add_nn] at h1;rw[h1];simp only[e]
     simp
  ·obtain⟨i,hi,rfl⟩:=List.mem_map.1 hr;have hi:i<n:=by simpa using hi
   obtain⟨_,q2,q3,q4,q5,q6,q7⟩:=hx i (by omega);refine⟨by simp only[List.length_take];omega,q2,q3,?_,fun x hx=>i64_in64 (q5 x (List.mem_of_mem_take hx)),fun hne ad had=>?_⟩
   ·by_cases hL:L i=0
    ·simp only[hL,List.take_zero];exact .inl rfl
    ·obtain⟨a',ha⟩:∃a',As i=some a':=by
      cases hA:As i with
      |none=>have:=q6 hA;omega
      |some a'=>exact⟨a',rfl⟩
     have hc:=(q7 a' ha).2;have h00:=hc 0 (by omega);obtain⟨b,off,spot⟩:=a'
     have hspot:spot=none:=by
      have:=World.cell?_spot h00;simpa [Addr.add] using this
     subst hspot;refine .inr ⟨b,off,ha,?_,fun k hk=>?_⟩
     ·rw[add_nn] at h00;exact cell_lt h00
     ·unfold zvs at hk⊢;rw[List.length_map,List.length_take] at hk;have h1:=hc k (by omega);rw[add_nn] at h1;rw[h1,List.getElem_map,List.getElem_take,List.getD_eq_getElem?_getD,List.getElem?_eq_getElem (by omega)];rfl
   ·simp only at had hne
    have hL:0<C i:=by
     rcases Nat.eq_zero_or_pos (C i) with h0|h0
     ·exfalso;apply hne;rw[List.take_eq_nil_iff];right;exact List.length_eq_zero_iff.1 (by omega)
     ·exact h0
    have h00:=(q7 ad had).2 0 hL;exact World.block_lt_of_cell? _ _ h00 |> fun h=>by simpa [Addr.add] using h
theorem okWide_arr {P:Program} {w:World} {r:Reach} {base:Nat} {t:TypeId} {n:Nat} {e:TypeId} {v:Value} (ht:P.underlying t=some (.array n e)) (h:Value.okWide P w r base t v):∃cs,v=.agg cs∧cs.size=P.cellsOf t:=by
 simp only[Value.okWide,ht] at h;obtain⟨cs,h1,h2,_⟩:=h;exact⟨cs,h1,h2⟩
theorem len2t {α:Type}:∀{l:List α},l.length=2→∃a b,l=[a,b]
 |[a,b],_=>⟨a,b,rfl⟩
theorem row_of_trod {H:Type} {enc:TypeId × Value→H} {W:World} {base:Nat} {spare:Nat→Bool} {held:Bool} {r:Reach} {b0:Nat} {v:Value} {d:DataW H} {p:List MemPlace} (hv:Value.okWide Tryz.prog W r b0 23 v) (h:DataW.Trod enc Tryz.prog W base spare held 23 v d p):
  ∃z:List Int × Hd,v=.slice z.2.a z.2.n z.2.c∧IR W W.heap.size z:=by
 obtain⟨fuel,hf⟩:=h;have k1:Tryz.prog.cellsOf 3=1:=by kernel_rfl
 obtain⟨A,n,c,rfl⟩:=okWide_slice Tryz.underlying23 hv;rcases open_ints Tryz.underlying23 Tryz.underlying3 k1 hf with⟨hcs,_⟩|⟨a,len,cap,zs,hcs,hb,hl,hm,hzl,hx,hi,hw⟩
 ·have hcs:[Value.slice A n c]=[.slice none 0 0]:=hcs;injection hcs with hcs _;injection hcs with h1 h2 h3;subst h1 h2 h3;exact⟨([],⟨none,0,0⟩),rfl,rfl,Nat.le_refl _,Nat.zero_le _,.inl rfl,fun x hx=>(by cases hx),fun h=>absurd rfl h⟩
 ·have hcs:[Value.slice A n c]=[.slice (some a) len cap]:=hcs;injection hcs with hcs _;injection hcs with h1 h2 h3;subst h1 h2 h3;have hlz:n≤zs.length:=by rw[hzl];split<;>omega
  have hzn:(zs.take n).length=n:=by rw[List.length_take];omega
  by_cases hn:n=0
  ·subst hn;exact⟨([],⟨some a,0,c⟩),rfl,rfl,Nat.zero_le _,hm,.inl rfl,fun x hx=>(by cases hx),fun h=>absurd rfl h⟩
  ·have h00:=hi 0 (by omega);obtain⟨b,off,spot⟩:=a
   have hspot:spot=none:=by
    have:=World.cell?_spot h00;simpa [Addr.add] using this
   subst hspot;rw[add_nn] at h00;refine⟨(zs.take n,⟨some ⟨b,off,none⟩,n,c⟩),rfl,hzn.symm,hl,hm,.inr ⟨b,off,rfl,cell_lt h00,fun i hil=>?_⟩,fun x hx=>i64_in64 (hw x (List.mem_of_mem_take hx)),fun _ ad had=>?_⟩
   ·have hil':i<n:=by unfold zvs at hil;rw[List.length_map,hzn] at hil;exact hil
    have h1:=hi i (by omega);rw[add_nn] at h1;rw[h1]
    have:(zvs (zs.take n))[i]'hil=.int .i64 (zs.getD i 0):=by
     simp only[zvs,List.getElem_map,List.getElem_take]
     rw[List.getD_eq_getElem?_getD,List.getElem?_eq_getElem (by omega)];rfl
    rw[this]
   ·injection had with had;subst had;exact cell_lt h00
theorem pair_of_trod {H:Type} {enc:TypeId × Value→H} {W:World} {base:Nat} {spare:Nat→Bool} {held:Bool} {r:Reach} {b0:Nat} {v:Value} {d:DataW H} {p:List MemPlace} (hv:Value.okWide Tryz.prog W r b0 24 v) (h:DataW.Trod enc Tryz.prog W base spare held 24 v d p):
  ∃x y:Int,v=.agg #[.int .i64 x,.int .i64 y]∧(-9223372036854775808≤x∧x≤9223372036854775807)∧(-9223372036854775808≤y∧y≤9223372036854775807):=by
 obtain⟨fuel,hf⟩:=h;have k1:Tryz.prog.cellsOf 3=1:=by kernel_rfl
 have k2:Tryz.prog.cellsOf 24=2:=by kernel_rfl
 obtain⟨cs,rfl,hsz⟩:=okWide_arr Tryz.underlying24 hv;obtain⟨cs⟩:=cs;have hcl:cs.length=2:=by rw[←k2];exact hsz
 obtain⟨a0,a1,rfl⟩:=len2t hcl;have hf':DataW.trod enc Tryz.prog W base spare held fuel 24 [a0,a1]=some (d,p):=hf;obtain⟨xs,m,_,ex,hxc,hxl,hx⟩:=DataW.trod_array Tryz.underlying24 hf';rw[k1] at hx;have g0:=hx 0 (by omega);have g1:=hx 1 (by omega);obtain⟨x0,x1,rfl⟩:=len2t hxl;simp only[Nat.mul_one,List.drop_zero,List.take_succ_cons,List.take_zero,List.drop_succ_cons,List.getElem?_cons_zero,List.getElem?_cons_succ] at g0 g1;obtain⟨q0,b0',_,w0⟩:=DataW.trod_int Tryz.underlying3 g0;obtain⟨q1,b1',_,w1⟩:=DataW.trod_int Tryz.underlying3 g1;injection b0' with b0';injection b1' with b1';subst b0' b1';exact⟨q0,q1,rfl,i64_in64 w0,i64_in64 w1⟩
end Go.Proofs.YtkgiaegmkncljaaGreatDoor
