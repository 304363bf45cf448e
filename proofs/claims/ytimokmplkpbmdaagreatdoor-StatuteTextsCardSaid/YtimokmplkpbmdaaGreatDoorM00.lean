/- A part of the proof: E3. -/
import Derived.Test.YtimokmplkpbmdaaGreatDoorB18
set_option linter.all false
set_option maxRecDepth 100000
set_option maxHeartbeats 0
namespace Go.Proofs.YtimokmplkpbmdaaGreatDoor
open Go.RowKit
theorem equalIn_nd (d:Nat) (a b:Nd) (w:World):(Op.equalIn (d+3) 49 a.v b.v).run Tryz.prog w=.ok (decide (a=b)) w:=by
 have u1:=Tryz.underlying4;have u2:=Tryz.underlying41;have u3:=Tryz.underlying3;have u4:=Tryz.underlying9;have hS:Tryz.prog.underlying 49=some (.struct (Tryz.prog.fieldsOf 49)):=by kernel_rfl
 have hp:Tryz.prog.stoodInHeld 49=false:=by kernel_rfl
 have hR:=fun (n1 n2:Bool) (u1 u2 d1 d2:ByteArray) (w:World)=>equalIn_ra d ⟨n1,u1,d1⟩ ⟨n2,u2,d2⟩ w
 simp only[Ra.v] at hR;simp only[Nd.v]
 rw[run_equalIn_agg w (d+2) 49 _ _ hS hp];simp only[Program.fieldsOf,Tryz.underlying49]
 go_simp;by_cases h:a=b
 ·subst h;simp
 ·rw[decide_eq_false h];split
  ·next h1=>
   split
   ·rfl
   ·next h2=>
    split
    ·next h3=>
     exfalso;apply h;obtain⟨o,⟨n,u,e⟩,nm⟩:=a;obtain⟨o',⟨n',u',e'⟩,nm'⟩:=b;simp only at h1 h2 h3
     have h4:n=n'/\u=u'/\e=e':=by
      refine Classical.byContradiction fun hc=>h2 fun g1 g2 g3=>hc ⟨g1,g2,g3⟩
     rw[h1,h4.1,h4.2.1,h4.2.2,toList_inj h3]
    ·rfl
  ·rfl
theorem neq_nd (a b:Nd) (w:World):(binOp .neq 49 a.v b.v).run Tryz.prog w=.ok (.bool (!decide (a=b))) w:=by
 have h:=equalIn_nd 9997 a b w;simp only[Nd.v] at h⊢;rw[run_neq_struct,show (10000:Nat)=9997+3 from rfl,h];rfl
end Go.Proofs.YtimokmplkpbmdaaGreatDoor
