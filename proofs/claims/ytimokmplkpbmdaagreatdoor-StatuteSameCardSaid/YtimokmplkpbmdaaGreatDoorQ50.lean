/- Two right laws are equal exactly if their texts are, and as in the reference model. Conditions: the package-level variables that the row lists hold what the program's own text lays in them. -/
import Derived.Test.YtimokmplkpbmdaaGreatDoorQ49
set_option linter.all false
set_option maxRecDepth 100000
set_option maxHeartbeats 0
namespace Go.Proofs.YtimokmplkpbmdaaGreatDoor
open Go.ChangeShapes Go.WideShapes Go.ChangeAt Go.RowKit
theorem statuteSame_card:Rows.StatuteSameCardSaid:=
 Claim7.holds_tied_plain_at .later [] [.data,.data,.data,.data,.sentinel,.sentinel,.widerDeep,.data,.data,.data,.data,.data,.pinned] true Rows.statuteSameCard.stood.harness true
  D8 (fun _ h=>by cases h) (by as_aux_lemma=>kernel_rfl) (fun _ h=>by cases h) statuteSame_row_tie rfl ⟨rfl,rfl⟩ (by as_aux_lemma=>kernel_rfl) rfl
  (fun f fn hf hfn=>by
    obtain rfl:f=5:=Option.some.inj ((show Tryz.prog.funcNamed "tithing/tithinglaw11.StatuteSame" =some 5 by kernel_rfl).symm.trans hf) |>.symm
    obtain rfl:fn=Tryz.f5:=(Option.some.inj (Tryz.func5.symm.trans hfn)).symm
    exact⟨by kernel_rfl,fun j t ht=>by
     rw[Tryz.params5] at ht;have hm:t∈[22,22,58]:=by simpa using Array.mem_of_getElem? ht
     have hall:([22,22,58].all fun u=> !Tryz.prog.wantsStandIn u)=true:=by kernel_rfl
     exact (show Tryz.prog.wantsStandIn t=false by simpa using List.all_eq_true.1 hall t hm)⟩)
  (by as_aux_lemma=>kernel_rfl)
end Go.Proofs.YtimokmplkpbmdaaGreatDoor
