/- StatuteChecks: sigs, errors and texts of laws, and of laws in which something is changed, are those of the reference model -/
import Derived.Test.YtjpbmbgincdjaaaGreatDoorK46
set_option linter.all false
set_option maxRecDepth 100000
set_option maxHeartbeats 0
namespace Go.Proofs.YtjpbmbgincdjaaaGreatDoor
open Go.ChangeShapes Go.WideShapes Go.ChangeAt Go.RowKit List Go.Proofs.Tryz
theorem statuteChecks_card:Rows.StatuteChecksCardSaid:=
 Claim7.holds_tied_plain_at .later [] [.data,.data,.data,.data,.sentinel,.sentinel,.widerDeep,.data,.data,.data,.data,.data,.pinned] true Rows.statuteChecksCard.stood.harness true
  Ap (fun _ h=>by cases h) (by as_aux_lemma=>kernel_rfl) (fun _ h=>by cases h) statuteChecks_row_tie rfl ⟨rfl,rfl⟩ (by as_aux_lemma=>kernel_rfl) rfl
  (fun f fn hf hfn=>by
    obtain rfl:f=3:=Option.some.inj ((show prog.funcNamed "tithing/tithinglaw11.StatuteChecks" =some 3 by kernel_rfl).symm.trans hf) |>.symm
    obtain rfl:fn=Tryz.f3:=(Option.some.inj (func3.symm.trans hfn)).symm
    exact⟨by kernel_rfl,fun j t ht=>by
     rw[params3] at ht;have hm:t∈[22,23]:=by simpa using Array.mem_of_getElem? ht
     have hall:([22,23].all fun u=> !prog.wantsStandIn u)=true:=by kernel_rfl
     exact (show prog.wantsStandIn t=false by simpa using all_eq_true.1 hall t hm)⟩)
  (by as_aux_lemma=>kernel_rfl)
end Go.Proofs.YtjpbmbgincdjaaaGreatDoor
