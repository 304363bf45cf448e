/- A part of the proof: ZC. -/
import Derived.Test.YtimokmplkpbmdaaGreatDoorM06
import Derived.Test.YtimokmplkpbmdaaGreatDoorM07
set_option linter.all false
set_option maxRecDepth 100000
set_option maxHeartbeats 0
namespace Go.Proofs.YtimokmplkpbmdaaGreatDoor
open Go.ChangeShapes Go.WideShapes Go.ChangeAt Go.RowKit
set_option maxHeartbeats 4000000
theorem tx_f:Tryz.pinned.checked.prog.funcs[4]?=some Tryz.f4:=Tryz.func4
theorem tx_in:Tryz.f4.isInstance Tryz.pinned.checked.prog Rows.statuteTextsRow.origin Rows.statuteTextsRow.targs:=of_decide_eq_true (by as_aux_lemma=>kernel_rfl)
theorem tx_wr:Tryz.f4.isWrapper Tryz.pinned.checked.prog Rows.statuteTextsRow.wrapper Rows.statuteTextsRow.mainSum:=by as_aux_lemma=>unfold Func.isWrapper;first|(rw[if_pos (by decide+kernel)];kernel_rfl)|(rw[if_neg (by decide+kernel)];exact⟨rfl,rfl⟩)
theorem statuteTexts_holds:Rows.StatuteTextsSaid:=
 OpenClaim.holds_of_wide 4 Tryz.f4 rfl rfl rfl rfl rfl rfl rfl ⟨rfl,rfl,rfl,rfl,rfl⟩ rfl rfl rfl rfl rfl tx_fn tx_f tx_cl tx_in tx_wr
  (fun os started H enc _=>statuteTexts_lifted os started H enc)
end Go.Proofs.YtimokmplkpbmdaaGreatDoor
