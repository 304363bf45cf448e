/- A part of the proof: X3. -/
import Derived.Test.YtimokmplkpbmdaaGreatDoorL06
import Derived.Test.YtimokmplkpbmdaaGreatDoorL07
set_option linter.all false
set_option maxRecDepth 100000
set_option maxHeartbeats 0
namespace Go.Proofs.YtimokmplkpbmdaaGreatDoor
open Go.ChangeShapes Go.WideShapes Go.ChangeAt Go.RowKit
set_option maxHeartbeats 4000000
theorem ls_f:Tryz.pinned.checked.prog.funcs[3]?=some Tryz.f3:=Tryz.func3
theorem ls_in:Tryz.f3.isInstance Tryz.pinned.checked.prog Rows.statuteLessRow.origin Rows.statuteLessRow.targs:=of_decide_eq_true (by as_aux_lemma=>kernel_rfl)
theorem ls_wr:Tryz.f3.isWrapper Tryz.pinned.checked.prog Rows.statuteLessRow.wrapper Rows.statuteLessRow.mainSum:=by as_aux_lemma=>unfold Func.isWrapper;first|(rw[if_pos (by decide+kernel)];kernel_rfl)|(rw[if_neg (by decide+kernel)];exact⟨rfl,rfl⟩)
theorem statuteLess_holds:Rows.StatuteLessSaid:=
 OpenClaim.holds_of_wide 3 Tryz.f3 rfl rfl rfl rfl rfl rfl rfl ⟨rfl,rfl,rfl,rfl,rfl⟩ rfl rfl rfl rfl rfl ls_fn ls_f ls_cl ls_in ls_wr
  (fun os started H enc _=>statuteLess_lifted os started H enc)
end Go.Proofs.YtimokmplkpbmdaaGreatDoor
