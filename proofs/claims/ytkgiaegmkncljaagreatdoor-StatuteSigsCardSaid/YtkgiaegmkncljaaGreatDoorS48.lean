/- A part of the proof: the row. -/
import Derived.Test.YtkgiaegmkncljaaGreatDoorS46
import Derived.Test.YtkgiaegmkncljaaGreatDoorS47
set_option linter.unusedVariables false
set_option linter.unusedSimpArgs false
set_option maxRecDepth 100000
set_option maxHeartbeats 40000000
namespace Go.Proofs.YtkgiaegmkncljaaGreatDoor
open Go.ChangeShapes Go.WideShapes Go.ChangeAt Go.RowKit
theorem sg_f : Tryz.pinned.checked.prog.funcs[3]? = some Tryz.f3 := Tryz.func3
theorem sg_in : Tryz.f3.isInstance Tryz.pinned.checked.prog Rows.statuteSigsRow.origin Rows.statuteSigsRow.targs := of_decide_eq_true (by as_aux_lemma => kernel_rfl)
theorem sg_wr : Tryz.f3.isWrapper Tryz.pinned.checked.prog Rows.statuteSigsRow.wrapper Rows.statuteSigsRow.mainSum := by as_aux_lemma => unfold Func.isWrapper; first | (rw [if_pos (by decide +kernel)]; kernel_rfl) | (rw [if_neg (by decide +kernel)]; exact ⟨rfl, rfl⟩)
theorem statuteSigs_holds : Rows.StatuteSigsSaid :=
  OpenClaim.holds_of_wide 3 Tryz.f3 rfl rfl rfl rfl rfl rfl rfl ⟨rfl, rfl, rfl, rfl, rfl⟩ rfl rfl rfl rfl rfl sg_fn sg_f sg_cl sg_in sg_wr
    (fun os started H enc _ => statuteSigs_lifted os started H enc)
end Go.Proofs.YtkgiaegmkncljaaGreatDoor
