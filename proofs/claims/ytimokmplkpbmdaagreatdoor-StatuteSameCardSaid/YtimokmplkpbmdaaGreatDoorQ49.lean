/- A part of the proof: ZH. -/
import Derived.Test.YtimokmplkpbmdaaGreatDoorQ47
import Derived.Test.YtimokmplkpbmdaaGreatDoorQ48
set_option linter.all false
set_option maxRecDepth 100000
set_option maxHeartbeats 0
namespace Go.Proofs.YtimokmplkpbmdaaGreatDoor
open Go.ChangeShapes Go.WideShapes Go.ChangeAt Go.RowKit
set_option maxHeartbeats 4000000
theorem ai0:Tryz.pinned.checked.prog.funcs[5]?=some Tryz.f5:=Tryz.func5
theorem agq:Tryz.f5.isInstance Tryz.pinned.checked.prog Rows.statuteSameRow.origin Rows.statuteSameRow.targs:=of_decide_eq_true (by as_aux_lemma=>kernel_rfl)
theorem agr:Tryz.f5.isWrapper Tryz.pinned.checked.prog Rows.statuteSameRow.wrapper Rows.statuteSameRow.mainSum:=by as_aux_lemma=>unfold Func.isWrapper;first|(rw[if_pos (by decide+kernel)];kernel_rfl)|(rw[if_neg (by decide+kernel)];exact⟨rfl,rfl⟩)
theorem D8:Rows.StatuteSameSaid:=
 OpenClaim.holds_of_wide 5 Tryz.f5 rfl rfl rfl rfl rfl rfl rfl ⟨rfl,rfl,rfl,rfl,rfl⟩ rfl rfl rfl rfl rfl agn ai0 agp agq agr
  (fun os started H enc _=>Dy os started H enc)
end Go.Proofs.YtimokmplkpbmdaaGreatDoor
