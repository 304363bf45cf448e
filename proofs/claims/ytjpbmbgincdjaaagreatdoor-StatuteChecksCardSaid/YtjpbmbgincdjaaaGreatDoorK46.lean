/- Part: Jk. -/
import Derived.Test.YtjpbmbgincdjaaaGreatDoorK44
import Derived.Test.YtjpbmbgincdjaaaGreatDoorK45
set_option linter.all false
set_option maxRecDepth 100000
set_option maxHeartbeats 0
namespace Go.Proofs.YtjpbmbgincdjaaaGreatDoor
open Go.ChangeShapes Go.WideShapes Go.ChangeAt Go.RowKit Go.Proofs.Tryz
section
set_option maxHeartbeats 4000000
theorem amU:Tryz.pinned.checked.prog.funcs[3]?=some Tryz.f3:=func3
theorem ai4:Tryz.f3.isInstance Tryz.pinned.checked.prog Rows.statuteChecksRow.origin Rows.statuteChecksRow.targs:=of_decide_eq_true (by as_aux_lemma=>kernel_rfl)
theorem ai5:Tryz.f3.isWrapper Tryz.pinned.checked.prog Rows.statuteChecksRow.wrapper Rows.statuteChecksRow.mainSum:=by as_aux_lemma=>unfold Func.isWrapper;first|(rw[if_pos (by decide+kernel)];kernel_rfl)|(rw[if_neg (by decide+kernel)];exact⟨rfl,rfl⟩)
theorem Ap:Rows.StatuteChecksSaid:=
 OpenClaim.holds_of_wide 3 Tryz.f3 rfl rfl rfl rfl rfl rfl rfl ⟨rfl,rfl,rfl,rfl,rfl⟩ rfl rfl rfl rfl rfl ai2 amU ai3 ai4 ai5
  (fun os started H enc _=>zY os started H enc)
end
end Go.Proofs.YtjpbmbgincdjaaaGreatDoor
