/- Part: Ji. -/
import Derived.Test.YtjpbmbgincdjaaaGreatDoorTie
import Derived.Test.YtjpbmbgincdjaaaGreatDoorCards
set_option linter.all false
set_option maxRecDepth 100000
set_option maxHeartbeats 0
namespace Go.Proofs.YtjpbmbgincdjaaaGreatDoor
section
set_option maxHeartbeats 4000000
theorem ai2:Tryz.pinned.checked.prog.funcNamed Rows.statuteChecksRow.func=some 3:=by kernel_rfl
theorem ai3:joinedFacts Tryz.pinned.checked.prog 3 Tryz.f3 Rows.statuteChecksSpec Rows.statuteChecksRow=true:=by
 unfold joinedFacts;simp only[Bool.and_eq_true]
 refine⟨⟨⟨⟨⟨⟨⟨⟨⟨⟨⟨⟨⟨⟨⟨⟨⟨⟨⟨⟨⟨⟨⟨⟨⟨⟨⟨⟨⟨⟨⟨?_,?_⟩,?_⟩,?_⟩,?_⟩,?_⟩,?_⟩,?_⟩,?_⟩,?_⟩,?_⟩,?_⟩,?_⟩,?_⟩,?_⟩,?_⟩,?_⟩,?_⟩,?_⟩,?_⟩,?_⟩,?_⟩,?_⟩,?_⟩,?_⟩,?_⟩,?_⟩,?_⟩,?_⟩,?_⟩,?_⟩,?_⟩
 all_goals as_aux_lemma=>kernel_rfl
end
end Go.Proofs.YtjpbmbgincdjaaaGreatDoor
