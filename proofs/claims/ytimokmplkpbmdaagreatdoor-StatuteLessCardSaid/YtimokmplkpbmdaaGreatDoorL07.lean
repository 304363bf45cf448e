/- A part of the proof: X2. -/
import Derived.Test.YtimokmplkpbmdaaGreatDoorTie
import Derived.Test.YtimokmplkpbmdaaGreatDoorCards
set_option linter.all false
set_option maxRecDepth 100000
set_option maxHeartbeats 0
namespace Go.Proofs.YtimokmplkpbmdaaGreatDoor
set_option maxHeartbeats 4000000
theorem ls_fn:Tryz.pinned.checked.prog.funcNamed Rows.statuteLessRow.func=some 3:=by kernel_rfl
theorem ls_cl:joinedFacts Tryz.pinned.checked.prog 3 Tryz.f3 Rows.statuteLessSpec Rows.statuteLessRow=true:=by
 unfold joinedFacts;simp only[Bool.and_eq_true]
 refine⟨⟨⟨⟨⟨⟨⟨⟨⟨⟨⟨⟨⟨⟨⟨⟨⟨⟨⟨⟨⟨⟨⟨⟨⟨⟨⟨⟨⟨⟨⟨?_,?_⟩,?_⟩,?_⟩,?_⟩,?_⟩,?_⟩,?_⟩,?_⟩,?_⟩,?_⟩,?_⟩,?_⟩,?_⟩,?_⟩,?_⟩,?_⟩,?_⟩,?_⟩,?_⟩,?_⟩,?_⟩,?_⟩,?_⟩,?_⟩,?_⟩,?_⟩,?_⟩,?_⟩,?_⟩,?_⟩,?_⟩
 all_goals as_aux_lemma=>kernel_rfl
end Go.Proofs.YtimokmplkpbmdaaGreatDoor
