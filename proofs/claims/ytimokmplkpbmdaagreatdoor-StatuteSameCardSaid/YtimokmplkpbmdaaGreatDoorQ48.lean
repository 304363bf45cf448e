/- A part of the proof: ZG. -/
import Derived.Test.YtimokmplkpbmdaaGreatDoorTie
import Derived.Test.YtimokmplkpbmdaaGreatDoorCards
set_option linter.all false
set_option maxRecDepth 100000
set_option maxHeartbeats 0
namespace Go.Proofs.YtimokmplkpbmdaaGreatDoor
set_option maxHeartbeats 4000000
theorem agn:Tryz.pinned.checked.prog.funcNamed Rows.statuteSameRow.func=some 5:=by kernel_rfl
theorem agp:joinedFacts Tryz.pinned.checked.prog 5 Tryz.f5 Rows.statuteSameSpec Rows.statuteSameRow=true:=by
 unfold joinedFacts;simp only[Bool.and_eq_true]
 refine⟨⟨⟨⟨⟨⟨⟨⟨⟨⟨⟨⟨⟨⟨⟨⟨⟨⟨⟨⟨⟨⟨⟨⟨⟨⟨⟨⟨⟨⟨⟨?_,?_⟩,?_⟩,?_⟩,?_⟩,?_⟩,?_⟩,?_⟩,?_⟩,?_⟩,?_⟩,?_⟩,?_⟩,?_⟩,?_⟩,?_⟩,?_⟩,?_⟩,?_⟩,?_⟩,?_⟩,?_⟩,?_⟩,?_⟩,?_⟩,?_⟩,?_⟩,?_⟩,?_⟩,?_⟩,?_⟩,?_⟩
 all_goals as_aux_lemma=>kernel_rfl
end Go.Proofs.YtimokmplkpbmdaaGreatDoor
