/- A part of the proof: ZB. -/
import Derived.Test.YtimokmplkpbmdaaGreatDoorTie
import Derived.Test.YtimokmplkpbmdaaGreatDoorCards
set_option linter.all false
set_option maxRecDepth 100000
set_option maxHeartbeats 0
namespace Go.Proofs.YtimokmplkpbmdaaGreatDoor
set_option maxHeartbeats 4000000
theorem tx_fn:Tryz.pinned.checked.prog.funcNamed Rows.statuteTextsRow.func=some 4:=by kernel_rfl
theorem tx_cl:joinedFacts Tryz.pinned.checked.prog 4 Tryz.f4 Rows.statuteTextsSpec Rows.statuteTextsRow=true:=by
 unfold joinedFacts;simp only[Bool.and_eq_true]
 refine⟨⟨⟨⟨⟨⟨⟨⟨⟨⟨⟨⟨⟨⟨⟨⟨⟨⟨⟨⟨⟨⟨⟨⟨⟨⟨⟨⟨⟨⟨⟨?_,?_⟩,?_⟩,?_⟩,?_⟩,?_⟩,?_⟩,?_⟩,?_⟩,?_⟩,?_⟩,?_⟩,?_⟩,?_⟩,?_⟩,?_⟩,?_⟩,?_⟩,?_⟩,?_⟩,?_⟩,?_⟩,?_⟩,?_⟩,?_⟩,?_⟩,?_⟩,?_⟩,?_⟩,?_⟩,?_⟩,?_⟩
 all_goals as_aux_lemma=>kernel_rfl
end Go.Proofs.YtimokmplkpbmdaaGreatDoor
