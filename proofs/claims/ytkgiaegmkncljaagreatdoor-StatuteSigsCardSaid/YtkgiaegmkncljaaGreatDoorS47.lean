/- A part of the proof: the row's facts. -/
import Derived.SevenTiedAt
import Derived.KernelRfl
import Derived.Test.YtkgiaegmkncljaaGreatDoorTie
import Derived.Test.YtkgiaegmkncljaaGreatDoorCards
set_option linter.unusedVariables false
set_option linter.unusedSimpArgs false
set_option maxRecDepth 100000
set_option maxHeartbeats 40000000
namespace Go.Proofs.YtkgiaegmkncljaaGreatDoor
theorem sg_fn : Tryz.pinned.checked.prog.funcNamed Rows.statuteSigsRow.func = some 3 := by kernel_rfl
theorem sg_cl : joinedFacts Tryz.pinned.checked.prog 3 Tryz.f3 Rows.statuteSigsSpec Rows.statuteSigsRow = true := by
  unfold joinedFacts
  simp only [Bool.and_eq_true]
  refine ⟨⟨⟨⟨⟨⟨⟨⟨⟨⟨⟨⟨⟨⟨⟨⟨⟨⟨⟨⟨⟨⟨⟨⟨⟨⟨⟨⟨⟨⟨⟨?_, ?_⟩, ?_⟩, ?_⟩, ?_⟩, ?_⟩, ?_⟩, ?_⟩, ?_⟩, ?_⟩, ?_⟩, ?_⟩, ?_⟩, ?_⟩, ?_⟩, ?_⟩, ?_⟩, ?_⟩, ?_⟩, ?_⟩, ?_⟩, ?_⟩, ?_⟩, ?_⟩, ?_⟩, ?_⟩, ?_⟩, ?_⟩, ?_⟩, ?_⟩, ?_⟩, ?_⟩
  all_goals as_aux_lemma => kernel_rfl
end Go.Proofs.YtkgiaegmkncljaaGreatDoor
