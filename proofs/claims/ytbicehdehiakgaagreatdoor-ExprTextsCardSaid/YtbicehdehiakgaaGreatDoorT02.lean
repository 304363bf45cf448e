/- A part of the proof: P3. -/
import Derived.Test.YtbicehdehiakgaaGreatDoorC33
import Derived.Test.YtbicehdehiakgaaGreatDoorT00
import Derived.Test.YtbicehdehiakgaaGreatDoorT01
set_option linter.unusedVariables false
set_option linter.unusedSimpArgs false
namespace Go.Proofs.YtbicehdehiakgaaGreatDoor
open Go.RowKit
theorem textE_inj {e d : List Nd} (he : checkE e = 0) (hd : checkE d = 0) (h : textE e = textE d) : e = d := by
  have h1 := (parseA_iff (textE e) e).2 ⟨he, rfl⟩
  have h2 := (parseA_iff (textE e) d).2 ⟨hd, h.symm⟩
  rw [h1] at h2
  exact Option.some.inj h2
end Go.Proofs.YtbicehdehiakgaaGreatDoor
