/- A part of the proof: P4. -/
import Derived.Test.YtimokmplkpbmdaaGreatDoorQ26
set_option linter.all false
set_option maxRecDepth 100000
set_option maxHeartbeats 0

