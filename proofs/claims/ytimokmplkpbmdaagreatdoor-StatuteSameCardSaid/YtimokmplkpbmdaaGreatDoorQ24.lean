/- A part of the proof: Eh Ei. -/
import Derived.Handy
import Derived.Test.YtimokmplkpbmdaaGreatDoorQ21
set_option linter.all false
set_option maxRecDepth 100000
set_option maxHeartbeats 0

