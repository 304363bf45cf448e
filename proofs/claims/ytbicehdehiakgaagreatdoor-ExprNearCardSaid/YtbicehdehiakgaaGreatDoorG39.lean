/- A part of the proof: Ln M8. -/
import Derived.Deep.RegionLaw
import Derived.Lib.LazyBuf
import Derived.SevenTiedAt
import Derived.Test.YtbicehdehiakgaaGreatDoorTie
import Derived.Test.YtbicehdehiakgaaGreatDoorCards
import Derived.Test.YtbicehdehiakgaaGreatDoorG27
import Derived.Test.YtbicehdehiakgaaGreatDoorG34
import Derived.Test.YtbicehdehiakgaaGreatDoorG37
import Derived.Test.YtbicehdehiakgaaGreatDoorG38
set_option linter.unusedVariables false
set_option linter.unusedSimpArgs false

