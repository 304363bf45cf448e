/- A part of the proof: R5 R6 R7 R8. -/
import Derived.Test.YtfajelpcfnfjkaaGreatDoorA06
import Derived.Test.YtfajelpcfnfjkaaGreatDoorA08
set_option linter.unusedVariables false
set_option linter.unusedSimpArgs false
namespace Go.Proofs.YtfajelpcfnfjkaaGreatDoor
open Go.RowKit
theorem toList_nbs (n:Nat):(nbs n).toList=nb n:=by rw[ByteArray.toList_eq];rfl
def RetSgn (w:World) (n m:Nat) (e:Ending) (w':World):Prop:=
 ∃z:Int,e=.returned (.int .i64 z)∧(z<0↔n<m)∧(z=0↔n=m)∧Below w.heap.size w w'
theorem RetSgn.lt {w w':World} {n m:Nat} {z:Int} (h:n<m) (hz:z<0) (hb:Below w.heap.size w w'):RetSgn w n m (.returned (.int .i64 z)) w':=
 ⟨z,rfl,by omega,by omega,hb⟩
theorem RetSgn.eq {w w':World} {n m:Nat} (h:n=m) (hb:Below w.heap.size w w'):RetSgn w n m (.returned (.int .i64 0)) w':=
 ⟨0,rfl,by omega,by omega,hb⟩
end Go.Proofs.YtfajelpcfnfjkaaGreatDoor
