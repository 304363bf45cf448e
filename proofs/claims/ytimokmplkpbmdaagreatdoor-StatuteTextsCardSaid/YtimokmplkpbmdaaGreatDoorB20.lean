/- A part of the proof: Gb. -/
import Derived.Test.YtimokmplkpbmdaaGreatDoorB19
set_option linter.all false
set_option maxRecDepth 100000
set_option maxHeartbeats 0
namespace Go.Proofs.YtimokmplkpbmdaaGreatDoor
open Go.RowKit
def S (st:List (List UInt8)):List Value:=st.map fun l=>.string ⟨l.toArray⟩
theorem ba_eq {v:ByteArray} {l:List UInt8} (h:v.data.toList=l):v=⟨l.toArray⟩:=by subst h;obtain⟨⟨x⟩⟩:=v;rfl
theorem ba_app (x y:ByteArray):(x++y).data.toList=x.data.toList++y.data.toList:=by rw[ByteArray.data_append,Array.toList_append]
theorem ba_size (v:ByteArray):v.size=v.data.toList.length:=by simp
theorem name_len {n:Nd} (h:wrongN n=0):n.name.size<=20:=by
 rcases wrongN_ways n with h'|h'|h'|h'|h'|h'|h'
 ·rw[h] at h';exact absurd h'.2 (by decide)
 ·rw[h] at h';exact absurd h'.2.2 (by decide)
 ·rw[h] at h';exact absurd h'.2.2.2 (by decide)
 ·rw[h] at h';exact absurd h'.2.2.2.2.2 (by decide)
 ·have:=(emp_nil _).1 h'.2.2.2.2.1;rw[this];show 0<=20;omega
 ·rw[h] at h';exact absurd h'.2.2.2.2.2 (by decide)
 ·have:=h'.2.2.2.2.1;unfold nameB at this;simp only[Bool.and_eq_true,decide_eq_true_eq] at this;have:=this.1.2;rw[ba_size];exact this
def RetText (es:List Nd) (w:World) (e:Ending) (w':World):Prop:=
 e=.returned (.tuple #[.string ⟨(if checkE es=0 then textE es else []).toArray⟩,.int .i64 (checkE es)])/\Below w.heap.size w w'
end Go.Proofs.YtimokmplkpbmdaaGreatDoor
