/- A part of the proof: Gb. -/
import Derived.Test.YtimokmplkpbmdaaGreatDoorQ19
set_option linter.all false
set_option maxRecDepth 100000
set_option maxHeartbeats 0
namespace Go.Proofs.YtimokmplkpbmdaaGreatDoor
open Go.RowKit
def S (st:List (List UInt8)):List Value:=st.map fun l=>.string ⟨l.toArray⟩
theorem ba_eq {v:ByteArray} {l:List UInt8} (h:v.data.toList=l):v=⟨l.toArray⟩:=by subst h;obtain⟨⟨x⟩⟩:=v;rfl
theorem aep (x y:ByteArray):(x++y).data.toList=x.data.toList++y.data.toList:=by rw[ByteArray.data_append,Array.toList_append]
theorem yZ (v:ByteArray):v.size=v.data.toList.length:=by simp
def meas (st:List (List UInt8)):Nat:=(st.map List.length).sum+2*st.length
theorem TU (st:List (List UInt8)) (r:Nat):meas st=meas (st.take r)+meas (st.drop r):=by
 unfold meas
 conv=>lhs;rw[<-List.take_append_drop r st]
 rw[List.map_append,List.sum_append,List.length_append];omega
theorem MN {n:Nd} (h:aQ n=0):n.name.size<=20:=by
 rcases Ew n with h'|h'|h'|h'|h'|h'|h'
 ·rw[h] at h';exact absurd h'.2 (by decide)
 ·rw[h] at h';exact absurd h'.2.2 (by decide)
 ·rw[h] at h';exact absurd h'.2.2.2 (by decide)
 ·rw[h] at h';exact absurd h'.2.2.2.2.2 (by decide)
 ·have:=(DI _).1 h'.2.2.2.2.1;rw[this];show 0<=20;omega
 ·rw[h] at h';exact absurd h'.2.2.2.2.2 (by decide)
 ·have:=h'.2.2.2.2.1;unfold nameB at this;simp only[Bool.and_eq_true,decide_eq_true_eq] at this;have:=this.1.2;rw[yZ];exact this
def DK (es:List Nd) (w:World) (e:Ending) (w':World):Prop:=
 e=.returned (.tuple #[.string ⟨(if bQ es=0 then textE es else []).toArray⟩,.int .i64 (bQ es)])/\Below w.heap.size w w'
end Go.Proofs.YtimokmplkpbmdaaGreatDoor
