/- A part of the proof: Gc Lc. -/
import Derived.Test.YtbicehdehiakgaaGreatDoorC32
import Derived.Test.YtbicehdehiakgaaGreatDoorR00
set_option linter.unusedVariables false
set_option linter.unusedSimpArgs false
namespace Go.Proofs.YtbicehdehiakgaaGreatDoor
open Go.RowKit
set_option maxRecDepth 100000 in
set_option maxHeartbeats 800000 in
theorem gBefore_any (a b : Nd) (w : World) : Calls Tryz.prog 76 #[a.v, b.v] w fun e w' => e = .returned (.bool (befN a b)) ∧ Below w.heap.size w w' := by
  have HP : Hid (befN a b = (decide (a.op < b.op) || (decide (a.op = b.op) && Op.bytesLess a.name.toList b.name.toList))) := rfl
  generalize befN a b = r at *
  obtain ⟨op, ⟨neg, num, den⟩, nm⟩ := a
  obtain ⟨op', ⟨neg', num', den'⟩, nm'⟩ := b
  simp only at HP
  obtain ⟨s, hs⟩ : ∃ s, Op.bytesLess nm.toList nm'.toList = s := ⟨_, rfl⟩
  rw [hs] at HP
  unfold Nd.v
  simp only
  rcases Int.lt_trichotomy op op' with h | h | h
  · have h1 : decide (op < op') = true := decide_eq_true h
    rw [h1] at HP
    go_enter Tryz.func76, Tryz.ntmps76
    go_wp2
    go_ret
    exact ⟨by rw [HP.out]; rfl, ((Below.refl _ _).alloc (Nat.le_refl _) _).alloc (by rw [World.size_alloc]; omega) _⟩
  · subst h
    have h1 : decide (op < op) = false := decide_eq_false (Int.lt_irrefl _)
    have h1' : ¬ op < op := Int.lt_irrefl _
    rw [h1, decide_eq_true (rfl : op = op)] at HP
    cases s
    all_goals
      go_enter Tryz.func76, Tryz.ntmps76
      go_wp2
      go_ret
      exact ⟨by rw [HP.out]; rfl, ((Below.refl _ _).alloc (Nat.le_refl _) _).alloc (by rw [World.size_alloc]; omega) _⟩
  · have h1 : decide (op < op') = false := decide_eq_false (by omega)
    have h2 : decide (op = op') = false := decide_eq_false (by omega)
    have h2' : (op == op') = false := by simpa using (show ¬ op = op' from by omega)
    have h3 : ¬ op < op' := by omega
    rw [h1, h2] at HP
    go_enter Tryz.func76, Tryz.ntmps76
    go_wp2
    go_ret
    exact ⟨by rw [HP.out]; rfl, ((Below.refl _ _).alloc (Nat.le_refl _) _).alloc (by rw [World.size_alloc]; omega) _⟩
end Go.Proofs.YtbicehdehiakgaaGreatDoor
namespace Go.Proofs.YtbicehdehiakgaaGreatDoor
open Go.RowKit
def cutS (k : Nat) (s : ByteArray) : ByteArray := s.extract 0 (min (s.size : Int) (k : Int)).toNat
theorem cutS_size (k : Nat) (s : ByteArray) : (cutS k s).size ≤ k := by unfold cutS; rw [ByteArray.size_extract]; omega
def cutN (n : Nd) : Nd := ⟨n.op, ⟨n.num.neg, cutS 60 n.num.num, cutS 60 n.num.den⟩, cutS 30 n.name⟩
def cutL (e : List Nd) : List Nd := (e.take 64).map cutN
theorem cutL_fine (e : List Nd) : ∀ n ∈ cutL e, Fine n := by
  intro n hn
  obtain ⟨m, _, rfl⟩ := List.mem_map.1 hn
  exact ⟨Nat.le_trans (cutS_size 60 m.num.num) (by omega), Nat.le_trans (cutS_size 60 m.num.den) (by omega)⟩
set_option maxRecDepth 100000 in
set_option maxHeartbeats 3200000 in
theorem lcut_any (es : List Nd) (A1 : Option Addr) (l1 c1 : Nat) (w : World) (h1 : Es w es A1 l1 c1) :
    Calls Tryz.prog 13 #[.slice A1 l1 c1] w fun e w' => ∃ A n c, e = .returned (.slice A n c) ∧ Es w' (cutL es) A n c ∧ Below w.heap.size w w' := by
  have H1 := Lib.hid h1
  have hmx : l1 ≤ maxLen := Nat.le_trans h1.cap h1.max
  unfold maxLen at hmx
  clear h1
  go_enter Tryz.func13, Tryz.ntmps13
  go_wp2
  go_loopg [3, 4] l1 (fun g ov iv wr => ∃ (k : Nat) (os : List Nd), k + g = l1 ∧ k ≤ 64 ∧ iv = .int .i64 k ∧ Hid (wr.ownsRow w.heap.size 33 5 ov k (nds os)) ∧ Hid (os = (es.take k).map cutN) ∧ Below w.heap.size w wr)
  case atStart => exact ⟨0, [], by omega, by omega, rfl, World.ownsRow_nil _ _ _ _, rfl, Below.refl _ _⟩
  case round =>
    obtain ⟨k, os, hk, hk64, rfl, hown, hos, hbr⟩ := hrel
    by_cases hlt : k < l1
    · by_cases h64 : k < 64
      · have hke : k < es.length := by rw [← H1.out.len]; exact hlt
        have h64' : (k : Int) < 64 := by omega
        obtain ⟨b, off, hA, hb, hc0, hc1, hc2, hc3, hc4⟩ := (H1.out.rd.below hbr).nd hke
        subst hA
        have HT : Hid ((es.take (k + 1)).map cutN = os ++ [cutN es[k]]) := by
          show _ = _
          rw [List.take_succ_eq_append_getElem hke, List.map_append, ← hos.out]; rfl
        generalize es[k] = n at *
        obtain ⟨op, ⟨neg, num, den⟩, nm⟩ := n
        simp only at hc0 hc1 hc2 hc3 hc4 HT
        have HC : Hid (cutN ⟨op, ⟨neg, num, den⟩, nm⟩ = ⟨op, ⟨neg, num.extract 0 (min (num.size : Int) 60).toNat, den.extract 0 (min (den.size : Int) 60).toNat⟩, nm.extract 0 (min (nm.size : Int) 30).toNat⟩) := rfl
        have HBA : Hid (Below w.heap.size w (wr.alloc (.cells #[.int .i64 op, .bool neg, .string (num.extract 0 (min (num.size : Int) 60).toNat), .string (den.extract 0 (min (den.size : Int) 60).toNat), .string (nm.extract 0 (min (nm.size : Int) 30).toNat)] 33))) := hbr.alloc hbr.size _
        have HOA := Lib.hid (hown.out.alloc (.cells #[.int .i64 op, .bool neg, .string (num.extract 0 (min (num.size : Int) 60).toNat), .string (den.extract 0 (min (den.size : Int) 60).toNat), .string (nm.extract 0 (min (nm.size : Int) 30).toNat)] 33))
        clear hos hbr hown
        go_wp2_with (at_builtin; go_must (refine wpList_push (wr.alloc (.cells #[.int .i64 op, .bool neg, .string (num.extract 0 (min (num.size : Int) 60).toNat), .string (den.extract 0 (min (den.size : Int) 60).toNat), .string (nm.extract 0 (min (nm.size : Int) 30).toNat)] 33)) #[.int .i64 op, .bool neg, .string (num.extract 0 (min (num.size : Int) 60).toNat), .string (den.extract 0 (min (den.size : Int) 60).toNat), .string (nm.extract 0 (min (nm.size : Int) 30).toNat)] rfl _ _ 22 rfl w.heap.size 33 _ 5 64 1 Tryz.underlying22 info_node rfl (by decide) u3 k (nds os) rfl HOA.out (by rw [World.size_alloc]; rfl) rfl ?_ ?_ ?_ ?_ ?_))
        any_goals first | (unfold maxLen; omega) | omega
        · exact ⟨rfl, rfl, rfl, rfl, rfl⟩
        · exact HBA.out.size
        intro v' w' hown' hb'
        have HOWN : Hid (w'.ownsRow w.heap.size 33 5 v' (k + 1) (nds (os ++ [cutN ⟨op, ⟨neg, num, den⟩, nm⟩]))) := by
          show World.ownsRow _ _ _ _ _ _ _
          rw [nds_append, HC.out]; exact hown'
        have HB := Lib.hid (HBA.out.trans hb')
        clear hown' hb' HBA HOA
        go_wp2
        go_roundg (l1 - (k + 1))
        case measure => omega
        case rel => exact ⟨k + 1, os ++ [cutN ⟨op, ⟨neg, num, den⟩, nm⟩], by omega, by omega, by go_num, HOWN, HT.out.symm, HB.out⟩
      · have h64' : decide ((k : Int) < 64) = false := by rw [decide_eq_false_iff_not]; omega
        have hx1 : (k : Int) < l1 := by omega
        have hT : Hid (os = cutL es) := by
          show _ = _
          rw [hos.out]; unfold cutL; rw [show k = 64 from by omega]
        have hlen : os.length = k := by rw [hos.out, List.length_map, List.length_take]; have := H1.out.len; omega
        obtain ⟨A, cp, rfl, g1, g2, g3, g4⟩ := own_rd hown.out
        have HBR := Lib.hid hbr
        have G3 : Hid (Es wr os A k cp) := ⟨hlen.symm, g1, g2, g3⟩
        clear hbr g1 g2 g3 g4 hown hlen hos
        go_wp2
        go_ret
        exact ⟨A, k, cp, rfl, by rw [← hT.out]; exact G3.out, HBR.out⟩
    · have hkl : k = l1 := by omega
      have hx1 : decide ((k : Int) < l1) = false := by rw [decide_eq_false_iff_not]; omega
      have hT : Hid (os = cutL es) := by
        show _ = _
        rw [hos.out]; unfold cutL; rw [List.take_of_length_le (by have := H1.out.len; omega), List.take_of_length_le (by have := H1.out.len; omega)]
      have hlen : os.length = k := by rw [hos.out, List.length_map, List.length_take]; have := H1.out.len; omega
      obtain ⟨A, cp, rfl, g1, g2, g3, g4⟩ := own_rd hown.out
      have HBR := Lib.hid hbr
      have G3 : Hid (Es wr os A k cp) := ⟨hlen.symm, g1, g2, g3⟩
      clear hbr g1 g2 g3 g4 hown hlen hos
      go_wp2
      go_ret
      exact ⟨A, k, cp, rfl, by rw [← hT.out]; exact G3.out, HBR.out⟩
end Go.Proofs.YtbicehdehiakgaaGreatDoor
