/- The proof of the statement, a part of it: E5. -/
import Derived.Test.YtbicehdehiakgaaGreatDoorC23
set_option linter.unusedVariables false
set_option linter.unusedSimpArgs false
namespace Go.Proofs.YtbicehdehiakgaaGreatDoor
open Go.RowKit
theorem shp_facts (k : Nat) (h1 : k ≤ 24) : ((shp (k : Int)).lit = true ↔ 1 ≤ k ∧ k ≤ 4) ∧ ((shp (k : Int)).stp = true ↔ 21 ≤ k ∧ k ≤ 23) ∧ ((shp (k : Int)).nam = true ↔ (5 ≤ k ∧ k ≤ 8) ∨ k = 24) := by
  have h : ∀ k ∈ List.range 25, ((shp (k : Int)).lit = true ↔ 1 ≤ k ∧ k ≤ 4) ∧ ((shp (k : Int)).stp = true ↔ 21 ≤ k ∧ k ≤ 23) ∧ ((shp (k : Int)).nam = true ↔ (5 ≤ k ∧ k ≤ 8) ∨ k = 24) := by decide
  exact h k (List.mem_range.2 (by omega))
def RetW (z : Int) (w : World) (e : Ending) (w' : World) : Prop := e = .returned (.int .i64 z) ∧ Below w.heap.size w w'
set_option maxRecDepth 100000 in
set_option maxHeartbeats 1600000 in
theorem wrong_out (n : Nd) (w : World) (h : n.op < 1 ∨ 24 < n.op) : Calls Tryz.prog 48 #[n.v] w (RetW 11 w) := by
  have HO := Lib.hid (fun w => of_no n.op w h)
  obtain ⟨op, ⟨neg, num, den⟩, nm⟩ := n
  unfold Nd.v
  simp only at HO ⊢
  clear h
  obtain ⟨W, hW⟩ : ∃ W, W = w.alloc (.cells #[.int .i64 op, .bool neg, .string num, .string den, .string nm] 33) := ⟨_, rfl⟩
  have hba : Below w.heap.size w W := by rw [hW]; exact (Below.refl _ _).alloc (Nat.le_refl _) _
  have hblk : Blk W w.heap.size 33 [.int .i64 op, .bool neg, .string num, .string den, .string nm] := by rw [hW]; exact Blk.new w _ _
  obtain ⟨B, hB⟩ : ∃ B, B = w.heap.size := ⟨_, rfl⟩
  have HB := Lib.hid hB
  rw [← hB] at hblk hba
  have hc := hblk.cells
  go_enter Tryz.func48, Tryz.ntmps48
  go_wp2_with fail
  simp only [← hW, ← hB]
  clear hW hB
  refine (HO.out _).mono ?_
  rintro e w1 ⟨rfl, hb1⟩
  simp only [Sh.v, sh0]
  go_wp2
  go_ret
  refine ⟨rfl, ?_⟩
  rw [← HB.out]
  exact (hba.trans (hb1.mono (Nat.le_of_lt hblk.lt))).alloc (by have := hb1.size; have := hblk.lt; omega) _
structure Wr (k : Nat) (neg : Bool) (num den nm : ByteArray) (B B2 : Nat) (w W : World) : Prop where
  own : w.heap.size ≤ B
  node : Blk W B 33 [.int .i64 (k : Int), .bool neg, .string num, .string den, .string nm]
  shape : Blk W B2 76 (shp (k : Int)).cells
  below : Below w.heap.size w W
theorem Wr.step {k : Nat} {neg : Bool} {num den nm : ByteArray} {B B2 : Nat} {w W W' : World} (h : Wr k neg num den nm B B2 w W) (hb : Below W.heap.size W W') : Wr k neg num den nm B B2 w W' :=
  ⟨h.own, h.node.below hb h.node.lt, h.shape.below hb h.shape.lt, bstep h.below hb⟩
set_option maxRecDepth 100000 in
set_option maxHeartbeats 1600000 in
theorem wrong_noname (k ops : Nat) (wd : List UInt8) (L S neg : Bool) (num den nm : ByteArray) (w : World) (z : Int) (hL : LaidE w)
    (hO : ∀ w, LaidE w → Calls Tryz.prog 77 #[.int .i64 (k : Int)] w fun e w' => e = .returned (.tuple #[.agg #[.string ⟨wd.toArray⟩, .int .i64 (ops : Int), .bool L, .bool false, .bool S], .bool true]) ∧ Below w.heap.size w w')
    (hnm : (!nm.toList.isEmpty) = true) (hz : z = 11) : Calls Tryz.prog 48 #[.agg #[.int .i64 (k : Int), .bool neg, .string num, .string den, .string nm]] w (RetW z w) := by
  have HO := Lib.hid hO
  clear hO
  obtain ⟨W, hW⟩ : ∃ W, W = w.alloc (.cells #[.int .i64 (k : Int), .bool neg, .string num, .string den, .string nm] 33) := ⟨_, rfl⟩
  have hba : Below w.heap.size w W := by rw [hW]; exact (Below.refl _ _).alloc (Nat.le_refl _) _
  have hblk : Blk W w.heap.size 33 [.int .i64 (k : Int), .bool neg, .string num, .string den, .string nm] := by rw [hW]; exact Blk.new w _ _
  have HLW := Lib.hid (hL.below hba)
  clear hL
  obtain ⟨B, hB⟩ : ∃ B, B = w.heap.size := ⟨_, rfl⟩
  have HB := Lib.hid hB
  rw [← hB] at hblk hba
  have hc := hblk.cells
  have hnm2 : nm.toList.isEmpty = false := by simpa using hnm
  have HW := Lib.hid hz
  clear hz
  go_enter Tryz.func48, Tryz.ntmps48
  go_wp2_with fail
  simp only [← hW, ← hB]
  clear hW hB
  refine (HO.out _ HLW.out).mono ?_
  rintro e w1 ⟨rfl, hb1⟩
  have hk1 := hblk.below hb1 hblk.lt
  have hn2 := hk1.alloc (.cells #[.string ⟨wd.toArray⟩, .int .i64 (ops : Int), .bool L, .bool false, .bool S] 76)
  have hs2 := Blk.new w1 76 #[.string ⟨wd.toArray⟩, .int .i64 (ops : Int), .bool L, .bool false, .bool S]
  have hb2 : Below B w (w1.alloc (.cells #[.string ⟨wd.toArray⟩, .int .i64 (ops : Int), .bool L, .bool false, .bool S] 76)) := (hba.trans (hb1.mono (Nat.le_of_lt hblk.lt))).alloc (by have := hb1.size; have := hblk.lt; omega) _
  have hc2 := hn2.cells
  clear hk1 hb1 hc
  go_wp2
  go_ret
  exact ⟨by rw [HW.out]; rfl, by rw [← HB.out]; exact hb2⟩
set_option maxRecDepth 100000 in
set_option maxHeartbeats 1600000 in
theorem wrong_lit (k ops : Nat) (wd : List UInt8) (neg : Bool) (num den nm : ByteArray) (w : World) (z : Int) (hL : LaidE w)
    (hO : ∀ w, LaidE w → Calls Tryz.prog 77 #[.int .i64 (k : Int)] w fun e w' => e = .returned (.tuple #[.agg #[.string ⟨wd.toArray⟩, .int .i64 (ops : Int), .bool true, .bool false, .bool false], .bool true]) ∧ Below w.heap.size w w')
    (h4 : ((k : Int) == 4) = false) (hnm : nm.toList.isEmpty = true) (f : Bool) (hF : ∀ W, Calls Tryz.prog 79 #[.agg #[.bool neg, .string num, .string den]] W fun e w' => e = .returned (.bool f) ∧ Below W.heap.size W w') (hz : z = if f then 0 else 11) : Calls Tryz.prog 48 #[.agg #[.int .i64 (k : Int), .bool neg, .string num, .string den, .string nm]] w (RetW z w) := by
  have HO := Lib.hid hO
  clear hO
  obtain ⟨W, hW⟩ : ∃ W, W = w.alloc (.cells #[.int .i64 (k : Int), .bool neg, .string num, .string den, .string nm] 33) := ⟨_, rfl⟩
  have hba : Below w.heap.size w W := by rw [hW]; exact (Below.refl _ _).alloc (Nat.le_refl _) _
  have hblk : Blk W w.heap.size 33 [.int .i64 (k : Int), .bool neg, .string num, .string den, .string nm] := by rw [hW]; exact Blk.new w _ _
  have HLW := Lib.hid (hL.below hba)
  clear hL
  obtain ⟨B, hB⟩ : ∃ B, B = w.heap.size := ⟨_, rfl⟩
  have HB := Lib.hid hB
  rw [← hB] at hblk hba
  have hc := hblk.cells
  have HF := Lib.hid hF
  have HW := Lib.hid hz
  clear hF hz
  cases f
  all_goals
    go_enter Tryz.func48, Tryz.ntmps48
    go_wp2_with fail
    simp only [← hW, ← hB]
    clear hW hB
    refine (HO.out _ HLW.out).mono ?_
    rintro e w1 ⟨rfl, hb1⟩
    have hk1 := hblk.below hb1 hblk.lt
    have hn2 := hk1.alloc (.cells #[.string ⟨wd.toArray⟩, .int .i64 (ops : Int), .bool true, .bool false, .bool false] 76)
    have hs2 := Blk.new w1 76 #[.string ⟨wd.toArray⟩, .int .i64 (ops : Int), .bool true, .bool false, .bool false]
    have hb2 : Below B w (w1.alloc (.cells #[.string ⟨wd.toArray⟩, .int .i64 (ops : Int), .bool true, .bool false, .bool false] 76)) := (hba.trans (hb1.mono (Nat.le_of_lt hblk.lt))).alloc (by have := hb1.size; have := hblk.lt; omega) _
    have hc2 := hn2.cells
    clear hk1 hb1 hc
    go_wp2_with fail
    obtain ⟨w2, hw2⟩ : ∃ x, x = w1.alloc (.cells #[.string ⟨wd.toArray⟩, .int .i64 (ops : Int), .bool true, .bool false, .bool false] 76) := ⟨_, rfl⟩
    obtain ⟨C, hC⟩ : ∃ x, x = w1.heap.size := ⟨_, rfl⟩
    simp only [← hw2, ← hC]
    rw [← hw2] at hn2 hs2 hb2
    rw [← hC] at hs2
    clear hw2 hC hc2
    refine (HF.out _).mono ?_
    rintro e w3 ⟨rfl, hb3x⟩
    have hn3 := hn2.below hb3x hn2.lt
    have hs3 := hs2.below hb3x hs2.lt
    have hb3 : Below B w w3 := hb2.trans (hb3x.mono (Nat.le_of_lt hn2.lt))
    have hc3 := hn3.cells
    have hd3 := hs3.cells
    clear hn2 hs2 hb2 hb3x 
    go_wp2
    go_ret
    exact ⟨by rw [HW.out]; rfl, by rw [← HB.out]; exact hb3⟩
set_option maxRecDepth 100000 in
set_option maxHeartbeats 1600000 in
theorem wrong_stp (k ops : Nat) (wd : List UInt8) (neg : Bool) (num den nm : ByteArray) (w : World) (z : Int) (hL : LaidE w)
    (hO : ∀ w, LaidE w → Calls Tryz.prog 77 #[.int .i64 (k : Int)] w fun e w' => e = .returned (.tuple #[.agg #[.string ⟨wd.toArray⟩, .int .i64 (ops : Int), .bool false, .bool false, .bool true], .bool true]) ∧ Below w.heap.size w w')
    (h4 : ((k : Int) == 4) = false) (hnm : nm.toList.isEmpty = true) (f : Bool) (s : Int) (hF : ∀ W, Calls Tryz.prog 79 #[.agg #[.bool neg, .string num, .string den]] W fun e w' => e = .returned (.bool f) ∧ Below W.heap.size W w') (hS : ∀ W, Calls Tryz.prog 80 #[.agg #[.bool neg, .string num, .string den]] W fun e w' => e = .returned (.int .i64 s) ∧ Below W.heap.size W w') (hz : z = if f && decide (0 < s) then 0 else 11) : Calls Tryz.prog 48 #[.agg #[.int .i64 (k : Int), .bool neg, .string num, .string den, .string nm]] w (RetW z w) := by
  have HO := Lib.hid hO
  clear hO
  obtain ⟨W, hW⟩ : ∃ W, W = w.alloc (.cells #[.int .i64 (k : Int), .bool neg, .string num, .string den, .string nm] 33) := ⟨_, rfl⟩
  have hba : Below w.heap.size w W := by rw [hW]; exact (Below.refl _ _).alloc (Nat.le_refl _) _
  have hblk : Blk W w.heap.size 33 [.int .i64 (k : Int), .bool neg, .string num, .string den, .string nm] := by rw [hW]; exact Blk.new w _ _
  have HLW := Lib.hid (hL.below hba)
  clear hL
  obtain ⟨B, hB⟩ : ∃ B, B = w.heap.size := ⟨_, rfl⟩
  have HB := Lib.hid hB
  rw [← hB] at hblk hba
  have hc := hblk.cells
  have HF := Lib.hid hF
  have HS := Lib.hid hS
  have HW := Lib.hid hz
  clear hF hS hz
  cases f
  · go_enter Tryz.func48, Tryz.ntmps48
    go_wp2_with fail
    simp only [← hW, ← hB]
    clear hW hB
    refine (HO.out _ HLW.out).mono ?_
    rintro e w1 ⟨rfl, hb1⟩
    have hk1 := hblk.below hb1 hblk.lt
    have hn2 := hk1.alloc (.cells #[.string ⟨wd.toArray⟩, .int .i64 (ops : Int), .bool false, .bool false, .bool true] 76)
    have hs2 := Blk.new w1 76 #[.string ⟨wd.toArray⟩, .int .i64 (ops : Int), .bool false, .bool false, .bool true]
    have hb2 : Below B w (w1.alloc (.cells #[.string ⟨wd.toArray⟩, .int .i64 (ops : Int), .bool false, .bool false, .bool true] 76)) := (hba.trans (hb1.mono (Nat.le_of_lt hblk.lt))).alloc (by have := hb1.size; have := hblk.lt; omega) _
    have hc2 := hn2.cells
    clear hk1 hb1 hc
    go_wp2_with fail
    obtain ⟨w2, hw2⟩ : ∃ x, x = w1.alloc (.cells #[.string ⟨wd.toArray⟩, .int .i64 (ops : Int), .bool false, .bool false, .bool true] 76) := ⟨_, rfl⟩
    obtain ⟨C, hC⟩ : ∃ x, x = w1.heap.size := ⟨_, rfl⟩
    simp only [← hw2, ← hC]
    rw [← hw2] at hn2 hs2 hb2
    rw [← hC] at hs2
    clear hw2 hC hc2
    refine (HF.out _).mono ?_
    rintro e w3 ⟨rfl, hb3x⟩
    have hn3 := hn2.below hb3x hn2.lt
    have hs3 := hs2.below hb3x hs2.lt
    have hb3 : Below B w w3 := hb2.trans (hb3x.mono (Nat.le_of_lt hn2.lt))
    have hc3 := hn3.cells
    have hd3 := hs3.cells
    clear hn2 hs2 hb2 hb3x 
    go_wp2
    go_ret
    exact ⟨by rw [HW.out]; rfl, by rw [← HB.out]; exact hb3⟩
  · obtain ⟨b, hb⟩ : ∃ b, decide (0 < s) = b := ⟨_, rfl⟩
    rw [hb] at HW
    cases b
    all_goals
      go_enter Tryz.func48, Tryz.ntmps48
      go_wp2_with fail
      simp only [← hW, ← hB]
      clear hW hB
      refine (HO.out _ HLW.out).mono ?_
      rintro e w1 ⟨rfl, hb1⟩
      have hk1 := hblk.below hb1 hblk.lt
      have hn2 := hk1.alloc (.cells #[.string ⟨wd.toArray⟩, .int .i64 (ops : Int), .bool false, .bool false, .bool true] 76)
      have hs2 := Blk.new w1 76 #[.string ⟨wd.toArray⟩, .int .i64 (ops : Int), .bool false, .bool false, .bool true]
      have hb2 : Below B w (w1.alloc (.cells #[.string ⟨wd.toArray⟩, .int .i64 (ops : Int), .bool false, .bool false, .bool true] 76)) := (hba.trans (hb1.mono (Nat.le_of_lt hblk.lt))).alloc (by have := hb1.size; have := hblk.lt; omega) _
      have hc2 := hn2.cells
      clear hk1 hb1 hc
      go_wp2_with fail
      obtain ⟨w2, hw2⟩ : ∃ x, x = w1.alloc (.cells #[.string ⟨wd.toArray⟩, .int .i64 (ops : Int), .bool false, .bool false, .bool true] 76) := ⟨_, rfl⟩
      obtain ⟨C, hC⟩ : ∃ x, x = w1.heap.size := ⟨_, rfl⟩
      simp only [← hw2, ← hC]
      rw [← hw2] at hn2 hs2 hb2
      rw [← hC] at hs2
      clear hw2 hC hc2
      refine (HF.out _).mono ?_
      rintro e w3 ⟨rfl, hb3x⟩
      have hn3 := hn2.below hb3x hn2.lt
      have hs3 := hs2.below hb3x hs2.lt
      have hb3 : Below B w w3 := hb2.trans (hb3x.mono (Nat.le_of_lt hn2.lt))
      have hc3 := hn3.cells
      have hd3 := hs3.cells
      clear hn2 hs2 hb2 hb3x 
      go_wp2_with fail
      refine (HS.out _).mono ?_
      rintro e w4 ⟨rfl, hb4x⟩
      have hn4 := hn3.below hb4x hn3.lt
      have hs4 := hs3.below hb4x hs3.lt
      have hb4 : Below B w w4 := hb3.trans (hb4x.mono (Nat.le_of_lt hn3.lt))
      have hc4 := hn4.cells
      have hd4 := hs4.cells
      clear hn3 hs3 hb3 hb4x 
      go_wp2
      go_ret
      exact ⟨by rw [HW.out]; rfl, by rw [← HB.out]; exact hb4⟩
set_option maxRecDepth 100000 in
set_option maxHeartbeats 1600000 in
theorem wrong_def (k ops : Nat) (wd : List UInt8) (neg : Bool) (num den nm : ByteArray) (w : World) (z : Int) (hL : LaidE w) (N : Bool)
    (hO : ∀ w, LaidE w → Calls Tryz.prog 77 #[.int .i64 (k : Int)] w fun e w' => e = .returned (.tuple #[.agg #[.string ⟨wd.toArray⟩, .int .i64 (ops : Int), .bool false, .bool N, .bool false], .bool true]) ∧ Below w.heap.size w w')
    (h4 : ((k : Int) == 4) = false) (hnm : N = true ∨ nm.toList.isEmpty = true) (d b : Bool) (hd : ∀ w : World, (binOp .eql 31 (.agg #[.bool neg, .string num, .string den]) (.agg #[.bool false, .string ⟨#[]⟩, .string ⟨#[]⟩])).run Tryz.prog w = .ok (.bool d) w) (hI : ∀ W, Calls Tryz.prog 81 #[.string nm] W fun e w' => e = .returned (.bool b) ∧ Below W.heap.size W w') (hz : z = if d then (if N && !b then 12 else 0) else 11) : Calls Tryz.prog 48 #[.agg #[.int .i64 (k : Int), .bool neg, .string num, .string den, .string nm]] w (RetW z w) := by
  have HO := Lib.hid hO
  clear hO
  obtain ⟨W, hW⟩ : ∃ W, W = w.alloc (.cells #[.int .i64 (k : Int), .bool neg, .string num, .string den, .string nm] 33) := ⟨_, rfl⟩
  have hba : Below w.heap.size w W := by rw [hW]; exact (Below.refl _ _).alloc (Nat.le_refl _) _
  have hblk : Blk W w.heap.size 33 [.int .i64 (k : Int), .bool neg, .string num, .string den, .string nm] := by rw [hW]; exact Blk.new w _ _
  have HLW := Lib.hid (hL.below hba)
  clear hL
  obtain ⟨B, hB⟩ : ∃ B, B = w.heap.size := ⟨_, rfl⟩
  have HB := Lib.hid hB
  rw [← hB] at hblk hba
  have hc := hblk.cells
  have HI := Lib.hid hI
  have HW := Lib.hid hz
  clear hI hz
  cases N
  · have hnm3 : nm.toList.isEmpty = true := by simpa using hnm
    clear hnm
    cases d
    all_goals
      go_enter Tryz.func48, Tryz.ntmps48
      go_wp2_with fail
      simp only [← hW, ← hB]
      clear hW hB
      refine (HO.out _ HLW.out).mono ?_
      rintro e w1 ⟨rfl, hb1⟩
      have hk1 := hblk.below hb1 hblk.lt
      have hn2 := hk1.alloc (.cells #[.string ⟨wd.toArray⟩, .int .i64 (ops : Int), .bool false, .bool false, .bool false] 76)
      have hs2 := Blk.new w1 76 #[.string ⟨wd.toArray⟩, .int .i64 (ops : Int), .bool false, .bool false, .bool false]
      have hb2 : Below B w (w1.alloc (.cells #[.string ⟨wd.toArray⟩, .int .i64 (ops : Int), .bool false, .bool false, .bool false] 76)) := (hba.trans (hb1.mono (Nat.le_of_lt hblk.lt))).alloc (by have := hb1.size; have := hblk.lt; omega) _
      have hc2 := hn2.cells
      clear hk1 hb1 hc
      go_wp2
      go_ret
      exact ⟨by rw [HW.out]; rfl, by rw [← HB.out]; exact hb2⟩
  · clear hnm
    cases d
    · go_enter Tryz.func48, Tryz.ntmps48
      go_wp2_with fail
      simp only [← hW, ← hB]
      clear hW hB
      refine (HO.out _ HLW.out).mono ?_
      rintro e w1 ⟨rfl, hb1⟩
      have hk1 := hblk.below hb1 hblk.lt
      have hn2 := hk1.alloc (.cells #[.string ⟨wd.toArray⟩, .int .i64 (ops : Int), .bool false, .bool true, .bool false] 76)
      have hs2 := Blk.new w1 76 #[.string ⟨wd.toArray⟩, .int .i64 (ops : Int), .bool false, .bool true, .bool false]
      have hb2 : Below B w (w1.alloc (.cells #[.string ⟨wd.toArray⟩, .int .i64 (ops : Int), .bool false, .bool true, .bool false] 76)) := (hba.trans (hb1.mono (Nat.le_of_lt hblk.lt))).alloc (by have := hb1.size; have := hblk.lt; omega) _
      have hc2 := hn2.cells
      clear hk1 hb1 hc
      go_wp2
      go_ret
      exact ⟨by rw [HW.out]; rfl, by rw [← HB.out]; exact hb2⟩
    · cases b
      all_goals
        go_enter Tryz.func48, Tryz.ntmps48
        go_wp2_with fail
        simp only [← hW, ← hB]
        clear hW hB
        refine (HO.out _ HLW.out).mono ?_
        rintro e w1 ⟨rfl, hb1⟩
        have hk1 := hblk.below hb1 hblk.lt
        have hn2 := hk1.alloc (.cells #[.string ⟨wd.toArray⟩, .int .i64 (ops : Int), .bool false, .bool true, .bool false] 76)
        have hs2 := Blk.new w1 76 #[.string ⟨wd.toArray⟩, .int .i64 (ops : Int), .bool false, .bool true, .bool false]
        have hb2 : Below B w (w1.alloc (.cells #[.string ⟨wd.toArray⟩, .int .i64 (ops : Int), .bool false, .bool true, .bool false] 76)) := (hba.trans (hb1.mono (Nat.le_of_lt hblk.lt))).alloc (by have := hb1.size; have := hblk.lt; omega) _
        have hc2 := hn2.cells
        clear hk1 hb1 hc
        go_wp2_with fail
        obtain ⟨w2, hw2⟩ : ∃ x, x = w1.alloc (.cells #[.string ⟨wd.toArray⟩, .int .i64 (ops : Int), .bool false, .bool true, .bool false] 76) := ⟨_, rfl⟩
        obtain ⟨C, hC⟩ : ∃ x, x = w1.heap.size := ⟨_, rfl⟩
        simp only [← hw2, ← hC]
        rw [← hw2] at hn2 hs2 hb2
        rw [← hC] at hs2
        clear hw2 hC hc2
        refine (HI.out _).mono ?_
        rintro e w3 ⟨rfl, hb3x⟩
        have hn3 := hn2.below hb3x hn2.lt
        have hs3 := hs2.below hb3x hs2.lt
        have hb3 : Below B w w3 := hb2.trans (hb3x.mono (Nat.le_of_lt hn2.lt))
        have hc3 := hn3.cells
        have hd3 := hs3.cells
        clear hn2 hs2 hb2 hb3x 
        go_wp2
        go_ret
        exact ⟨by rw [HW.out]; rfl, by rw [← HB.out]; exact hb3⟩
set_option maxRecDepth 100000 in
set_option maxHeartbeats 1600000 in
theorem wrong_tru (k ops : Nat) (wd : List UInt8) (neg : Bool) (num den nm : ByteArray) (w : World) (z : Int) (hL : LaidE w)
    (hO : ∀ w, LaidE w → Calls Tryz.prog 77 #[.int .i64 (k : Int)] w fun e w' => e = .returned (.tuple #[.agg #[.string ⟨wd.toArray⟩, .int .i64 (ops : Int), .bool true, .bool false, .bool false], .bool true]) ∧ Below w.heap.size w w')
    (h4 : ((k : Int) == 4) = true) (hnm : nm.toList.isEmpty = true) (d0 d1 : Bool) (hq0 : ∀ w : World, (binOp .eql 31 (.agg #[.bool neg, .string num, .string den]) (.agg #[.bool (ofI 0).neg, .string (ofI 0).num, .string (ofI 0).den])).run Tryz.prog w = .ok (.bool d0) w) (hq1 : ∀ w : World, (binOp .eql 31 (.agg #[.bool neg, .string num, .string den]) (.agg #[.bool (ofI 1).neg, .string (ofI 1).num, .string (ofI 1).den])).run Tryz.prog w = .ok (.bool d1) w) (hz : z = if d0 || d1 then 0 else 11) : Calls Tryz.prog 48 #[.agg #[.int .i64 (k : Int), .bool neg, .string num, .string den, .string nm]] w (RetW z w) := by
  have HO := Lib.hid hO
  clear hO
  obtain ⟨W, hW⟩ : ∃ W, W = w.alloc (.cells #[.int .i64 (k : Int), .bool neg, .string num, .string den, .string nm] 33) := ⟨_, rfl⟩
  have hba : Below w.heap.size w W := by rw [hW]; exact (Below.refl _ _).alloc (Nat.le_refl _) _
  have hblk : Blk W w.heap.size 33 [.int .i64 (k : Int), .bool neg, .string num, .string den, .string nm] := by rw [hW]; exact Blk.new w _ _
  have HLW := Lib.hid (hL.below hba)
  clear hL
  obtain ⟨B, hB⟩ : ∃ B, B = w.heap.size := ⟨_, rfl⟩
  have HB := Lib.hid hB
  rw [← hB] at hblk hba
  have hc := hblk.cells
  have HW := Lib.hid hz
  clear hz
  have hnm2 : (!nm.toList.isEmpty) = false := by rw [hnm]; rfl
  cases d0
  · cases d1
    · go_enter Tryz.func48, Tryz.ntmps48
      go_wp2_with fail
      simp only [← hW, ← hB]
      clear hW hB
      refine (HO.out _ HLW.out).mono ?_
      rintro e w1 ⟨rfl, hb1⟩
      have hk1 := hblk.below hb1 hblk.lt
      have hn2 := hk1.alloc (.cells #[.string ⟨wd.toArray⟩, .int .i64 (ops : Int), .bool true, .bool false, .bool false] 76)
      have hs2 := Blk.new w1 76 #[.string ⟨wd.toArray⟩, .int .i64 (ops : Int), .bool true, .bool false, .bool false]
      have hb2 : Below B w (w1.alloc (.cells #[.string ⟨wd.toArray⟩, .int .i64 (ops : Int), .bool true, .bool false, .bool false] 76)) := (hba.trans (hb1.mono (Nat.le_of_lt hblk.lt))).alloc (by have := hb1.size; have := hblk.lt; omega) _
      have hc2 := hn2.cells
      clear hk1 hb1 hc
      go_wp2_with fail
      obtain ⟨w2, hw2⟩ : ∃ x, x = w1.alloc (.cells #[.string ⟨wd.toArray⟩, .int .i64 (ops : Int), .bool true, .bool false, .bool false] 76) := ⟨_, rfl⟩
      obtain ⟨C, hC⟩ : ∃ x, x = w1.heap.size := ⟨_, rfl⟩
      simp only [← hw2, ← hC]
      rw [← hw2] at hn2 hs2 hb2
      rw [← hC] at hs2
      clear hw2 hC hc2
      have HK : Hid (∀ w' w1 : World, ((∀ i, w'.cell? ⟨B, i, none⟩ = ([.int .i64 (k : Int), .bool neg, .string num, .string den, .string nm] : List Value)[i]?) ∧ Blk w' C 76 [.string ⟨wd.toArray⟩, .int .i64 (ops : Int), .bool true, .bool false, .bool false] ∧ B < w'.heap.size ∧ Below B w w') → Below w'.heap.size w' w1 →
          ((∀ i, w1.cell? ⟨B, i, none⟩ = ([.int .i64 (k : Int), .bool neg, .string num, .string den, .string nm] : List Value)[i]?) ∧ Blk w1 C 76 [.string ⟨wd.toArray⟩, .int .i64 (ops : Int), .bool true, .bool false, .bool false] ∧ B < w1.heap.size ∧ Below B w w1)) := by
        rintro w' w1 ⟨h0, h1, h2, h3⟩ hb1
        exact ⟨fun i => (hb1.cell h2).trans (h0 i), h1.below hb1 h1.lt, Nat.lt_of_lt_of_le h2 hb1.size, h3.trans (hb1.mono (Nat.le_of_lt h2))⟩
      have HS : Hid ((∀ i, w2.drew.cell? ⟨B, i, none⟩ = ([.int .i64 (k : Int), .bool neg, .string num, .string den, .string nm] : List Value)[i]?) ∧ Blk w2.drew C 76 [.string ⟨wd.toArray⟩, .int .i64 (ops : Int), .bool true, .bool false, .bool false] ∧ B < w2.drew.heap.size ∧ Below B w w2.drew) :=
        ⟨hn2.cells, hs2, hn2.lt, below_drewN hb2 1⟩
      clear hn2 hs2 hb2
      refine wp_region_noPanic ?_
      refine wp_region_held_drew (S := fun w' => (∀ i, w'.cell? ⟨B, i, none⟩ = ([.int .i64 (k : Int), .bool neg, .string num, .string den, .string nm] : List Value)[i]?) ∧ Blk w' C 76 [.string ⟨wd.toArray⟩, .int .i64 (ops : Int), .bool true, .bool false, .bool false] ∧ B < w'.heap.size ∧ Below B w w') (by kernel_rfl) HS.out (fun hHeld => ?_)
      refine wpAnyH_take (i := 0) (v := ?_) rfl (by kernel_rfl) (by kernel_rfl) (by kernel_rfl) (fun _ _ _ h => h) (Or.inl ⟨by kernel_rfl, ?_⟩) (by assumption) ?_
      rotate_left
      · intro w hSw; (try dsimp only at hSw); go_simp
        all_goals with_reducible rfl
      try simp only [Act.put, List.setIfInBounds_toArray, List.set_cons_zero, List.set_cons_succ, List.getElem_toArray, List.getElem_cons_succ, List.getElem_cons_zero]
      refine wpAnyH_take (i := 1) (v := ?_) rfl (by kernel_rfl) (by kernel_rfl) (by kernel_rfl) (fun _ _ _ h => h) (Or.inl ⟨by kernel_rfl, ?_⟩) (by assumption) ?_
      rotate_left
      · intro w hSw; (try dsimp only at hSw); go_simp
        all_goals with_reducible rfl
      try simp only [Act.put, List.setIfInBounds_toArray, List.set_cons_zero, List.set_cons_succ, List.getElem_toArray, List.getElem_cons_succ, List.getElem_cons_zero]
      refine wpAnyH_ready (rs := [2]) (by kernel_rfl) (by simp) ?_
      refine AllReadyH.cons rfl (fun K hK => ?_) AllReadyH.nil
      go_simp
      refine (qOf_any 0 _ (by omega) (by omega)).mono ?_
      rintro e w1 ⟨rfl, hb1⟩
      simp only [Ra.v]
      go_wp2_with fail
      refine hK.out _ _ ?_ (fun hHeld => ?_)
      · exact HK.out _ _ (by assumption) hb1
      clear hK K
      try simp only [Act.put, List.setIfInBounds_toArray, List.set_cons_zero, List.set_cons_succ, List.getElem_toArray, List.getElem_cons_succ, List.getElem_cons_zero]
      refine wpAnyH_take (i := 3) (v := ?_) rfl (by kernel_rfl) (by kernel_rfl) (by kernel_rfl) (fun _ _ _ h => h) (Or.inl ⟨by kernel_rfl, ?_⟩) (by assumption) ?_
      rotate_left
      · intro w hSw; (try dsimp only at hSw); go_simp
        all_goals with_reducible rfl
      try simp only [Act.put, List.setIfInBounds_toArray, List.set_cons_zero, List.set_cons_succ, List.getElem_toArray, List.getElem_cons_succ, List.getElem_cons_zero]
      refine wpAnyH_take (i := 4) (v := ?_) rfl (by kernel_rfl) (by kernel_rfl) (by kernel_rfl) (fun _ _ _ h => h) (Or.inl ⟨by kernel_rfl, ?_⟩) (by assumption) ?_
      rotate_left
      · intro w hSw; (try dsimp only at hSw); go_simp
        all_goals with_reducible rfl
      try simp only [Act.put, List.setIfInBounds_toArray, List.set_cons_zero, List.set_cons_succ, List.getElem_toArray, List.getElem_cons_succ, List.getElem_cons_zero]
      refine wpAnyH_take (i := 5) (v := ?_) rfl (by kernel_rfl) (by kernel_rfl) (by kernel_rfl) (fun _ _ _ h => h) (Or.inl ⟨by kernel_rfl, ?_⟩) (by assumption) ?_
      rotate_left
      · intro w hSw; (try dsimp only at hSw); go_simp
        all_goals with_reducible rfl
      try simp only [Act.put, List.setIfInBounds_toArray, List.set_cons_zero, List.set_cons_succ, List.getElem_toArray, List.getElem_cons_succ, List.getElem_cons_zero]
      refine wpAnyH_take (i := 6) (v := ?_) rfl (by kernel_rfl) (by kernel_rfl) (by kernel_rfl) (fun _ _ _ h => h) (Or.inl ⟨by kernel_rfl, ?_⟩) (by assumption) ?_
      rotate_left
      · intro w hSw; (try dsimp only at hSw); go_simp
        all_goals with_reducible rfl
      try simp only [Act.put, List.setIfInBounds_toArray, List.set_cons_zero, List.set_cons_succ, List.getElem_toArray, List.getElem_cons_succ, List.getElem_cons_zero]
      refine wpAnyH_ready (rs := [7]) (by kernel_rfl) (by simp) ?_
      refine AllReadyH.cons rfl (fun K hK => ?_) AllReadyH.nil
      go_simp
      refine (qOf_any 1 _ (by omega) (by omega)).mono ?_
      rintro e w1 ⟨rfl, hb1⟩
      simp only [Ra.v]
      go_wp2_with fail
      refine hK.out _ _ ?_ (fun hHeld => ?_)
      · exact HK.out _ _ (by assumption) hb1
      clear hK K
      try simp only [Act.put, List.setIfInBounds_toArray, List.set_cons_zero, List.set_cons_succ, List.getElem_toArray, List.getElem_cons_succ, List.getElem_cons_zero]
      refine wpAnyH_take (i := 8) (v := ?_) rfl (by kernel_rfl) (by kernel_rfl) (by kernel_rfl) (fun _ _ _ h => h) (Or.inl ⟨by kernel_rfl, ?_⟩) (by assumption) ?_
      rotate_left
      · intro w hSw; (try dsimp only at hSw); go_simp
        all_goals with_reducible rfl
      try simp only [Act.put, List.setIfInBounds_toArray, List.set_cons_zero, List.set_cons_succ, List.getElem_toArray, List.getElem_cons_succ, List.getElem_cons_zero]
      refine wpAnyH_take (i := 9) (v := ?_) rfl (by kernel_rfl) (by kernel_rfl) (by kernel_rfl) (fun _ _ _ h => h) (Or.inl ⟨by kernel_rfl, ?_⟩) (by assumption) ?_
      rotate_left
      · intro w hSw; (try dsimp only at hSw); go_simp
        all_goals with_reducible rfl
      try simp only [Act.put, List.setIfInBounds_toArray, List.set_cons_zero, List.set_cons_succ, List.getElem_toArray, List.getElem_cons_succ, List.getElem_cons_zero]
      refine wpAnyH_take (i := 10) (v := ?_) rfl (by kernel_rfl) (by kernel_rfl) (by kernel_rfl) (fun _ _ _ h => h) (Or.inl ⟨by kernel_rfl, ?_⟩) (by assumption) ?_
      rotate_left
      · intro w hSw; (try dsimp only at hSw); go_simp
        all_goals with_reducible rfl
      try simp only [Act.put, List.setIfInBounds_toArray, List.set_cons_zero, List.set_cons_succ, List.getElem_toArray, List.getElem_cons_succ, List.getElem_cons_zero]
      refine wpAnyH_done (by kernel_rfl) ?_ _
      refine NoPanic.normal ?_
      obtain ⟨_, hs3, _, hb3⟩ := hHeld
      have hd3 := hs3.cells
      clear hs3
      have HH := Lib.hid hb3
      clear hb3
      go_wp2
      go_ret
      exact ⟨by rw [HW.out]; rfl, by rw [← HB.out]; exact HH.out⟩
    · go_enter Tryz.func48, Tryz.ntmps48
      go_wp2_with fail
      simp only [← hW, ← hB]
      clear hW hB
      refine (HO.out _ HLW.out).mono ?_
      rintro e w1 ⟨rfl, hb1⟩
      have hk1 := hblk.below hb1 hblk.lt
      have hn2 := hk1.alloc (.cells #[.string ⟨wd.toArray⟩, .int .i64 (ops : Int), .bool true, .bool false, .bool false] 76)
      have hs2 := Blk.new w1 76 #[.string ⟨wd.toArray⟩, .int .i64 (ops : Int), .bool true, .bool false, .bool false]
      have hb2 : Below B w (w1.alloc (.cells #[.string ⟨wd.toArray⟩, .int .i64 (ops : Int), .bool true, .bool false, .bool false] 76)) := (hba.trans (hb1.mono (Nat.le_of_lt hblk.lt))).alloc (by have := hb1.size; have := hblk.lt; omega) _
      have hc2 := hn2.cells
      clear hk1 hb1 hc
      go_wp2_with fail
      obtain ⟨w2, hw2⟩ : ∃ x, x = w1.alloc (.cells #[.string ⟨wd.toArray⟩, .int .i64 (ops : Int), .bool true, .bool false, .bool false] 76) := ⟨_, rfl⟩
      obtain ⟨C, hC⟩ : ∃ x, x = w1.heap.size := ⟨_, rfl⟩
      simp only [← hw2, ← hC]
      rw [← hw2] at hn2 hs2 hb2
      rw [← hC] at hs2
      clear hw2 hC hc2
      have HK : Hid (∀ w' w1 : World, ((∀ i, w'.cell? ⟨B, i, none⟩ = ([.int .i64 (k : Int), .bool neg, .string num, .string den, .string nm] : List Value)[i]?) ∧ Blk w' C 76 [.string ⟨wd.toArray⟩, .int .i64 (ops : Int), .bool true, .bool false, .bool false] ∧ B < w'.heap.size ∧ Below B w w') → Below w'.heap.size w' w1 →
          ((∀ i, w1.cell? ⟨B, i, none⟩ = ([.int .i64 (k : Int), .bool neg, .string num, .string den, .string nm] : List Value)[i]?) ∧ Blk w1 C 76 [.string ⟨wd.toArray⟩, .int .i64 (ops : Int), .bool true, .bool false, .bool false] ∧ B < w1.heap.size ∧ Below B w w1)) := by
        rintro w' w1 ⟨h0, h1, h2, h3⟩ hb1
        exact ⟨fun i => (hb1.cell h2).trans (h0 i), h1.below hb1 h1.lt, Nat.lt_of_lt_of_le h2 hb1.size, h3.trans (hb1.mono (Nat.le_of_lt h2))⟩
      have HS : Hid ((∀ i, w2.drew.cell? ⟨B, i, none⟩ = ([.int .i64 (k : Int), .bool neg, .string num, .string den, .string nm] : List Value)[i]?) ∧ Blk w2.drew C 76 [.string ⟨wd.toArray⟩, .int .i64 (ops : Int), .bool true, .bool false, .bool false] ∧ B < w2.drew.heap.size ∧ Below B w w2.drew) :=
        ⟨hn2.cells, hs2, hn2.lt, below_drewN hb2 1⟩
      clear hn2 hs2 hb2
      refine wp_region_noPanic ?_
      refine wp_region_held_drew (S := fun w' => (∀ i, w'.cell? ⟨B, i, none⟩ = ([.int .i64 (k : Int), .bool neg, .string num, .string den, .string nm] : List Value)[i]?) ∧ Blk w' C 76 [.string ⟨wd.toArray⟩, .int .i64 (ops : Int), .bool true, .bool false, .bool false] ∧ B < w'.heap.size ∧ Below B w w') (by kernel_rfl) HS.out (fun hHeld => ?_)
      refine wpAnyH_take (i := 0) (v := ?_) rfl (by kernel_rfl) (by kernel_rfl) (by kernel_rfl) (fun _ _ _ h => h) (Or.inl ⟨by kernel_rfl, ?_⟩) (by assumption) ?_
      rotate_left
      · intro w hSw; (try dsimp only at hSw); go_simp
        all_goals with_reducible rfl
      try simp only [Act.put, List.setIfInBounds_toArray, List.set_cons_zero, List.set_cons_succ, List.getElem_toArray, List.getElem_cons_succ, List.getElem_cons_zero]
      refine wpAnyH_take (i := 1) (v := ?_) rfl (by kernel_rfl) (by kernel_rfl) (by kernel_rfl) (fun _ _ _ h => h) (Or.inl ⟨by kernel_rfl, ?_⟩) (by assumption) ?_
      rotate_left
      · intro w hSw; (try dsimp only at hSw); go_simp
        all_goals with_reducible rfl
      try simp only [Act.put, List.setIfInBounds_toArray, List.set_cons_zero, List.set_cons_succ, List.getElem_toArray, List.getElem_cons_succ, List.getElem_cons_zero]
      refine wpAnyH_ready (rs := [2]) (by kernel_rfl) (by simp) ?_
      refine AllReadyH.cons rfl (fun K hK => ?_) AllReadyH.nil
      go_simp
      refine (qOf_any 0 _ (by omega) (by omega)).mono ?_
      rintro e w1 ⟨rfl, hb1⟩
      simp only [Ra.v]
      go_wp2_with fail
      refine hK.out _ _ ?_ (fun hHeld => ?_)
      · exact HK.out _ _ (by assumption) hb1
      clear hK K
      try simp only [Act.put, List.setIfInBounds_toArray, List.set_cons_zero, List.set_cons_succ, List.getElem_toArray, List.getElem_cons_succ, List.getElem_cons_zero]
      refine wpAnyH_take (i := 3) (v := ?_) rfl (by kernel_rfl) (by kernel_rfl) (by kernel_rfl) (fun _ _ _ h => h) (Or.inl ⟨by kernel_rfl, ?_⟩) (by assumption) ?_
      rotate_left
      · intro w hSw; (try dsimp only at hSw); go_simp
        all_goals with_reducible rfl
      try simp only [Act.put, List.setIfInBounds_toArray, List.set_cons_zero, List.set_cons_succ, List.getElem_toArray, List.getElem_cons_succ, List.getElem_cons_zero]
      refine wpAnyH_take (i := 4) (v := ?_) rfl (by kernel_rfl) (by kernel_rfl) (by kernel_rfl) (fun _ _ _ h => h) (Or.inl ⟨by kernel_rfl, ?_⟩) (by assumption) ?_
      rotate_left
      · intro w hSw; (try dsimp only at hSw); go_simp
        all_goals with_reducible rfl
      try simp only [Act.put, List.setIfInBounds_toArray, List.set_cons_zero, List.set_cons_succ, List.getElem_toArray, List.getElem_cons_succ, List.getElem_cons_zero]
      refine wpAnyH_take (i := 5) (v := ?_) rfl (by kernel_rfl) (by kernel_rfl) (by kernel_rfl) (fun _ _ _ h => h) (Or.inl ⟨by kernel_rfl, ?_⟩) (by assumption) ?_
      rotate_left
      · intro w hSw; (try dsimp only at hSw); go_simp
        all_goals with_reducible rfl
      try simp only [Act.put, List.setIfInBounds_toArray, List.set_cons_zero, List.set_cons_succ, List.getElem_toArray, List.getElem_cons_succ, List.getElem_cons_zero]
      refine wpAnyH_take (i := 6) (v := ?_) rfl (by kernel_rfl) (by kernel_rfl) (by kernel_rfl) (fun _ _ _ h => h) (Or.inl ⟨by kernel_rfl, ?_⟩) (by assumption) ?_
      rotate_left
      · intro w hSw; (try dsimp only at hSw); go_simp
        all_goals with_reducible rfl
      try simp only [Act.put, List.setIfInBounds_toArray, List.set_cons_zero, List.set_cons_succ, List.getElem_toArray, List.getElem_cons_succ, List.getElem_cons_zero]
      refine wpAnyH_ready (rs := [7]) (by kernel_rfl) (by simp) ?_
      refine AllReadyH.cons rfl (fun K hK => ?_) AllReadyH.nil
      go_simp
      refine (qOf_any 1 _ (by omega) (by omega)).mono ?_
      rintro e w1 ⟨rfl, hb1⟩
      simp only [Ra.v]
      go_wp2_with fail
      refine hK.out _ _ ?_ (fun hHeld => ?_)
      · exact HK.out _ _ (by assumption) hb1
      clear hK K
      try simp only [Act.put, List.setIfInBounds_toArray, List.set_cons_zero, List.set_cons_succ, List.getElem_toArray, List.getElem_cons_succ, List.getElem_cons_zero]
      refine wpAnyH_take (i := 8) (v := ?_) rfl (by kernel_rfl) (by kernel_rfl) (by kernel_rfl) (fun _ _ _ h => h) (Or.inl ⟨by kernel_rfl, ?_⟩) (by assumption) ?_
      rotate_left
      · intro w hSw; (try dsimp only at hSw); go_simp
        all_goals with_reducible rfl
      try simp only [Act.put, List.setIfInBounds_toArray, List.set_cons_zero, List.set_cons_succ, List.getElem_toArray, List.getElem_cons_succ, List.getElem_cons_zero]
      refine wpAnyH_take (i := 9) (v := ?_) rfl (by kernel_rfl) (by kernel_rfl) (by kernel_rfl) (fun _ _ _ h => h) (Or.inl ⟨by kernel_rfl, ?_⟩) (by assumption) ?_
      rotate_left
      · intro w hSw; (try dsimp only at hSw); go_simp
        all_goals with_reducible rfl
      try simp only [Act.put, List.setIfInBounds_toArray, List.set_cons_zero, List.set_cons_succ, List.getElem_toArray, List.getElem_cons_succ, List.getElem_cons_zero]
      refine wpAnyH_take (i := 10) (v := ?_) rfl (by kernel_rfl) (by kernel_rfl) (by kernel_rfl) (fun _ _ _ h => h) (Or.inl ⟨by kernel_rfl, ?_⟩) (by assumption) ?_
      rotate_left
      · intro w hSw; (try dsimp only at hSw); go_simp
        all_goals with_reducible rfl
      try simp only [Act.put, List.setIfInBounds_toArray, List.set_cons_zero, List.set_cons_succ, List.getElem_toArray, List.getElem_cons_succ, List.getElem_cons_zero]
      refine wpAnyH_done (by kernel_rfl) ?_ _
      refine NoPanic.normal ?_
      obtain ⟨_, hs3, _, hb3⟩ := hHeld
      have hd3 := hs3.cells
      clear hs3
      have HH := Lib.hid hb3
      clear hb3
      go_wp2
      go_ret
      exact ⟨by rw [HW.out]; rfl, by rw [← HB.out]; exact HH.out⟩
  · go_enter Tryz.func48, Tryz.ntmps48
    go_wp2_with fail
    simp only [← hW, ← hB]
    clear hW hB
    refine (HO.out _ HLW.out).mono ?_
    rintro e w1 ⟨rfl, hb1⟩
    have hk1 := hblk.below hb1 hblk.lt
    have hn2 := hk1.alloc (.cells #[.string ⟨wd.toArray⟩, .int .i64 (ops : Int), .bool true, .bool false, .bool false] 76)
    have hs2 := Blk.new w1 76 #[.string ⟨wd.toArray⟩, .int .i64 (ops : Int), .bool true, .bool false, .bool false]
    have hb2 : Below B w (w1.alloc (.cells #[.string ⟨wd.toArray⟩, .int .i64 (ops : Int), .bool true, .bool false, .bool false] 76)) := (hba.trans (hb1.mono (Nat.le_of_lt hblk.lt))).alloc (by have := hb1.size; have := hblk.lt; omega) _
    have hc2 := hn2.cells
    clear hk1 hb1 hc
    go_wp2_with fail
    obtain ⟨w2, hw2⟩ : ∃ x, x = w1.alloc (.cells #[.string ⟨wd.toArray⟩, .int .i64 (ops : Int), .bool true, .bool false, .bool false] 76) := ⟨_, rfl⟩
    obtain ⟨C, hC⟩ : ∃ x, x = w1.heap.size := ⟨_, rfl⟩
    simp only [← hw2, ← hC]
    rw [← hw2] at hn2 hs2 hb2
    rw [← hC] at hs2
    clear hw2 hC hc2
    have HK : Hid (∀ w' w1 : World, ((∀ i, w'.cell? ⟨B, i, none⟩ = ([.int .i64 (k : Int), .bool neg, .string num, .string den, .string nm] : List Value)[i]?) ∧ Blk w' C 76 [.string ⟨wd.toArray⟩, .int .i64 (ops : Int), .bool true, .bool false, .bool false] ∧ B < w'.heap.size ∧ Below B w w') → Below w'.heap.size w' w1 →
        ((∀ i, w1.cell? ⟨B, i, none⟩ = ([.int .i64 (k : Int), .bool neg, .string num, .string den, .string nm] : List Value)[i]?) ∧ Blk w1 C 76 [.string ⟨wd.toArray⟩, .int .i64 (ops : Int), .bool true, .bool false, .bool false] ∧ B < w1.heap.size ∧ Below B w w1)) := by
      rintro w' w1 ⟨h0, h1, h2, h3⟩ hb1
      exact ⟨fun i => (hb1.cell h2).trans (h0 i), h1.below hb1 h1.lt, Nat.lt_of_lt_of_le h2 hb1.size, h3.trans (hb1.mono (Nat.le_of_lt h2))⟩
    have HS : Hid ((∀ i, w2.drew.cell? ⟨B, i, none⟩ = ([.int .i64 (k : Int), .bool neg, .string num, .string den, .string nm] : List Value)[i]?) ∧ Blk w2.drew C 76 [.string ⟨wd.toArray⟩, .int .i64 (ops : Int), .bool true, .bool false, .bool false] ∧ B < w2.drew.heap.size ∧ Below B w w2.drew) :=
      ⟨hn2.cells, hs2, hn2.lt, below_drewN hb2 1⟩
    clear hn2 hs2 hb2
    refine wp_region_noPanic ?_
    refine wp_region_held_drew (S := fun w' => (∀ i, w'.cell? ⟨B, i, none⟩ = ([.int .i64 (k : Int), .bool neg, .string num, .string den, .string nm] : List Value)[i]?) ∧ Blk w' C 76 [.string ⟨wd.toArray⟩, .int .i64 (ops : Int), .bool true, .bool false, .bool false] ∧ B < w'.heap.size ∧ Below B w w') (by kernel_rfl) HS.out (fun hHeld => ?_)
    refine wpAnyH_take (i := 0) (v := ?_) rfl (by kernel_rfl) (by kernel_rfl) (by kernel_rfl) (fun _ _ _ h => h) (Or.inl ⟨by kernel_rfl, ?_⟩) (by assumption) ?_
    rotate_left
    · intro w hSw; (try dsimp only at hSw); go_simp
      all_goals with_reducible rfl
    try simp only [Act.put, List.setIfInBounds_toArray, List.set_cons_zero, List.set_cons_succ, List.getElem_toArray, List.getElem_cons_succ, List.getElem_cons_zero]
    refine wpAnyH_take (i := 1) (v := ?_) rfl (by kernel_rfl) (by kernel_rfl) (by kernel_rfl) (fun _ _ _ h => h) (Or.inl ⟨by kernel_rfl, ?_⟩) (by assumption) ?_
    rotate_left
    · intro w hSw; (try dsimp only at hSw); go_simp
      all_goals with_reducible rfl
    try simp only [Act.put, List.setIfInBounds_toArray, List.set_cons_zero, List.set_cons_succ, List.getElem_toArray, List.getElem_cons_succ, List.getElem_cons_zero]
    refine wpAnyH_ready (rs := [2]) (by kernel_rfl) (by simp) ?_
    refine AllReadyH.cons rfl (fun K hK => ?_) AllReadyH.nil
    go_simp
    refine (qOf_any 0 _ (by omega) (by omega)).mono ?_
    rintro e w1 ⟨rfl, hb1⟩
    simp only [Ra.v]
    go_wp2_with fail
    refine hK.out _ _ ?_ (fun hHeld => ?_)
    · exact HK.out _ _ (by assumption) hb1
    clear hK K
    try simp only [Act.put, List.setIfInBounds_toArray, List.set_cons_zero, List.set_cons_succ, List.getElem_toArray, List.getElem_cons_succ, List.getElem_cons_zero]
    refine wpAnyH_take (i := 3) (v := ?_) rfl (by kernel_rfl) (by kernel_rfl) (by kernel_rfl) (fun _ _ _ h => h) (Or.inl ⟨by kernel_rfl, ?_⟩) (by assumption) ?_
    rotate_left
    · intro w hSw; (try dsimp only at hSw); go_simp
      all_goals with_reducible rfl
    try simp only [Act.put, List.setIfInBounds_toArray, List.set_cons_zero, List.set_cons_succ, List.getElem_toArray, List.getElem_cons_succ, List.getElem_cons_zero]
    refine wpAnyH_take (i := 4) (v := ?_) rfl (by kernel_rfl) (by kernel_rfl) (by kernel_rfl) (fun _ _ _ h => h) (Or.inl ⟨by kernel_rfl, ?_⟩) (by assumption) ?_
    rotate_left
    · intro w hSw; (try dsimp only at hSw); go_simp
      all_goals with_reducible rfl
    try simp only [Act.put, List.setIfInBounds_toArray, List.set_cons_zero, List.set_cons_succ, List.getElem_toArray, List.getElem_cons_succ, List.getElem_cons_zero]
    refine wpAnyH_take (i := 5) (v := undef) rfl (by kernel_rfl) (by kernel_rfl) (by kernel_rfl) (fun _ _ _ h => h) (Or.inr ⟨by kernel_rfl, rfl⟩) (by assumption) ?_
    try simp only [Act.put, List.setIfInBounds_toArray, List.set_cons_zero, List.set_cons_succ, List.getElem_toArray, List.getElem_cons_succ, List.getElem_cons_zero]
    refine wpAnyH_take (i := 6) (v := undef) rfl (by kernel_rfl) (by kernel_rfl) (by kernel_rfl) (fun _ _ _ h => h) (Or.inr ⟨by kernel_rfl, rfl⟩) (by assumption) ?_
    try simp only [Act.put, List.setIfInBounds_toArray, List.set_cons_zero, List.set_cons_succ, List.getElem_toArray, List.getElem_cons_succ, List.getElem_cons_zero]
    refine wpAnyH_take (i := 7) (v := undef) rfl (by kernel_rfl) (by kernel_rfl) (by kernel_rfl) (fun _ _ _ h => h) (Or.inr ⟨by kernel_rfl, rfl⟩) (by assumption) ?_
    try simp only [Act.put, List.setIfInBounds_toArray, List.set_cons_zero, List.set_cons_succ, List.getElem_toArray, List.getElem_cons_succ, List.getElem_cons_zero]
    refine wpAnyH_take (i := 8) (v := undef) rfl (by kernel_rfl) (by kernel_rfl) (by kernel_rfl) (fun _ _ _ h => h) (Or.inr ⟨by kernel_rfl, rfl⟩) (by assumption) ?_
    try simp only [Act.put, List.setIfInBounds_toArray, List.set_cons_zero, List.set_cons_succ, List.getElem_toArray, List.getElem_cons_succ, List.getElem_cons_zero]
    refine wpAnyH_take (i := 9) (v := ?_) rfl (by kernel_rfl) (by kernel_rfl) (by kernel_rfl) (fun _ _ _ h => h) (Or.inl ⟨by kernel_rfl, ?_⟩) (by assumption) ?_
    rotate_left
    · intro w hSw; (try dsimp only at hSw); go_simp
      all_goals with_reducible rfl
    try simp only [Act.put, List.setIfInBounds_toArray, List.set_cons_zero, List.set_cons_succ, List.getElem_toArray, List.getElem_cons_succ, List.getElem_cons_zero]
    refine wpAnyH_take (i := 10) (v := ?_) rfl (by kernel_rfl) (by kernel_rfl) (by kernel_rfl) (fun _ _ _ h => h) (Or.inl ⟨by kernel_rfl, ?_⟩) (by assumption) ?_
    rotate_left
    · intro w hSw; (try dsimp only at hSw); go_simp
      all_goals with_reducible rfl
    try simp only [Act.put, List.setIfInBounds_toArray, List.set_cons_zero, List.set_cons_succ, List.getElem_toArray, List.getElem_cons_succ, List.getElem_cons_zero]
    refine wpAnyH_done (by kernel_rfl) ?_ _
    refine NoPanic.normal ?_
    obtain ⟨_, hs3, _, hb3⟩ := hHeld
    have hd3 := hs3.cells
    clear hs3
    have HH := Lib.hid hb3
    clear hb3
    go_wp2
    go_ret
    exact ⟨by rw [HW.out]; rfl, by rw [← HB.out]; exact HH.out⟩
end Go.Proofs.YtbicehdehiakgaaGreatDoor
