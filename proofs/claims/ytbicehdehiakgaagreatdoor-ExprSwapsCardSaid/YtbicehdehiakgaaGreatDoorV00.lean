/- For every list of ints, every int and every Swap tithinglaw07.ExprSwaps returns true, and its arguments read afterwards as they did. Conditions: the package-level variables that the row lists hold what the program's own text lays in them. -/
import Derived.SevenTiedAt
import Derived.Test.YtbicehdehiakgaaGreatDoorTie
import Derived.Test.YtbicehdehiakgaaGreatDoorCards
import Derived.Test.YtbicehdehiakgaaGreatDoorE26
import Derived.Test.YtbicehdehiakgaaGreatDoorE39
set_option linter.unusedVariables false
set_option linter.unusedSimpArgs false
namespace Go.Proofs.YtbicehdehiakgaaGreatDoor
open Go.RowKit
theorem swL_back (es : List Nd) : ∀ (k : Nat) (n : Nd) (x : Ra), es[k]? = some n → (swL es k x)[k]? = some ⟨n.op, x, n.name⟩ ∧ swL (swL es k x) k n.num = es := by
 induction es with
 | nil => intro k n x h; simp at h
 | cons m es ih =>
  intro k n x h
  cases k with
  | zero =>
   obtain rfl : m = n := by simpa using h
   exact ⟨rfl, rfl⟩
  | succ k =>
   obtain ⟨h1, h2⟩ := ih k n x (by simpa using h)
   refine ⟨by show (m :: swL es k x)[k + 1]? = _; simpa using h1, ?_⟩
   show m :: swL (swL es k x) k n.num = _
   rw [h2]
theorem swap_back {es : List Nd} {i : Int} {x : Ra} (h : (swapE es i x).2 = 0) : ∃ (k : Nat) (n : Nd), i = (k : Int) ∧ es[k]? = some n ∧ checkE (swapE es i x).1 = 0 ∧ (swapE es i x).1.length = es.length ∧ swapE (swapE es i x).1 i n.num = (es, 0) := by
 obtain ⟨w1, w2, w3⟩ := swapE_ways es i x
 by_cases h0 : checkE es = 0
 ·by_cases hi : i < 0 ∨ (es.length : Int) ≤ i
  ·rw [w2 h0 hi] at h; exact absurd h (by decide)
  ·obtain ⟨k, rfl⟩ : ∃ k : Nat, i = k := ⟨i.toNat, by omega⟩
   have hk : k < es.length := by omega
   have hn : es[k]? = some es[k] := List.getElem?_eq_getElem hk
   obtain ⟨g1, g2⟩ := w3 h0 k es[k] hn rfl
   by_cases hls : (shp es[k].op).lit = true ∨ (shp es[k].op).stp = true
   ·have g3 := g2 hls
    by_cases hc : checkE (swL es k x) = 0
    ·rw [if_neg (by simp [hc])] at g3
     obtain ⟨b1, b2⟩ := swL_back es k es[k] x hn
     obtain ⟨_, _, v3⟩ := swapE_ways (swL es k x) (k : Int) es[k].num
     have g4 := (v3 hc k _ b1 rfl).2 hls
     rw [b2, if_neg (by simp [h0])] at g4
     exact ⟨k, es[k], rfl, hn, by rw [g3]; exact hc, by rw [g3]; exact swL_length _ _ _, by rw [g3]; exact g4⟩
    ·rw [if_pos hc] at g3
     rw [g3] at h; exact absurd h hc
   ·rw [g1 hls] at h; exact absurd h (by decide)
 ·rw [w1 h0] at h; exact absurd h h0
theorem madeR_sz (q0 q1 q2 : Int) : (madeR q0 q1 q2).num.size ≤ 1048576 ∧ (madeR q0 q1 q2).den.size ≤ 1048576 := by
 obtain ⟨h1, h2, _⟩ := madeN_lt q0 q1 q2
 obtain ⟨h3, h4⟩ := low_size (decide (q0 < 0)) _ _ 16 h1 h2
 exact ⟨Nat.le_trans h3 (by omega), Nat.le_trans h4 (by omega)⟩
theorem stepR_sz (q0 q1 q2 : Int) : (stepR q0 q1 q2).num.size ≤ 1048576 ∧ (stepR q0 q1 q2).den.size ≤ 1048576 := by
 have h1 := madeR_sz q0 q1 q2
 have h2 : (negR (madeR q0 q1 q2)).num.size ≤ 1048576 ∧ (negR (madeR q0 q1 q2)).den.size ≤ 1048576 := by
  have h : (valR (madeR q0 q1 q2)).num.size ≤ 1048576 ∧ (valR (madeR q0 q1 q2)).den.size ≤ 1048576 := valR_size _ _ (by omega) h1.1 h1.2
  unfold negR
  split <;> exact h
 have h3 : centR.num.size ≤ 1048576 ∧ centR.den.size ≤ 1048576 := by decide +kernel
 have h4 : ∀ a : Ra, (a.num.size ≤ 1048576 ∧ a.den.size ≤ 1048576) → (if signR a = 0 then centR else a).num.size ≤ 1048576 ∧ (if signR a = 0 then centR else a).den.size ≤ 1048576 := by
  intro a ha
  split
  ·exact h3
  ·exact ha
 unfold stepR
 exact h4 _ (by split; exact h2; exact h1)
end Go.Proofs.YtbicehdehiakgaaGreatDoor
namespace Go.Proofs.YtbicehdehiakgaaGreatDoor
open Go.RowKit
def cutS (k : Nat) (s : ByteArray) : ByteArray := s.extract 0 (min (s.size : Int) (k : Int)).toNat
theorem cutS_size (k : Nat) (s : ByteArray) : (cutS k s).size ≤ k := by unfold cutS; rw [ByteArray.size_extract]; omega
def cutN (n : Nd) : Nd := ⟨n.op, ⟨n.num.neg, cutS 60 n.num.num, cutS 60 n.num.den⟩, cutS 30 n.name⟩
def cutL (e : List Nd) : List Nd := (e.take 64).map cutN
set_option maxRecDepth 100000 in
set_option maxHeartbeats 3200000 in
theorem lcut_any (es : List Nd) (A1 : Option Addr) (l1 c1 : Nat) (w : World) (h1 : Es w es A1 l1 c1) :
  Calls Tryz.prog 13 #[.slice A1 l1 c1] w fun e w' => ∃ A n c, e = .returned (.slice A n c) ∧ Es w' (cutL es) A n c ∧ Below w.heap.size w w' := by
 have H1 := Lib.hid h1
 have hmx : l1 ≤ maxLen := Nat.le_trans h1.cap h1.max
 unfold maxLen at hmx
 clear h1
 go_enter Tryz.func13, Tryz.ntmps13
 go_wp2
 go_loopg [3, 4] l1 (fun g ov iv wr => ∃ (k : Nat) (os : List Nd), k + g = l1 ∧ k ≤ 64 ∧ iv = .int .i64 k ∧ Hid (wr.ownsRow w.heap.size 33 5 ov k (nds os)) ∧ Hid (os = (es.take k).map cutN) ∧ Below w.heap.size w wr)
 case atStart => exact ⟨0, [], by omega, by omega, rfl, World.ownsRow_nil _ _ _ _, rfl, Below.refl _ _⟩
 case round =>
  obtain ⟨k, os, hk, hk64, rfl, hown, hos, hbr⟩ := hrel
  by_cases hlt : k < l1
  ·by_cases h64 : k < 64
   ·have hke : k < es.length := by rw [← H1.out.len]; exact hlt
    have h64' : (k : Int) < 64 := by omega
    obtain ⟨b, off, hA, hb, hc0, hc1, hc2, hc3, hc4⟩ := (H1.out.rd.below hbr).nd hke
    subst hA
    have HT : Hid ((es.take (k + 1)).map cutN = os ++ [cutN es[k]]) := by
     show _ = _
     rw [List.take_succ_eq_append_getElem hke, List.map_append, ← hos.out]; rfl
    generalize es[k] = n at *
    obtain ⟨op, ⟨neg, num, den⟩, nm⟩ := n
    simp only at hc0 hc1 hc2 hc3 hc4 HT
    have HC : Hid (cutN ⟨op, ⟨neg, num, den⟩, nm⟩ = ⟨op, ⟨neg, num.extract 0 (min (num.size : Int) 60).toNat, den.extract 0 (min (den.size : Int) 60).toNat⟩, nm.extract 0 (min (nm.size : Int) 30).toNat⟩) := rfl
    have HBA : Hid (Below w.heap.size w (wr.alloc (.cells #[.int .i64 op, .bool neg, .string (num.extract 0 (min (num.size : Int) 60).toNat), .string (den.extract 0 (min (den.size : Int) 60).toNat), .string (nm.extract 0 (min (nm.size : Int) 30).toNat)] 33))) := hbr.alloc hbr.size _
    have HOA := Lib.hid (hown.out.alloc (.cells #[.int .i64 op, .bool neg, .string (num.extract 0 (min (num.size : Int) 60).toNat), .string (den.extract 0 (min (den.size : Int) 60).toNat), .string (nm.extract 0 (min (nm.size : Int) 30).toNat)] 33))
    clear hos hbr hown
    go_wp2_with (at_builtin; go_must (refine wpList_push (wr.alloc (.cells #[.int .i64 op, .bool neg, .string (num.extract 0 (min (num.size : Int) 60).toNat), .string (den.extract 0 (min (den.size : Int) 60).toNat), .string (nm.extract 0 (min (nm.size : Int) 30).toNat)] 33)) #[.int .i64 op, .bool neg, .string (num.extract 0 (min (num.size : Int) 60).toNat), .string (den.extract 0 (min (den.size : Int) 60).toNat), .string (nm.extract 0 (min (nm.size : Int) 30).toNat)] rfl _ _ 22 rfl w.heap.size 33 _ 5 64 1 Tryz.underlying22 info_node rfl (by decide) u3 k (nds os) rfl HOA.out (by rw [World.size_alloc]; rfl) rfl ?_ ?_ ?_ ?_ ?_))
    any_goals first | (unfold maxLen; omega) | omega
    ·exact ⟨rfl, rfl, rfl, rfl, rfl⟩
    ·exact HBA.out.size
    intro v' w' hown' hb'
    have HOWN : Hid (w'.ownsRow w.heap.size 33 5 v' (k + 1) (nds (os ++ [cutN ⟨op, ⟨neg, num, den⟩, nm⟩]))) := by
     show World.ownsRow _ _ _ _ _ _ _
     rw [nds_append, HC.out]; exact hown'
    have HB := Lib.hid (HBA.out.trans hb')
    clear hown' hb' HBA HOA
    go_wp2
    go_roundg (l1 - (k + 1))
    case measure => omega
    case rel => exact ⟨k + 1, os ++ [cutN ⟨op, ⟨neg, num, den⟩, nm⟩], by omega, by omega, by go_num, HOWN, HT.out.symm, HB.out⟩
   ·have h64' : decide ((k : Int) < 64) = false := by rw [decide_eq_false_iff_not]; omega
    have hx1 : (k : Int) < l1 := by omega
    have hT : Hid (os = cutL es) := by
     show _ = _
     rw [hos.out]; unfold cutL; rw [show k = 64 from by omega]
    have hlen : os.length = k := by rw [hos.out, List.length_map, List.length_take]; have := H1.out.len; omega
    obtain ⟨A, cp, rfl, g1, g2, g3, g4⟩ := own_rd hown.out
    have HBR := Lib.hid hbr
    have G3 : Hid (Es wr os A k cp) := ⟨hlen.symm, g1, g2, g3⟩
    clear hbr g1 g2 g3 g4 hown hlen hos
    go_wp2
    go_ret
    exact ⟨A, k, cp, rfl, by rw [← hT.out]; exact G3.out, HBR.out⟩
  ·have hkl : k = l1 := by omega
   have hx1 : decide ((k : Int) < l1) = false := by rw [decide_eq_false_iff_not]; omega
   have hT : Hid (os = cutL es) := by
    show _ = _
    rw [hos.out]; unfold cutL; rw [List.take_of_length_le (by have := H1.out.len; omega), List.take_of_length_le (by have := H1.out.len; omega)]
   have hlen : os.length = k := by rw [hos.out, List.length_map, List.length_take]; have := H1.out.len; omega
   obtain ⟨A, cp, rfl, g1, g2, g3, g4⟩ := own_rd hown.out
   have HBR := Lib.hid hbr
   have G3 : Hid (Es wr os A k cp) := ⟨hlen.symm, g1, g2, g3⟩
   clear hbr g1 g2 g3 g4 hown hlen hos
   go_wp2
   go_ret
   exact ⟨A, k, cp, rfl, by rw [← hT.out]; exact G3.out, HBR.out⟩
end Go.Proofs.YtbicehdehiakgaaGreatDoor
namespace Go.Proofs.YtbicehdehiakgaaGreatDoor
open Go.RowKit
theorem ra_form (x : Ra) : ∃ (a : Bool) (u d : ByteArray), x = ⟨a, u, d⟩ := ⟨x.neg, x.num, x.den, rfl⟩
set_option maxRecDepth 100000 in
set_option maxHeartbeats 3200000 in
theorem exprSwaps_core (l : List Int) (A1 : Option Addr) (l1 c1 : Nat) (i q0 q1 q2 : Int) (rg : Bool) (ru rd : ByteArray) (w : World) (hL : LaidE w) (h1 : Zz w l A1 l1 c1)
  (hi : -9223372036854775808 ≤ i ∧ i ≤ 9223372036854775807) (hq0 : -9223372036854775808 ≤ q0 ∧ q0 ≤ 9223372036854775807) (hq1 : -9223372036854775808 ≤ q1 ∧ q1 ≤ 9223372036854775807) (hq2 : -9223372036854775808 ≤ q2 ∧ q2 ≤ 9223372036854775807) :
  Calls Tryz.prog 10 #[.slice A1 l1 c1, .int .i64 i, .agg #[.int .i64 q0, .int .i64 q1, .int .i64 q2, .bool rg, .string ru, .string rd]] w fun e w' => e = .returned (.bool true) ∧ Below w.heap.size w w' := by
 have HL : Hid (∀ W, Below w.heap.size w W → LaidE W) := fun W hb => hL.below hb
 have H1 := Lib.hid h1
 have HCA := Lib.hid (madeE_check l)
 have HFA := Lib.hid (madeE_fine l)
 obtain ⟨hle, hlp⟩ := madeE_len l
 obtain ⟨cu, hcu⟩ : ∃ cu, cutS 60 ru = cu := ⟨_, rfl⟩
 obtain ⟨cd, hcd⟩ : ∃ cd, cutS 60 rd = cd := ⟨_, rfl⟩
 have hcus : cu.size ≤ 60 := by rw [← hcu]; exact cutS_size _ _
 have hcds : cd.size ≤ 60 := by rw [← hcd]; exact cutS_size _ _
 have HCUT : Hid (cutL [(⟨0, ⟨rg, ru, rd⟩, ⟨#[]⟩⟩ : Nd)] = [⟨0, ⟨rg, cu, cd⟩, cutS 30 ⟨#[]⟩⟩]) := by show [cutN _] = _; unfold cutN; rw [hcu, hcd]
 obtain ⟨ma, mu, md, hmq⟩ := ra_form (madeR q0 q1 q2)
 obtain ⟨sa, su, sd, hsq⟩ := ra_form (stepR q0 q1 q2)
 have HSZ : Hid (∀ x ∈ [(⟨ma, mu, md⟩ : Ra), ⟨sa, su, sd⟩, ⟨rg, cu, cd⟩], x.num.size ≤ 1048576 ∧ x.den.size ≤ 1048576) := by
  intro x hx
  simp only [List.mem_cons, List.not_mem_nil, or_false] at hx
  rcases hx with rfl | rfl | rfl
  ·rw [← hmq]; exact madeR_sz _ _ _
  ·rw [← hsq]; exact stepR_sz _ _ _
  ·exact ⟨by show cu.size ≤ _; omega, by show cd.size ≤ _; omega⟩
 have HMA : Hid (∀ W, Calls Tryz.prog 31 #[.agg #[.int .i64 q0, .int .i64 q1, .int .i64 q2]] W fun e w' => e = .returned (.agg #[.bool ma, .string mu, .string md]) ∧ Below W.heap.size W w') := by
  intro W
  have := sMade_any q0 q1 q2 W hq0 hq1 hq2
  rw [hmq] at this; exact this
 have HSTP : Hid (∀ W, Calls Tryz.prog 32 #[.agg #[.int .i64 q0, .int .i64 q1, .int .i64 q2]] W fun e w' => e = .returned (.agg #[.bool sa, .string su, .string sd]) ∧ Below W.heap.size W w') := by
  intro W
  have := gStep_any q0 q1 q2 W hq0 hq1 hq2
  rw [hsq] at this; exact this
 clear h1 hcu hcd hmq hsq hcus hcds
 obtain ⟨W, hW⟩ : ∃ W, W = w.alloc (.cells #[.int .i64 q0, .int .i64 q1, .int .i64 q2, .bool rg, .string ru, .string rd] 59) := ⟨_, rfl⟩
 have hba : Below w.heap.size w W := by rw [hW]; exact (Below.refl _ _).alloc (Nat.le_refl _) _
 have hk0 : Blk W w.heap.size 59 [.int .i64 q0, .int .i64 q1, .int .i64 q2, .bool rg, .string ru, .string rd] := by rw [hW]; exact Blk.new w _ _
 have hsz : W.heap.size = w.heap.size + 1 := by rw [hW]; exact Array.size_push _
 obtain ⟨B, hB⟩ : ∃ B, B = w.heap.size := ⟨_, rfl⟩
 have HB := Lib.hid hB
 rw [← hB] at hba hsz hk0
 go_enter Tryz.func10, Tryz.ntmps10
 go_wp2_with fail
 simp only [← hW, ← hB]
 clear hW hB
 refine (lsanity_any _ (HL.out _ (by rw [← HB.out]; exact hba))).mono ?_
 rintro e w1 ⟨rfl, hb1⟩
 have hk1 := hk0.below hb1 hk0.lt
 have hB1 : Below B w w1 := hba.trans (hb1.mono (Nat.le_of_lt hk0.lt))
 clear hb1 hk0 hba
 go_wp2_with fail
 refine (made_es (H1.out.below (by rw [← HB.out]; exact hB1))).mono ?_
 rintro e w2 ⟨Aa, na, ca, rfl, ha, hb2⟩
 have hk2 := hk1.below hb2 hk1.lt
 have hB2 : Below B w w2 := hB1.trans (hb2.mono (Nat.le_of_lt hk1.lt))
 have hc2 := hk2.cells
 generalize madeE l = xs at *
 obtain rfl : na = xs.length := ha.len
 clear hb2 hk1 hB1
 go_wp2_with fail
 obtain ⟨w3, hw⟩ : ∃ x, x = w2.alloc (.cells #[.int .i64 0, .bool rg, .string ru, .string rd, .string ⟨#[]⟩] 33) := ⟨_, rfl⟩
 have hn := Es_new w2 [(⟨0, ⟨rg, ru, rd⟩, ⟨#[]⟩⟩ : Nd)] #[.int .i64 0, .bool rg, .string ru, .string rd, .string ⟨#[]⟩] 1 rfl rfl (by omega)
 have hb : Below w2.heap.size w2 w3 := by rw [hw]; exact (Below.refl _ _).alloc (Nat.le_refl _) _
 rw [← hw] at hn
 simp only [← hw]
 clear hw
 have hk3 := hk2.below hb hk2.lt
 have hB3 : Below B w w3 := hB2.trans (hb.mono (Nat.le_of_lt hk2.lt))
 have ha3 := ha.below hb
 clear hb hk2 hB2 ha hc2
 generalize w2.heap.size = C2 at *
 refine (lcut_any _ _ _ _ _ hn).mono ?_
 rintro e w4 ⟨Ac, nc, cc, rfl, hcut, hb⟩
 rw [HCUT.out] at hcut
 obtain rfl : nc = 1 := hcut.len
 obtain ⟨bc, oc, hAc, _, y0, y1, y2, y3, y4⟩ := hcut.rd.nd (k := 0) (by simp)
 subst hAc
 simp only [List.getElem_cons_zero, Nat.zero_mul, Nat.add_zero] at y0 y1 y2 y3 y4
 have hk4 := hk3.below hb hk3.lt
 have hB4 : Below B w w4 := hB3.trans (hb.mono (Nat.le_of_lt hk3.lt))
 have ha4 := ha3.below hb
 clear hb hk3 hB3 ha3 hn hcut HCUT
 have HMO := Lib.hid (fun W => sMod_any i xs.length W hi.1 hi.2 (by omega) (by omega))
 go_wp2_with fail
 obtain ⟨w5, hw⟩ : ∃ x, x = w4.alloc (.cells #[.bool rg, .string cu, .string cd] 31) := ⟨_, rfl⟩
 have hr5 : Blk w5 w4.heap.size 31 [.bool rg, .string cu, .string cd] := by rw [hw]; exact Blk.new w4 _ _
 have hb : Below w4.heap.size w4 w5 := by rw [hw]; exact (Below.refl _ _).alloc (Nat.le_refl _) _
 simp only [← hw]
 clear hw
 have hk5 := hk4.below hb hk4.lt
 have hB5 : Below B w w5 := hB4.trans (hb.mono (Nat.le_of_lt hk4.lt))
 have ha5 := ha4.below hb
 clear hb hk4 hB4 ha4 y0 y1 y2 y3 y4
 generalize w4.heap.size = C4 at *
 refine (HMO.out _).mono ?_
 rintro e w' ⟨rfl, rfl⟩
 have hmr := mod_in i xs.length (by omega)
 generalize i % (xs.length : Int) = m at *
 go_wp2_with fail
 obtain ⟨w6, hw⟩ : ∃ x, x = w5.alloc (.cells #[.int .i64 i, .int .i64 m] 3) := ⟨_, rfl⟩
 have hz6 : Blk w6 w5.heap.size 3 [.int .i64 i, .int .i64 m] := by rw [hw]; exact Blk.new w5 _ _
 have hb : Below w5.heap.size w5 w6 := by rw [hw]; exact (Below.refl _ _).alloc (Nat.le_refl _) _
 simp only [← hw]
 clear hw
 have hk6 := hk5.below hb hk5.lt
 have hr6 := hr5.below hb hr5.lt
 have hB6 : Below B w w6 := hB5.trans (hb.mono (Nat.le_of_lt hk5.lt))
 have ha6 := ha5.below hb
 clear hb hk5 hB5 ha5 hr5
 generalize w5.heap.size = C5 at *
 have HK6 := Lib.hid hk6; have HR6 := Lib.hid hr6; have HB6 := Lib.hid hB6; have HA6 := Lib.hid ha6
 have HZ6 : Hid (∀ j, j < 2 → ∃ K : Int, w6.cell? ⟨C5, j, none⟩ = some (.int .i64 K) ∧ -9223372036854775808 ≤ K ∧ K ≤ 9223372036854775807) := by
  intro j hj
  have := hz6.cells
  obtain rfl | rfl : j = 0 ∨ j = 1 := by omega
  ·exact ⟨i, this 0, hi⟩
  ·exact ⟨m, this 1, by omega, by omega⟩
 have HC5 := Lib.hid hz6.lt
 clear hz6 hk6 hr6 hB6 ha6 HMO hmr hi
 go_loopg [38] 2 (fun g iv wr => ∃ j : Nat, j + g = 2 ∧ iv = .int .i64 j ∧ Below w6.heap.size w6 wr)
 case atStart => exact ⟨0, by omega, rfl, Below.refl _ _⟩
 case round =>
  obtain ⟨j, hj, rfl, hbr⟩ := hrel
  by_cases hjl : j < 2
  ·obtain ⟨K, hKc, hK0, hK1⟩ := HZ6.out j hjl
   have hKc := (hbr.cell HC5.out).trans hKc
   have hjl' : (j : Int) < 2 := by omega
   have HS : Hid ((∀ n, wr.drew.cell? ⟨B, n, none⟩ = ([.int .i64 q0, .int .i64 q1, .int .i64 q2, .bool rg, .string ru, .string rd] : List Value)[n]?) ∧ (∀ n, wr.drew.cell? ⟨C4, n, none⟩ = ([.bool rg, .string cu, .string cd] : List Value)[n]?) ∧ B < wr.drew.heap.size ∧ C4 < wr.drew.heap.size ∧ Below w6.heap.size w6 wr.drew) := ⟨fun n => (hbr.cell HK6.out.lt).trans (HK6.out.cells n), fun n => (hbr.cell HR6.out.lt).trans (HR6.out.cells n), Nat.lt_of_lt_of_le HK6.out.lt hbr.size, Nat.lt_of_lt_of_le HR6.out.lt hbr.size, below_drewN hbr 1⟩
   have HK : Hid (∀ w' w1 : World, ((∀ n, w'.cell? ⟨B, n, none⟩ = ([.int .i64 q0, .int .i64 q1, .int .i64 q2, .bool rg, .string ru, .string rd] : List Value)[n]?) ∧ (∀ n, w'.cell? ⟨C4, n, none⟩ = ([.bool rg, .string cu, .string cd] : List Value)[n]?) ∧ B < w'.heap.size ∧ C4 < w'.heap.size ∧ Below w6.heap.size w6 w') → Below w'.heap.size w' w1 → ((∀ n, w1.cell? ⟨B, n, none⟩ = ([.int .i64 q0, .int .i64 q1, .int .i64 q2, .bool rg, .string ru, .string rd] : List Value)[n]?) ∧ (∀ n, w1.cell? ⟨C4, n, none⟩ = ([.bool rg, .string cu, .string cd] : List Value)[n]?) ∧ B < w1.heap.size ∧ C4 < w1.heap.size ∧ Below w6.heap.size w6 w1)) := by
    rintro w' w1 ⟨h0, h1, h2, h3, h4⟩ hb1
    exact ⟨fun n => (hb1.cell h2).trans (h0 n), fun n => (hb1.cell h3).trans (h1 n), Nat.lt_of_lt_of_le h2 hb1.size, Nat.lt_of_lt_of_le h3 hb1.size, bstep h4 hb1⟩
   clear hbr
   go_wp2_with fail
   go_region_held3 (fun w' => (∀ n, w'.cell? ⟨B, n, none⟩ = ([.int .i64 q0, .int .i64 q1, .int .i64 q2, .bool rg, .string ru, .string rd] : List Value)[n]?) ∧ (∀ n, w'.cell? ⟨C4, n, none⟩ = ([.bool rg, .string cu, .string cd] : List Value)[n]?) ∧ B < w'.heap.size ∧ C4 < w'.heap.size ∧ Below w6.heap.size w6 w') (first | exact HS.out | exact HK.out _ _ (by assumption) hb1 | exact HK.out _ _ (by assumption) ((Below.refl _ _).alloc (Nat.le_refl _) _) | assumption)
    (first | (go_at_call 31; (with_reducible refine (HMA.out _).mono ?_); rintro e w1 ⟨rfl, hb1⟩) | (go_at_call 32; (with_reducible refine (HSTP.out _).mono ?_); rintro e wz ⟨rfl, hb1⟩))
   rename_i hH
   obtain ⟨_, _, _, _, hbz⟩ := hH
   have HBZ := Lib.hid hbz
   have hrow := Blk.new wz 31 #[.bool ma, .string mu, .string md, .bool sa, .string su, .string sd, .bool rg, .string cu, .string cd]
   obtain ⟨w7, hw⟩ : ∃ x, x = wz.alloc (.cells #[.bool ma, .string mu, .string md, .bool sa, .string su, .string sd, .bool rg, .string cu, .string cd] 31) := ⟨_, rfl⟩
   rw [← hw] at hrow hbz
   clear HBZ hb1
   have HB7 := Lib.hid hbz
   go_wp2_with fail
   simp only [← hw]
   clear hw hbz HS HK
   generalize wz.heap.size = C7 at *
   have HC7 := Lib.hid hrow.lt
   have HX7 : Hid (∀ v, v < 3 → ∃ (xa : Bool) (xu xd : ByteArray), w7.cell? ⟨C7, v * 3, none⟩ = some (.bool xa) ∧ w7.cell? ⟨C7, v * 3 + 1, none⟩ = some (.string xu) ∧ w7.cell? ⟨C7, v * 3 + 2, none⟩ = some (.string xd) ∧ xu.size ≤ 1048576 ∧ xd.size ≤ 1048576) := by
    intro v hv
    have hc := hrow.cells
    have hsz := HSZ.out
    obtain rfl | rfl | rfl : v = 0 ∨ v = 1 ∨ v = 2 := by omega
    ·exact ⟨ma, mu, md, hc 0, hc 1, hc 2, hsz ⟨ma, mu, md⟩ (by simp)⟩
    ·exact ⟨sa, su, sd, hc 3, hc 4, hc 5, hsz ⟨sa, su, sd⟩ (by simp)⟩
    ·exact ⟨rg, cu, cd, hc 6, hc 7, hc 8, hsz ⟨rg, cu, cd⟩ (by simp)⟩
   clear hrow hKc
   go_loopg [51] 3 (fun g iv wq => ∃ v : Nat, v + g = 3 ∧ iv = .int .i64 v ∧ Below w7.heap.size w7 wq)
   case atStart => exact ⟨0, by omega, rfl, Below.refl _ _⟩
   case round =>
    obtain ⟨v, hv, rfl, hbq⟩ := hrel
    by_cases hvl : v < 3
    ·obtain ⟨xa, xu, xd, y0, y1, y2, z1, z2⟩ := HX7.out v hvl
     have hvl' : (v : Int) < 3 := by omega
     have y0 := (hbq.cell HC7.out).trans y0
     have y1 := (hbq.cell HC7.out).trans y1
     have y2 := (hbq.cell HC7.out).trans y2
     go_wp2_with fail
     obtain ⟨w8, hw⟩ : ∃ x, x = wr.alloc (.cells #[.bool xa, .string xu, .string xd] 31) := ⟨_, rfl⟩
     have hk8 : Blk w8 wr.heap.size 31 [.bool xa, .string xu, .string xd] := by rw [hw]; exact Blk.new wr _ _
     have hb : Below wr.heap.size wr w8 := by rw [hw]; exact (Below.refl _ _).alloc (Nat.le_refl _) _
     have hb78 : Below w7.heap.size w7 w8 := bstep hbq hb
     simp only [← hw]
     clear hw hb hbq y0 y1 y2
     generalize wr.heap.size = C8 at *
     have hE8 : Es w8 xs Aa xs.length ca := HA6.out.below (HB7.out.trans (hb78.mono HB7.out.size))
     have hL8 : LaidE w8 := HL.out _ (by rw [← HB.out]; exact HB6.out.trans ((HB7.out.trans (hb78.mono HB7.out.size)).mono (Nat.le_of_lt HK6.out.lt)))
     have HSW := Lib.hid (eSwap_any xs K ⟨xa, xu, xd⟩ Aa xs.length ca w8 hL8 hE8 HFA.out ⟨z1, z2⟩)
     have HBK : Hid ((swapE xs K ⟨xa, xu, xd⟩).2 = 0 → ∃ (k : Nat) (n : Nd), K = (k : Int) ∧ xs[k]? = some n ∧ checkE (swapE xs K ⟨xa, xu, xd⟩).1 = 0 ∧ (swapE xs K ⟨xa, xu, xd⟩).1.length = xs.length ∧ swapE (swapE xs K ⟨xa, xu, xd⟩).1 K n.num = (xs, 0)) := fun h => swap_back h
     have HGW : Hid (∀ W, Es W xs Aa xs.length ca → Calls Tryz.prog 34 #[.slice Aa xs.length ca, .int .i64 K, .agg #[.bool xa, .string xu, .string xd]] W (RetEs (swapE xs K ⟨xa, xu, xd⟩) W)) := fun W h => gSwap_any xs K ⟨xa, xu, xd⟩ Aa xs.length ca W h HFA.out ⟨z1, z2⟩
     generalize swapE xs K ⟨xa, xu, xd⟩ = R at *
     obtain ⟨es, z⟩ := R
     simp only at HBK
     have HE8 := Lib.hid hE8; have HL8 := Lib.hid hL8; have HB78 := Lib.hid hb78
     clear hE8 hL8 hb78
     refine HSW.out.mono ?_
     rintro e w9 ⟨A9, n9, c9, rfl, hE9, hb⟩
     obtain rfl : n9 = es.length := hE9.len
     have hk9 := hk8.below hb hk8.lt
     have HE9 := Lib.hid hE9
     replace HE8 := Lib.hid (HE8.out.below hb)
     replace HB78 := Lib.hid (bstep HB78.out hb)
     replace HL8 := Lib.hid (HL8.out.below hb)
     have hc9 := hk9.cells
     clear hb hE9 hk8 HSW
     go_wp2_with fail
     refine (HGW.out _ HE8.out).mono ?_
     rintro e w10 ⟨A10, n10, c10, rfl, hE10, hb⟩
     obtain rfl : n10 = es.length := hE10.len
     have HE10 := Lib.hid hE10
     replace HE9 := Lib.hid (HE9.out.below hb)
     replace HE8 := Lib.hid (HE8.out.below hb)
     replace HB78 := Lib.hid (bstep HB78.out hb)
     replace HL8 := Lib.hid (HL8.out.below hb)
     clear hb hE10 hk9 hc9 HGW
     go_wp2_with fail
     refine (gSame_es HE9.out HE10.out true (decide_eq_true rfl)).mono ?_
     rintro e w11 ⟨rfl, hb⟩
     replace HE9 := Lib.hid (HE9.out.below hb)
     replace HE8 := Lib.hid (HE8.out.below hb)
     replace HB78 := Lib.hid (bstep HB78.out hb)
     replace HL8 := Lib.hid (HL8.out.below hb)
     clear hb HE10
     by_cases hz : z = 0
     ·subst hz
      obtain ⟨kn, n, hKn, hnn, hce, hel, hsb⟩ := HBK.out rfl
      subst hKn
      have hkl : kn < xs.length := (List.getElem?_eq_some_iff.1 hnn).1
      have hnq : xs[kn] = n := (List.getElem?_eq_some_iff.1 hnn).2
      obtain ⟨bn, on, hAn, hbn, v0, v1, v2, v3, v4⟩ := HE8.out.rd.nd hkl
      subst hAn
      rw [hnq] at v0 v1 v2 v3 v4
      have hfn : Fine n := HFA.out n (by rw [← hnq]; exact List.getElem_mem hkl)
      obtain ⟨nop, ⟨nneg, nnum, nden⟩, nnm⟩ := n
      simp only at v0 v1 v2 v3 v4 hsb
      have HSW := Lib.hid (ret_es hsb (eSwap_any es (kn : Int) ⟨nneg, nnum, nden⟩ A9 es.length c9 w11 HL8.out HE9.out (check_fine hce) hfn))
      clear HBK hnq hnn hce hel hsb hfn
      go_wp2_with fail
      refine HSW.out.mono ?_
      rintro e w12 ⟨A12, n12, c12, rfl, hE12, hb⟩
      replace HE8 := Lib.hid (HE8.out.below hb)
      replace HB78 := Lib.hid (bstep HB78.out hb)
      clear hb HSW v0 v1 v2 v3 v4
      go_wp2_with fail
      refine (gSame_es hE12 HE8.out true (decide_eq_true rfl)).mono ?_
      rintro e w13 ⟨rfl, hb⟩
      replace HB78 := Lib.hid (bstep HB78.out hb)
      clear hb hE12
      go_wp2
      go_roundg (3 - (v + 1))
      case measure => omega
      case rel => exact ⟨v + 1, by omega, by go_num, HB78.out⟩
     ·have hz2 : (z != 0) = true := by simp [hz]
      clear HBK hz
      go_wp2
      go_roundg (3 - (v + 1))
      case measure => omega
      case rel => exact ⟨v + 1, by omega, by go_num, HB78.out⟩
    ·have hx3 : decide ((v : Int) < 3) = false := by rw [decide_eq_false_iff_not]; omega
     have HBQ := Lib.hid hbq
     clear hbq
     go_wp2
     go_roundg (2 - (j + 1))
     case measure => omega
     case rel => exact ⟨j + 1, by omega, by go_num, HB7.out.trans (HBQ.out.mono HB7.out.size)⟩
  ·have hx3 : decide ((j : Int) < 2) = false := by rw [decide_eq_false_iff_not]; omega
   have HBR := Lib.hid hbr
   clear hbr
   go_wp2
   go_ret
   exact ⟨rfl, by rw [← HB.out]; exact HB6.out.trans (HBR.out.mono (Nat.le_trans (Nat.le_of_lt HK6.out.lt) (Nat.le_refl _)))⟩
end Go.Proofs.YtbicehdehiakgaaGreatDoor
namespace Go.Proofs.YtbicehdehiakgaaGreatDoor
open Go.ChangeShapes Go.WideShapes Go.ChangeAt Go.RowKit
theorem len6 {α : Type} : ∀ {l : List α}, l.length = 6 → ∃ a b c d e f, l = [a, b, c, d, e, f]
 | [a, b, c, d, e, f], _ => ⟨a, b, c, d, e, f, rfl⟩
theorem len3s {α : Type} : ∀ {l : List α}, l.length = 3 → ∃ a b c, l = [a, b, c]
 | [a, b, c], _ => ⟨a, b, c, rfl⟩
theorem len2s {α : Type} : ∀ {l : List α}, l.length = 2 → ∃ a b, l = [a, b]
 | [a, b], _ => ⟨a, b, rfl⟩
set_option maxRecDepth 100000 in
theorem swap_of_trod {H : Type} {enc : TypeId × Value → H} {W : World} {base : Nat} {spare : Nat → Bool} {held : Bool} {r : Reach} {b0 : Nat} {v : Value} {d : DataW H} {p : List MemPlace} (hv : Value.okWide Tryz.prog W r b0 59 v) (h : DataW.Trod enc Tryz.prog W base spare held 59 v d p) :
  ∃ (q0 q1 q2 : Int) (rg : Bool) (ru rd : ByteArray), v = .agg #[.int .i64 q0, .int .i64 q1, .int .i64 q2, .bool rg, .string ru, .string rd] ∧ (-9223372036854775808 ≤ q0 ∧ q0 ≤ 9223372036854775807) ∧ (-9223372036854775808 ≤ q1 ∧ q1 ≤ 9223372036854775807) ∧ (-9223372036854775808 ≤ q2 ∧ q2 ≤ 9223372036854775807) := by
 obtain ⟨fuel, hf⟩ := h
 have k0 : Tryz.prog.cellsOf 9 = 1 := by kernel_rfl
 have k1 : Tryz.prog.cellsOf 3 = 1 := by kernel_rfl
 have k2 : Tryz.prog.cellsOf 4 = 1 := by kernel_rfl
 have k3 : Tryz.prog.cellsOf 31 = 3 := by kernel_rfl
 have k4 : Tryz.prog.cellsOf 29 = 1 := by kernel_rfl
 have k5 : Tryz.prog.cellsOf 57 = 3 := by kernel_rfl
 have k6 : Tryz.prog.cellsOf 59 = 6 := by kernel_rfl
 obtain ⟨cs, rfl, hsz⟩ := okWide_struct Tryz.underlying59 hv
 obtain ⟨cs⟩ := cs
 have hcl : cs.length = 6 := by rw [← k6]; exact hsz
 obtain ⟨a0, a1, a2, a3, a4, a5, rfl⟩ := len6 hcl
 have hf' : DataW.trod enc Tryz.prog W base spare held fuel 59 [a0, a1, a2, a3, a4, a5] = some (d, p) := hf
 obtain ⟨ys, n', _, ey, hyc, hyl, hg⟩ := DataW.trod_struct Tryz.underlying59 hf'
 obtain ⟨y0, y1, rfl⟩ := len2s hyl
 have f0 := hg 0 _ rfl
 have f1 := hg 1 _ rfl
 simp only [List.getElem_toArray, List.getElem_cons_zero, List.getElem_cons_succ, k3, k5, List.drop_zero, List.take_succ_cons, List.take_zero, List.drop_succ_cons, List.getElem?_cons_zero, List.getElem?_cons_succ] at f0 f1
 obtain ⟨xs, m, _, ex, hxc, hxl, hx⟩ := DataW.trod_array Tryz.underlying57 f0
 rw [k1] at hx
 have g0 := hx 0 (by omega)
 have g1 := hx 1 (by omega)
 have g2 := hx 2 (by omega)
 obtain ⟨x0, x1, x2, rfl⟩ := len3s hxl
 simp only [Nat.zero_mul, Nat.one_mul, Nat.mul_one, List.drop_zero, List.take_succ_cons, List.take_zero, List.drop_succ_cons, List.getElem?_cons_zero, List.getElem?_cons_succ] at g0 g1 g2
 obtain ⟨q0, b0', _, w0⟩ := DataW.trod_int Tryz.underlying3 g0
 obtain ⟨q1, b1', _, w1⟩ := DataW.trod_int Tryz.underlying3 g1
 obtain ⟨q2, b2', _, w2⟩ := DataW.trod_int Tryz.underlying3 g2
 obtain ⟨zs, n2, _, ez, hzc, hzl, hh⟩ := DataW.trod_struct Tryz.underlying31 f1
 obtain ⟨z0, z1, z2, rfl⟩ := len3s hzl
 have r0 := hh 0 _ rfl
 have r1 := hh 1 _ rfl
 have r2 := hh 2 _ rfl
 simp only [List.getElem_toArray, List.getElem_cons_zero, List.getElem_cons_succ, k2, k4, List.drop_zero, List.take_succ_cons, List.take_zero, List.drop_succ_cons, List.getElem?_cons_zero, List.getElem?_cons_succ] at r0 r1 r2
 obtain ⟨rg, b3, _⟩ := DataW.trod_bool Tryz.underlying4 r0
 obtain ⟨ru, b4, _, _⟩ := DataW.trod_string Tryz.underlying29 r1
 obtain ⟨rd, b5, _, _⟩ := DataW.trod_string Tryz.underlying29 r2
 injection b0' with b0'; injection b1' with b1'; injection b2' with b2'; injection b3 with b3; injection b4 with b4; injection b5 with b5
 subst b0' b1' b2' b3 b4 b5
 exact ⟨q0, q1, q2, rg, ru, rd, rfl, i64_in64 w0, i64_in64 w1, i64_in64 w2⟩
theorem exprSwaps_types : ∀ t ∈ Tryz.f10.params.toList, Tryz.prog.readableRec t = true ∧ t < Tryz.prog.types.size := by
 have hall : ([27, 3, 59].all fun t => Tryz.prog.readableRec t && decide (t < Tryz.prog.types.size)) = true := by kernel_rfl
 rw [Tryz.params10]
 intro t ht
 have hm : t ∈ [27, 3, 59] := by simpa using ht
 simpa using List.all_eq_true.1 hall t hm
set_option maxRecDepth 100000 in
theorem exprSwaps_lifted (os : Os) (started : os.Started) (H : Type) (enc : TypeId × Value → H) :
  ReturnsInHanded {} Tryz.checked os 10 .any (fun w args => (Rows.exprSwapsSpec.pre enc Tryz.prog Tryz.f10 [] false w args ∧ laidMetH Tryz.prog lds w) ∧ sizedMet enc Tryz.prog Tryz.f10 (OpenSpec.ofChange Rows.exprSwapsSpec) false w args)
   (Rows.exprSwapsSpec.post enc Tryz.prog Tryz.f10 false true false false) := by
 refine returns_shaped (C := Tryz.checked) (X := fun w _ => laidMetH Tryz.prog lds w) (fun _ _ _ hh h => h.of_heap hh) Tryz.own started (by kernel_rfl) Tryz.func10
  (ChangeSpec.witness_shaped (enc := enc) (C := Tryz.checked) (os := os) (X := fun w _ => laidMetH Tryz.prog lds w) false (World.laidAll Tryz.prog os lds) #[.slice none 0 0, .int .i64 0, .agg #[.int .i64 0, .int .i64 0, .int .i64 0, .bool false, .string ⟨#[]⟩, .string ⟨#[]⟩]] 8 (World.laidAll_os _ _ _)
    (World.shaped_of_ZipB (by kernel_rfl) (by kernel_rfl)) (by kernel_rfl) (by kernel_rfl) (by kernel_rfl) (world_met os _)) ?_
 intro W base args ds gs before hval0 hW hL hsh
 have hval : ∀ (j : Nat) t v, Tryz.f10.params[j]? = some t → args[j]? = some v → Value.okWide Tryz.prog W .any base t v := hval0
 have hW' : DataW.Whole enc Tryz.prog Tryz.f10.params.toList Rows.exprSwapsSpec.vars false W args.toList ds gs before := hW
 obtain ⟨p, q, hA0, hV, rfl, _, _⟩ := hW
 have hA : DataW.TrodAll enc Tryz.prog W 0 (fun _ => true) true Tryz.f10.params.toList args.toList ds p := hA0
 rw [Tryz.params10] at hA hval
 obtain ⟨v0, v1, v2, d0, d1, d2, p0, p1, p2, rfl, rfl, rfl, h0, h1, h2⟩ := trodAll_three hA
 obtain ⟨rfl, rfl⟩ := trodVars_none hV
 obtain ⟨l, A1, n1, c1, rfl, hE1⟩ := zz_of_trod (hval 0 27 v0 rfl rfl) h0
 obtain ⟨i, rfl, rfl, rfl, wi⟩ := open_int Tryz.underlying3 (hval 1 3 v1 rfl rfl) h1
 obtain ⟨q0, q1, q2, rg, ru, rd, rfl, hq0, hq1, hq2⟩ := swap_of_trod (hval 2 59 v2 rfl rfl) h2
 refine (exprSwaps_core l A1 n1 c1 i q0 q1 q2 rg ru rd W (laidE_of hL hsh) hE1 (i64_in64 wi) hq0 hq1 hq2).mono fun e W' ⟨he, hb⟩ => ?_
 subst he
 exact ⟨_, rfl, post_true (H := H) (enc := enc) (P := Tryz.prog) (f := Tryz.f10) (s := Rows.exprSwapsSpec) (tb := 4) Tryz.laidOut rfl rfl rfl Tryz.underlying4 exprSwaps_types hW' hb⟩
theorem exprSwaps_holds : Rows.ExprSwapsSaid :=
 OpenClaim.holds_of_wide 10 Tryz.f10 rfl rfl rfl rfl rfl rfl rfl ⟨rfl, rfl, rfl, rfl, rfl⟩ rfl rfl rfl rfl rfl (by kernel_rfl) Tryz.func10 (by kernel_rfl)
  (of_decide_eq_true (by kernel_rfl)) (by unfold Func.isWrapper; first | (rw [if_pos (by decide +kernel)]; kernel_rfl) | (rw [if_neg (by decide +kernel)]; exact ⟨rfl, rfl⟩))
  (fun os started H enc _ => exprSwaps_lifted os started H enc)
theorem exprSwaps_card : Rows.ExprSwapsCardSaid :=
 Claim7.holds_tied_plain_at .later [] [.data, .data, .data, .data, .sentinel, .sentinel, .widerDeep, .pinned] true Rows.exprSwapsCard.stood.harness true
  exprSwaps_holds (fun _ h => by cases h) (by kernel_rfl) (fun _ h => by cases h) exprSwaps_row_tie rfl ⟨rfl, rfl⟩ (by kernel_rfl) rfl
  (fun f fn hf hfn => by
    obtain rfl : f = 10 := Option.some.inj ((show Tryz.prog.funcNamed "tithing/tithinglaw07.ExprSwaps" = some 10 by kernel_rfl).symm.trans hf) |>.symm
    obtain rfl : fn = Tryz.f10 := (Option.some.inj (Tryz.func10.symm.trans hfn)).symm
    exact ⟨by kernel_rfl, fun j t ht => by
     rw [Tryz.params10] at ht
     have hm : t ∈ [27, 3, 59] := by simpa using Array.mem_of_getElem? ht
     have hall : ([27, 3, 59].all fun u => !Tryz.prog.wantsStandIn u) = true := by kernel_rfl
     exact (show Tryz.prog.wantsStandIn t = false by simpa using List.all_eq_true.1 hall t hm)⟩)
  (by kernel_rfl)
#print axioms exprSwaps_card
end Go.Proofs.YtbicehdehiakgaaGreatDoor
