/- The proof of the statement, a part of it: R8. -/
import Derived.Test.YtbicehdehiakgaaGreatDoorC11
set_option linter.unusedVariables false
set_option linter.unusedSimpArgs false
namespace Go.Proofs.YtbicehdehiakgaaGreatDoor
open Go.RowKit
set_option maxRecDepth 100000 in
set_option maxHeartbeats 1600000 in
theorem rdigit_any (A A' : Option Addr) (len cap len' cap' n m : Nat) (w : World) (h1 : LimI w A len cap n) (h2 : LimI w A' len' cap' m) (hl : len' ≤ 715827884) (h0 : n < m * 16777216) :
    Calls Tryz.prog 137 #[.slice A len cap, .slice A' len' cap'] w fun e w' => e = .returned (.int .i64 ((n / m : Nat) : Int)) ∧ n / m < 16777216 ∧ Below w.heap.size w w' := by
  have H1 := Lib.hid h1; have H2 := Lib.hid h2
  clear h1 h2
  have hdm : n / m < 16777216 := Nat.div_lt_of_lt_mul h0
  go_enter Tryz.func137, Tryz.ntmps137
  go_wp2_with fail
  go_loopw [5, 6] (fun lv hv wr => ∃ lo hi : Nat, lo ≤ hi ∧ hi ≤ 16777215 ∧ lv = .int .i64 lo ∧ hv = .int .i64 hi ∧ Hid (m * lo ≤ n ∧ n < m * (hi + 1)) ∧ Below w.heap.size w wr) (fun lv hv _ => (intOf hv).toNat - (intOf lv).toNat)
  case atStart => exact ⟨0, 16777215, by omega, by omega, rfl, rfl, ⟨by omega, h0⟩, Below.refl _ _⟩
  case round =>
    obtain ⟨lo, hi, hlh, hhi, rfl, rfl, hb, hbw⟩ := hrel
    by_cases hlt : lo < hi
    · go_wp2_with fail
      refine (rtimes_any A' len' cap' m ((lo + hi + 1) / 2) _ wr (by omega) (H2.out.below hbw) hl (by omega)).mono ?_
      rintro e w1 ⟨A1, l1, c1, rfl, g1, hb1⟩
      have G1 := Lib.hid g1
      clear g1
      go_wp2_with fail
      refine (rcmp_any _ _ _ _ _ _ _ _ _ G1.out ((H1.out.below hbw).below hb1)).mono ?_
      rintro e w2 ⟨z, rfl, z1, z2, hb2⟩
      have hb12 := bstep hb1 hb2
      have hb3 : Below w.heap.size w w2 := hbw.trans (hb12.mono hbw.size)
      obtain ⟨mid, hmid⟩ : ∃ q, (lo + hi + 1) / 2 = q := ⟨_, rfl⟩
      have hmi : ((lo : Int) + hi + 1) / 2 = mid := by omega
      have hm1 : lo < mid := by omega
      have hm2 : mid ≤ hi := by omega
      rw [hmid] at z1 z2
      have Z1 := Lib.hid z1; have Z2 := Lib.hid z2
      clear z1 z2
      by_cases hz : z ≤ 0
      · go_wp2
        go_roundw
        case rel =>
          refine ⟨mid, hi, hm2, hhi, by first | rfl | (congr 1 <;> omega), rfl, ⟨?_, hb.out.2⟩, hb3⟩
          rcases Int.lt_or_eq_of_le hz with h | h
          · exact Nat.le_of_lt (Z1.out.1 h)
          · exact Nat.le_of_eq (Z2.out.1 h)
        case measure => simp [intOf] <;> omega
      · go_wp2
        go_roundw
        case rel =>
          refine ⟨lo, mid - 1, by omega, by omega, rfl, by first | rfl | (congr 1 <;> omega), ⟨hb.out.1, ?_⟩, hb3⟩
          rw [show mid - 1 + 1 = mid from by omega]
          rcases Nat.lt_trichotomy (m * mid) n with h | h | h
          · have := Z1.out.2 h; omega
          · have := Z2.out.2 h; omega
          · exact h
        case measure => simp [intOf] <;> omega
    · obtain rfl : lo = hi := by omega
      go_wp2
      go_ret
      have hq : n / m = lo := by
        rcases Nat.eq_zero_or_pos m with h | h
        · subst h; omega
        · exact Nat.div_eq_of_lt_le (by rw [Nat.mul_comm]; exact hb.out.1) (by rw [Nat.mul_comm]; exact hb.out.2)
      rw [hq]
      exact ⟨rfl, by omega, hbw⟩
theorem I_set (xs : List Nat) (k y : Nat) : (I xs).set k (.int .i64 (y : Int)) = I (xs.set k y) := by simp [I, List.map_set]
set_option maxRecDepth 100000 in
set_option maxHeartbeats 3200000 in
theorem rMul_any (a b : ByteArray) (w : World) (ha : a.size ≤ 1073741824) (hb : b.size ≤ 1073741824) :
    Calls Tryz.prog 66 #[.string a, .string b] w fun e w' => e = .returned (.string (nbs (vbs a * vbs b))) ∧ Below w.heap.size w w' := by
  have HSA := Lib.hid (rsmall_any a 3 w (by omega) (by omega) 3 rfl)
  have HSB := Lib.hid (rsmall_any b 4 w (by omega) (by omega) 4 rfl)
  by_cases hsm : vbs a < 256 ^ 3 ∧ vbs b < 256 ^ 4
  · obtain ⟨h1, h2⟩ := hsm
    have d1 : decide (vbs a < 256 ^ 3) = true := by simpa using h1
    have d2 : decide (vbs b < 256 ^ 4) = true := by simpa using h2
    rw [d1] at HSA
    rw [d2] at HSB
    have h1' : vbs a < 16777216 := h1
    have h2' : vbs b < 4294967296 := h2
    clear d1 d2 h1 h2
    generalize vbs a = n at *
    generalize vbs b = m at *
    have M := Nat.mul_le_mul (show n ≤ 16777215 by omega) (show m ≤ 4294967295 by omega)
    have M1 : (0 : Int) ≤ (n : Int) * m := by rw [← Int.natCast_mul]; omega
    have M2 : (n : Int) * m ≤ 72057589726183425 := by rw [← Int.natCast_mul]; omega
    go_enter Tryz.func66, Tryz.ntmps66
    go_wp2_with fail
    refine HSA.out.mono ?_
    rintro e w' ⟨rfl, rfl⟩
    go_wp2_with fail
    refine HSB.out.mono ?_
    rintro e w' ⟨rfl, rfl⟩
    go_wp2_with fail
    refine (rOf_any _ _ (by omega) (by omega)).mono ?_
    rintro e w1 ⟨rfl, hb1⟩
    go_wp2
    go_ret
    refine ⟨?_, hb1⟩
    rw [show ((n : Int) * m).toNat = n * m from by rw [← Int.natCast_mul]; rfl]; rfl
  · obtain ⟨B, hB⟩ : ∃ B, B = w.heap.size := ⟨_, rfl⟩
    have HB := Lib.hid hB
    have hBw : B ≤ w.heap.size := by omega
    have hnot : ¬ (decide (vbs a < 256 ^ 3) = true ∧ decide (vbs b < 256 ^ 4) = true) := by simpa using hsm
    obtain ⟨da, hda⟩ : ∃ d, decide (vbs a < 256 ^ 3) = d := ⟨_, rfl⟩
    obtain ⟨db, hdb⟩ : ∃ d, decide (vbs b < 256 ^ 4) = d := ⟨_, rfl⟩
    rw [hda] at HSA hnot
    rw [hdb] at HSB hnot
    have hcase : (da = false ∧ db = false) ∨ (da = false ∧ db = true) ∨ (da = true ∧ db = false) := by cases da <;> cases db <;> simp_all
    clear hB hsm hda hdb hnot
    rcases hcase with ⟨rfl, rfl⟩ | ⟨rfl, rfl⟩ | ⟨rfl, rfl⟩
    all_goals
      go_enter Tryz.func66, Tryz.ntmps66
      go_wp2_with fail
      refine HSA.out.mono ?_
      rintro e w' ⟨rfl, rfl⟩
      go_wp2_with fail
      refine HSB.out.mono ?_
      rintro e w' ⟨rfl, rfl⟩
      go_wp2_with fail
      refine (rof_any a _ ha).mono ?_
      rintro e w1 ⟨A, len, c1, rfl, h1, hb1⟩
      have hl1 := h1.len_le (vbs_lt a)
      have H1 := Lib.hid h1
      clear h1
      go_wp2_with fail
      refine (rof_any b _ hb).mono ?_
      rintro e w2 ⟨A', len', c2, rfl, h2, hb2⟩
      have hl2 := h2.len_le (vbs_lt b)
      obtain ⟨_, _, xs, e1, r1, k1, v1⟩ := H1.out.below hb2
      obtain ⟨_, _, ys, e2, r2, k2, v2⟩ := h2
      have hb12 := bstep hb1 hb2
      rw [← HB.out] at hb12
      have hB2 : B ≤ w2.heap.size := Nat.le_trans hBw hb12.size
      have E1 := Lib.hid e1; have E2 := Lib.hid e2; have V1 := Lib.hid v1; have V2 := Lib.hid v2; have C1 := Lib.hid k1; have C2 := Lib.hid k2; have R1 := Lib.hid r1; have R2 := Lib.hid r2
      clear e1 e2 v1 v2 k1 k2 r1 r2 hb1 hb2
      go_wp2_with (at_make; refine wpList_make_blk _ rfl _ _ 27 rfl 3 (.int .i64 0) 8 Tryz.underlying27 info_int rfl _ _ _ _ (len + len') rfl rfl ?_ ?_ (by omega) (by omega) ?_)
      · omega
      · omega
      intro w3 hblk hb3
      obtain ⟨G, HG⟩ : ∃ G, Hid (G = w2.heap.size) := ⟨_, rfl⟩
      rw [← HG.out] at hblk hb3 ⊢
      have HK := Lib.hid hblk
      clear hblk
      go_wp2_with fail
      go_loopw [12] (fun iv wr => ∃ (i : Nat) (out : List Nat), i ≤ len ∧ iv = .int .i64 i ∧ Hid (out.length = len + len') ∧ Blk wr G 3 (I out) ∧ Hid (∀ x ∈ out, x < 2 ^ 24) ∧ Hid (∀ p, i + len' ≤ p → out.getD p 0 = 0) ∧
          Hid (val (2 ^ 24) out = val (2 ^ 24) (xs.take i) * val (2 ^ 24) ys) ∧ Below G w2 wr) (fun i _ => len - (intOf i).toNat)
      case atStart =>
        refine ⟨0, List.replicate (len + len') 0, by omega, rfl, List.length_replicate .., by have := HK.out; simpa [I] using this, ?_, ?_, ?_, hb3⟩
        · show ∀ x ∈ _, _; intro x hx; rw [(List.mem_replicate.1 hx).2]; omega
        · show ∀ p, _ → _; intro p _; simp [List.getD_eq_getElem?_getD, List.getElem?_replicate]; split <;> rfl
        · show _ = _; simp [val, val_replicate_zero]
      case round =>
        obtain ⟨i, out, hi, rfl, ho, hbk, hod, hoz, hv, hbw⟩ := hrel
        by_cases hlt : i < len
        · have hr1 : Rd wr A (I xs) := R1.out.below (by rw [← HG.out]; exact hbw)
          obtain ⟨b, off, rfl, hbb, hcell⟩ := hr1.i (k := i) (by rw [E1.out]; omega)
          have x0 : xs.getD i 0 < 16777216 := getD_lt_of (by omega) C1.out.lt i
          obtain ⟨x, HX⟩ : ∃ x, Hid (xs.getD i 0 = x) := ⟨_, rfl⟩
          clear hcell
          rw [HX.out] at x0
          obtain ⟨wo, rfl⟩ : ∃ wo : World, wo = wr := ⟨_, rfl⟩
          have HO := Lib.hid (And.intro hbk hbw)
          have hoz := hoz
          clear hbk hr1
          go_wp2_with fail
          go_loopw [14, 13] (fun jv cv wr => ∃ (j c : Nat) (out : List Nat), j ≤ len' ∧ jv = .int .i64 j ∧ cv = .int .i64 c ∧ c < 16777216 ∧ Hid (out.length = len + len') ∧ Blk wr G 3 (I out) ∧ Hid (∀ x ∈ out, x < 2 ^ 24) ∧ Hid (∀ p, i + len' ≤ p → out.getD p 0 = 0) ∧
            Hid (val (2 ^ 24) out + c * (2 ^ 24) ^ (i + j) = val (2 ^ 24) (xs.take i) * val (2 ^ 24) ys + xs.getD i 0 * val (2 ^ 24) (ys.take j) * (2 ^ 24) ^ i) ∧ Below G w2 wr) (fun j _ _ => len' - (intOf j).toNat)
          case atStart => exact ⟨0, 0, out, by omega, rfl, rfl, by omega, ho, HO.out.1, hod, hoz, by show _ = _; rw [hv.out]; simp [val], HO.out.2⟩
          case round =>
            obtain ⟨j, c, out, hj, rfl, rfl, hc, ho, hbk, hod, hoz, hv, hbw⟩ := hrel
            by_cases hlt2 : j < len'
            · have hr1 := R1.out.below (w' := wr) (by rw [← HG.out]; exact hbw)
              have hcell : wr.cell? ⟨b, off + i, none⟩ = some (.int .i64 (x : Int)) := by
                obtain ⟨b3, o3, h3, _, hc3⟩ := hr1.i (k := i) (by rw [E1.out]; omega)
                injection h3 with h3; injection h3 with h3 h4; subst h3 h4
                rw [HX.out] at hc3; exact hc3
              have hr2 : Rd wr A' (I ys) := R2.out.below (by rw [← HG.out]; exact hbw)
              obtain ⟨b', off', rfl, hbb', hcell'⟩ := hr2.i (k := j) (by rw [E2.out]; omega)
              clear hr1 hr2
              have y0 : ys.getD j 0 < 16777216 := getD_lt_of (by omega) C2.out.lt j
              have o0 : out.getD (i + j) 0 < 16777216 := getD_lt_of (by omega) hod.out (i + j)
              have hcellO := hbk.cell (i := i + j) (by rw [I_length, ho.out]; omega)
              rw [I_get] at hcellO
              have HS := Lib.hid (prod_inner (2 ^ 24) i j xs ys out c (by omega) (by rw [ho.out]; omega) hv.out)
              rw [HX.out] at HS
              generalize ys.getD j 0 = y at *
              generalize out.getD (i + j) 0 = o at *
              have M := Nat.mul_le_mul (show x ≤ 16777215 by omega) (show y ≤ 16777215 by omega)
              have M1 : (0 : Int) ≤ (x : Int) * y := by rw [← Int.natCast_mul]; omega
              have M2 : (x : Int) * y ≤ 281474943156225 := by rw [← Int.natCast_mul]; omega
              have hfz := hbk.frozen (i + j)
              have hq : (x * y + o + c) / 2 ^ 24 < 16777216 := by rw [Nat.div_lt_iff_lt_mul (by omega)]; omega
              have hbk' := hbk.drewN 1
              go_wp2_with fail
              go_quiet (fail)
              go_wp2
              go_roundw
              case rel =>
                refine ⟨j + 1, (x * y + o + c) / 2 ^ 24, out.set (i + j) ((x * y + o + c) % 2 ^ 24), by omega, by go_num, ?_, hq, by show _ = _; rw [List.length_set, ho.out], ?_, set_lt hod.out (Nat.mod_lt _ (by omega)) _, ?_, by show _ = _; rw [HX.out]; exact HS.out, ?_⟩
                · simp [Int.add_comm] <;> omega
                · rw [← I_set]
                  have e : Value.int .i64 (((x * y + o + c) % 2 ^ 24 : Nat) : Int) = .int .i64 (((o : Int) + x * y + c) % 16777216) := by simp [Int.add_comm]
                  rw [e]
                  exact (hbk.drewN _).set _ _
                · show ∀ p, _ → _
                  intro p hp
                  rw [getD_set_ne _ _ _ _ (by omega)]
                  exact hoz.out p hp
                · exact (below_drewN hbw _).setCell (Nat.le_refl _) _
              case measure => simp [intOf] <;> omega
            · obtain rfl : j = len' := by omega
              have hcellO := hbk.cell (i := i + j) (by rw [I_length, ho.out]; omega)
              have hfz := hbk.frozen (i + j)
              have HS := Lib.hid (prod_outer (2 ^ 24) i xs ys out c (by rw [ho.out, E2.out]; omega) (hoz.out _ (by rw [E2.out]; omega)) (by rw [E2.out]; exact hv.out))
              rw [E2.out] at HS
              go_wp2
              go_roundw
              case rel =>
                refine ⟨i + 1, out.set (i + j) c, by omega, by go_num, by show _ = _; rw [List.length_set, ho.out], ?_, set_lt hod.out (by omega) _, ?_, HS.out, hbw.setCell (Nat.le_refl _) _⟩
                · rw [← I_set]
                  exact hbk.set _ _
                · show ∀ p, _ → _
                  intro p hp
                  rw [getD_set_ne _ _ _ _ (by omega)]
                  exact hoz.out p (by omega)
              case measure => simp [intOf] <;> omega
        · obtain rfl : i = len := by omega
          have HK := Lib.hid hbk
          clear hbk
          go_wp2_with fail
          refine (rnumber_any _ _ _ _ _ ho.out (Nat.le_refl _) (by omega) HK.out.rd hod.out).mono ?_
          rintro e w4 ⟨rfl, hb4⟩
          go_wp2
          go_ret
          refine ⟨?_, ?_⟩
          · rw [hv.out, List.take_of_length_le (by rw [E1.out]; omega), V1.out, V2.out]; rfl
          · have h5 : Below B w wr := hb12.trans (hbw.mono (by rw [HG.out]; exact hB2))
            have h6 := h5.trans (hb4.mono (Nat.le_trans hBw h5.size))
            rw [← HB.out]; exact h6
end Go.Proofs.YtbicehdehiakgaaGreatDoor
