/- A part of the proof: Short Shift Down Est Take Divide. -/
import Derived.BigRegion
import Derived.RegionTactic
import Derived.Test.YtbicehdehiakgaaGreatDoorE00
import Derived.Test.YtbicehdehiakgaaGreatDoorE01
import Derived.Test.YtbicehdehiakgaaGreatDoorE03
set_option linter.unusedVariables false
set_option linter.unusedSimpArgs false
namespace Go.Proofs.YtbicehdehiakgaaGreatDoor
open Go.RowKit
def RetShort (w : World) (n b : Nat) (e : Ending) (w' : World) : Prop :=
 ∃ A len cap, e = .returned (.tuple #[.slice A len cap, .int .u32 ((n % b : Nat) : Int)]) ∧ Lim w' A len cap (n / b) ∧ Below w.heap.size w w'
set_option maxRecDepth 100000 in
set_option maxHeartbeats 800000 in
theorem short_any (A : Option Addr) (len cap n : Nat) (bi : Int) (b : Nat) (w : World) (hbi : bi = b) (h1 : Lim w A len cap n) (hb : len ≤ 1073741824) (hb0 : 0 < b) (hb1 : b < 4294967296) :
  Calls Tryz.prog 161 #[.slice A len cap, .int .u32 bi] w (RetShort w n b) := by
 subst hbi
 obtain ⟨l1, m1, xs, e1, r1, c1, v1⟩ := h1
 unfold maxLen at m1
 have E1 := Lib.hid e1; have V1 := Lib.hid v1; have C1 := Lib.hid c1; have R1 := Lib.hid r1
 clear e1 v1 c1 r1
 go_enter Tryz.func161, Tryz.ntmps161
 go_wp2_with (at_make; refine wpList_make_blk _ rfl _ _ 165 rfl 156 (.int .u32 0) 4 Tryz.underlying165 info_u32 rfl _ _ _ _ len rfl rfl ?_ ?_ (by omega) (by omega) ?_)
 ·omega
 ·omega
 intro w1 hblk hb1
 obtain ⟨G, HG⟩ : ∃ G, Hid (G = w.heap.size) := ⟨_, rfl⟩
 rw [← HG.out] at hblk hb1 ⊢
 have HB := Lib.hid hblk
 clear hblk
 go_wp2
 go_loopw [8, 7] (fun iv rv wr => ∃ (k r : Nat) (qs : List Nat), k ≤ len ∧ r < b ∧ iv = .int .i64 ((k : Int) - 1) ∧ rv = .int .u64 r ∧ Hid (qs.length = len - k) ∧ Blk wr G 156 (U (List.replicate k 0 ++ qs)) ∧ Hid (∀ x ∈ qs, x < 2 ^ 32) ∧
   Hid (val (2 ^ 32) (xs.drop k) = val (2 ^ 32) qs * b + r) ∧ Below G w wr) (fun i _ _ => (intOf i + 1).toNat)
 case atStart =>
  refine ⟨len, 0, [], by omega, hb0, by go_num, rfl, by show _ = _; simp, by have := HB.out; simpa [U] using this, by show ∀ x ∈ _, _; simp, ?_, hb1⟩
  show _ = _
  rw [List.drop_eq_nil_of_le (by rw [E1.out]; omega)]; simp [val]
 case round =>
  obtain ⟨k, r, qs, hk, hr, rfl, rfl, hq, hbk, hqd, hv, hbw⟩ := hrel
  by_cases hk0 : 0 < k
  ·obtain ⟨k, rfl⟩ : ∃ j, k = j + 1 := ⟨k - 1, by omega⟩
   have hr1 : Rd wr A (U xs) := R1.out.below (by rw [← HG.out]; exact hbw)
   obtain ⟨b', off, rfl, hbb, hcell⟩ := hr1.u (k := k) (by rw [E1.out]; omega)
   have x0 : xs.getD k 0 < 4294967296 := getD_lt_of (by omega) C1.out.lt k
   have HS := Lib.hid (short_step (2 ^ 32) b k xs qs r (by rw [E1.out]; omega) hv.out)
   have hfz := hbk.frozen k
   obtain ⟨u, hu⟩ : ∃ u, wr.cell? ⟨G, k, none⟩ = some u := ⟨_, hbk.cell (by simp [U_length, hq.out]; omega)⟩
   generalize xs.getD k 0 = x at *
   obtain ⟨X, HX⟩ : ∃ X, Hid (r * 2 ^ 32 + x = X) := ⟨r * 2 ^ 32 + x, by show _ = _; rfl⟩
   have X1 : X < b * 4294967296 := by have h : r + 1 ≤ b := hr; have := Nat.mul_le_mul_right 4294967296 h; have := HX.out; omega
   have X2 : X / b < 4294967296 := by rw [Nat.div_lt_iff_lt_mul hb0, Nat.mul_comm]; exact X1
   have X3 : X % b < b := Nat.mod_lt _ hb0
   have hor : bits BinOp.or .u64 ((r : Int) * 4294967296) (x : Int) = (X : Int) := by
    rw [show (r : Int) * 4294967296 = ((r * 2 ^ 32 : Nat) : Int) from by simp, u64_or_nat _ _ (by omega) (by omega), Nat.or_comm, add_is_or _ _ _ x0, Nat.add_comm, HX.out]
   rw [HX.out] at HS
   have d0 : ((X / b : Nat) : Int) = (X : Int) / b := by simp
   have d1 : ((X % b : Nat) : Int) = (X : Int) % b := by simp
   have q0 : (0 : Int) ≤ (X : Int) / b := by rw [← d0]; exact Int.natCast_nonneg _
   have q1 : (X : Int) / b < 4294967296 := by rw [← d0]; omega
   have q2 : (0 : Int) ≤ (X : Int) % b := by rw [← d1]; exact Int.natCast_nonneg _
   have k1 : k < len := by omega
   have q3 : (X : Int) % b < b := by rw [← d1]; omega
   have p0 : ¬ (b = 0) := by omega
   have w1 : IntKind.u64.wrap (b : Int) = b := IntWalk.u64_in _ (by omega)
   have w2 : IntKind.u64.wrap ((X : Int) / b) = (X : Int) / b := IntWalk.u64_in _ (by omega)
   have w3 : IntKind.u64.wrap ((X : Int) % b) = (X : Int) % b := IntWalk.u64_in _ (by omega)
   have w4 : IntKind.u32.wrap ((X : Int) / b) = (X : Int) / b := IntWalk.u32_in _ (by omega)
   have t1 : (X : Int).tdiv b = (X : Int) / b := Int.tdiv_eq_ediv_of_nonneg (by omega)
   have t2 : (X : Int).tmod b = (X : Int) % b := Int.tmod_eq_emod_of_nonneg (by omega)
   clear d0 d1
   go_wp2_with fail
   go_region
   go_wp2
   go_roundw
   case rel =>
    refine ⟨k, X % b, (X / b) :: qs, by omega, X3, by first | rfl | go_num, by first | rfl | simp, by show _ = _; simp [hq.out]; omega, ?_, ?_, HS.out, (below_drewN hbw 1).setCell (Nat.le_refl _) _⟩
    ·rw [← fill_down k 0 qs 0 (X / b), ← U_set]
     have e : Value.int .u32 ((X / b : Nat) : Int) = .int .u32 ((X : Int) / b) := by simp
     rw [e]
     exact (hbk.drewN 1).set _ _
    ·show ∀ y ∈ _, _
     intro y hy
     rcases List.mem_cons.1 hy with rfl | hy
     ·exact X2
     ·exact hqd.out y hy
   case measure => simp [intOf] <;> omega
  ·obtain rfl : k = 0 := by omega
   have HK := Lib.hid hbk
   clear hbk
   go_wp2_with fail
   have hl : (List.replicate 0 0 ++ qs).length = len := by simp [hq.out]
   refine (trim_any _ _ _ _ _ hl (Nat.le_refl _) (by unfold maxLen; omega) HK.out.rd).mono ?_
   rintro e w2 ⟨rfl, rfl⟩
   go_wp2
   go_ret2
   have hv2 := hv.out
   rw [List.drop_zero, V1.out] at hv2
   have := Lim.of_trim hl (Nat.le_refl _) (by unfold maxLen; omega) HK.out.rd (by simpa using hqd.out)
   rw [List.replicate_zero, List.nil_append] at this
   have e1 : n / b = val (2 ^ 32) qs := by
    rw [hv2, Nat.add_comm, Nat.add_mul_div_right _ _ hb0, Nat.div_eq_of_lt hr, Nat.zero_add]
   have e2 : n % b = r := by
    rw [hv2, Nat.add_comm, Nat.add_mul_mod_self_right, Nat.mod_eq_of_lt hr]
   refine ⟨_, _, _, ?_, by rw [e1]; exact this, by rw [← HG.out]; exact hbw⟩
   rw [e2]; rfl
end Go.Proofs.YtbicehdehiakgaaGreatDoor
namespace Go.Proofs.YtbicehdehiakgaaGreatDoor
open Go.RowKit
def RetRow (w : World) (len : Nat) (V : Nat) (e : Ending) (w' : World) : Prop :=
 ∃ G zs, e = .returned (.slice (some ⟨G, 0, none⟩) len len) ∧ w.heap.size ≤ G ∧ Blk w' G 156 (U zs) ∧ zs.length = len ∧ (∀ x ∈ zs, x < 2 ^ 32) ∧ val (2 ^ 32) zs = V ∧ Below w.heap.size w w'
set_option maxRecDepth 100000 in
set_option maxHeartbeats 800000 in
theorem up_any (A : Option Addr) (len cap n : Nat) (si : Int) (s : Nat) (w : World) (hsi : si = s) (h1 : Lim w A len cap n) (hb : len ≤ 1073741824) (hs : s < 32) :
  Calls Tryz.prog 201 #[.slice A len cap, .int .i64 si] w (RetRow w (len + 1) (n * 2 ^ s)) := by
 subst hsi
 obtain ⟨l1, m1, xs, e1, r1, c1, v1⟩ := h1
 unfold maxLen at m1
 have E1 := Lib.hid e1; have V1 := Lib.hid v1; have C1 := Lib.hid c1; have R1 := Lib.hid r1
 clear e1 v1 c1 r1
 go_enter Tryz.func201, Tryz.ntmps201
 go_wp2_with (at_make; refine wpList_make_blk _ rfl _ _ 165 rfl 156 (.int .u32 0) 4 Tryz.underlying165 info_u32 rfl _ _ _ _ (len + 1) rfl rfl ?_ ?_ (by omega) (by omega) ?_)
 ·omega
 ·omega
 intro w1 hblk hb1
 obtain ⟨G, HG⟩ : ∃ G, Hid (G = w.heap.size) := ⟨_, rfl⟩
 rw [← HG.out] at hblk hb1 ⊢
 have HB := Lib.hid hblk
 clear hblk
 go_wp2
 go_loopw [15] (fun iv wr => ∃ (k t : Nat) (os : List Nat), k ≤ len ∧ t < 2 ^ s ∧ iv = .int .i64 k ∧ Hid (os.length = k) ∧ Blk wr G 156 (U ((os ++ [t]) ++ List.replicate (len - k) 0)) ∧ Hid (∀ x ∈ os, x < 2 ^ 32) ∧
   Hid (val (2 ^ 32) os + t * (2 ^ 32) ^ k = val (2 ^ 32) (xs.take k) * 2 ^ s) ∧ Below G w wr) (fun i _ => len - (intOf i).toNat)
 case atStart =>
  refine ⟨0, 0, [], by omega, Nat.pow_pos (by omega), rfl, rfl, ?_, by show ∀ x ∈ _, _; simp, by show _ = _; simp [val], hb1⟩
  have := HB.out
  simpa [U, List.replicate_succ] using this
 case round =>
  obtain ⟨k, t, os, hk, ht, rfl, ho, hbk, hod, hv, hbw⟩ := hrel
  by_cases hlt : k < len
  ·have hr1 : Rd wr A (U xs) := R1.out.below (by rw [← HG.out]; exact hbw)
   obtain ⟨b', off, rfl, hbb, hcell⟩ := hr1.u (k := k) (by rw [E1.out]; omega)
   have x0 : xs.getD k 0 < 4294967296 := getD_lt_of (by omega) C1.out.lt k
   have HS := Lib.hid (up_step k s xs os t ho.out hv.out)
   have hL : (U ((os ++ [t]) ++ List.replicate (len - k) 0)).length = len + 1 := by simp [U_length, ho.out]; omega
   have hf1 := hbk.frozen k
   have hf2 := hbk.frozen (k + 1)
   have hc1 : wr.cell? ⟨G, k, none⟩ = some (.int .u32 (t : Int)) := by
    rw [hbk.cell (by omega), U_get]; simp [List.getD_eq_getElem?_getD, ← ho.out]
   obtain ⟨u2, hc2⟩ : ∃ u, wr.cell? ⟨G, k + 1, none⟩ = some u := ⟨_, hbk.cell (by omega)⟩
   generalize xs.getD k 0 = x at *
   go_wp2
   go_roundw
   case rel =>
    have c2 := up_carry x s hs x0
    have hp : (2 : Nat) ^ s < 4294967296 := Nat.pow_lt_pow_right (a := 2) (m := s) (n := 32) (by omega) hs
    have d1 := up_digit_lt x s t hs ht
    have hmul : x * 2 ^ s < 18446744073709551616 := by
     have := Nat.mul_lt_mul_of_lt_of_le x0 (Nat.le_of_lt hp) (by omega); omega
    have ew : IntKind.u64.wrap ((x : Int) * 2 ^ s) = ((x * 2 ^ s : Nat) : Int) := by
     rw [show (x : Int) * 2 ^ s = ((x * 2 ^ s : Nat) : Int) from by simp]
     exact IntWalk.u64_in _ (by omega)
    have f1 : Value.int .u32 (bits BinOp.or .u32 (t : Int) (IntKind.u64.wrap ((x : Int) * 2 ^ s) % 4294967296)) = .int .u32 ((t + x * 2 ^ s % 4294967296 : Nat) : Int) := by
     rw [ew, show ((x * 2 ^ s : Nat) : Int) % 4294967296 = ((x * 2 ^ s % 4294967296 : Nat) : Int) from by omega, u32_or_nat _ _ (by omega) (by omega), up_digit x s t hs ht]
    have f2 : Value.int .u32 (IntKind.u64.wrap ((x : Int) * 2 ^ s) / 4294967296 % 4294967296) = .int .u32 ((x * 2 ^ s / 4294967296 : Nat) : Int) := by
     rw [ew]; congr 1; omega
    rw [f1, f2]
    refine ⟨k + 1, x * 2 ^ s / 4294967296, os ++ [t + x * 2 ^ s % 4294967296], by omega, c2, by go_num, by show _ = _; simp [ho.out], ?_, snoc_lt hod.out d1, HS.out, (hbw.setCell (Nat.le_refl _) _).setCell (Nat.le_refl _) _⟩
    have h1 := (hbk.set k (.int .u32 ((t + x * 2 ^ s % 4294967296 : Nat) : Int))).set (k + 1) (.int .u32 ((x * 2 ^ s / 4294967296 : Nat) : Int))
    have e1 : ((U ((os ++ [t]) ++ List.replicate (len - k) 0)).set k (.int .u32 ((t + x * 2 ^ s % 4294967296 : Nat) : Int))).set (k + 1) (.int .u32 ((x * 2 ^ s / 4294967296 : Nat) : Int)) =
      U ((os ++ [t + x * 2 ^ s % 4294967296] ++ [x * 2 ^ s / 4294967296]) ++ List.replicate (len - (k + 1)) 0) := by
     rw [U_set, U_set]
     congr 1
     rw [List.append_assoc, List.set_append_right _ _ (by rw [ho.out]; omega), ho.out, Nat.sub_self, List.singleton_append, List.set_cons_zero, ← List.singleton_append, ← List.append_assoc]
     exact fill_set (os ++ [t + x * 2 ^ s % 4294967296]) (len + 1) (k + 1) 0 (x * 2 ^ s / 4294967296) (by simp [ho.out]) (by omega) |>.trans (by simp) |> (by simpa using ·)
    rw [e1] at h1
    exact h1
   case measure => simp [intOf] <;> omega
  ·obtain rfl : k = len := by omega
   have HK := Lib.hid hbk
   clear hbk
   go_wp2
   go_ret
   refine ⟨G, os ++ [t], rfl, by rw [HG.out]; exact Nat.le_refl _, by have := HK.out; simpa using this, by simp [ho.out], snoc_lt hod.out ?_, ?_, by rw [← HG.out]; exact hbw⟩
   ·exact Nat.lt_trans ht (Nat.pow_lt_pow_right (by omega) hs)
   ·have := hv.out
    rw [← E1.out, List.take_length, V1.out, E1.out] at this
    rw [val_snoc, ho.out, Nat.mul_comm _ t, this]
end Go.Proofs.YtbicehdehiakgaaGreatDoor
namespace Go.Proofs.YtbicehdehiakgaaGreatDoor
open Go.RowKit
theorem down_val (xs : List Nat) (h : ∀ x ∈ xs, x < 2 ^ 32) (s : Nat) : val (2 ^ 32) (digs xs.length (val (2 ^ 32) xs / 2 ^ s)) = val (2 ^ 32) xs / 2 ^ s := by
 rw [val_digs]
 exact Nat.mod_eq_of_lt (Nat.lt_of_le_of_lt (Nat.div_le_self _ _) (val_lt _ _ h))
set_option maxRecDepth 100000 in
set_option maxHeartbeats 1600000 in
theorem down_any (A : Option Addr) (len cap : Nat) (xs : List Nat) (si : Int) (s : Nat) (w : World) (hsi : si = s) (e1 : xs.length = len) (r1 : Rd w A (U xs)) (d1 : ∀ x ∈ xs, x < 2 ^ 32) (hb : len ≤ 1073741824) (hs : s < 32) :
  Calls Tryz.prog 205 #[.slice A len cap, .int .i64 si] w (RetLim w (val (2 ^ 32) xs / 2 ^ s)) := by
 subst hsi
 have E1 := Lib.hid e1; have D1 := Lib.hid d1; have R1 := Lib.hid r1
 clear e1 d1 r1
 obtain ⟨N, hN⟩ : ∃ N, val (2 ^ 32) xs / 2 ^ s = N := ⟨_, rfl⟩
 have HN := Lib.hid hN
 rw [hN]
 clear hN
 go_enter Tryz.func205, Tryz.ntmps205
 go_wp2_with (at_make; refine wpList_make_blk _ rfl _ _ 165 rfl 156 (.int .u32 0) 4 Tryz.underlying165 info_u32 rfl _ _ _ _ len rfl rfl ?_ ?_ (by omega) (by omega) ?_)
 ·omega
 ·omega
 intro w1 hblk hb1
 obtain ⟨G, HG⟩ : ∃ G, Hid (G = w.heap.size) := ⟨_, rfl⟩
 rw [← HG.out] at hblk hb1 ⊢
 have HB := Lib.hid hblk
 clear hblk
 go_wp2
 go_loopw [13] (fun iv wr => ∃ (k : Nat), k ≤ len ∧ iv = .int .i64 k ∧ Blk wr G 156 (U (digs k N ++ List.replicate (len - k) 0)) ∧ Below G w wr) (fun i _ => len - (intOf i).toNat)
 case atStart => exact ⟨0, by omega, rfl, by have := HB.out; simpa [U, digs] using this, hb1⟩
 case round =>
  obtain ⟨k, hk, rfl, hbk, hbw⟩ := hrel
  by_cases hlt : k < len
  ·have hr1 : Rd wr A (U xs) := R1.out.below (by rw [← HG.out]; exact hbw)
   obtain ⟨b', off, rfl, hbb, hcell⟩ := hr1.u (k := k) (by rw [E1.out]; omega)
   have x0 : xs.getD k 0 < 4294967296 := getD_lt_of (by omega) D1.out k
   have y0 : xs.getD (k + 1) 0 < 4294967296 := getD_lt_of (by omega) D1.out (k + 1)
   have HD := Lib.hid (down_digit xs D1.out k s hs (by rw [E1.out]; omega))
   rw [HN.out] at HD
   have HO := Lib.hid (down_or (xs.getD k 0) (xs.getD (k + 1) 0) s hs x0)
   have hL : (U (digs k N ++ List.replicate (len - k) 0)).length = len := by simp [U_length, digs_length]; omega
   have hf1 := hbk.frozen k
   obtain ⟨u2, hc2⟩ : ∃ u, wr.cell? ⟨G, k, none⟩ = some u := ⟨_, hbk.cell (by omega)⟩
   have hset : ∀ y : Nat, (U (digs k N ++ List.replicate (len - k) 0)).set k (.int .u32 (y : Int)) = U ((digs k N ++ [y]) ++ List.replicate (len - (k + 1)) 0) := fun y => U_fill (digs k N) len k y (digs_length _ _) hlt
   have HS := Lib.hid hset
   clear hset
   by_cases hk2 : k + 1 < len
   ·obtain ⟨_, _, hA, _, hcell2⟩ := hr1.u (k := k + 1) (by rw [E1.out]; omega)
    injection hA with hA
    injection hA with hA1 hA2
    subst hA1 hA2
    clear hr1
    generalize xs.getD k 0 = x at *
    generalize xs.getD (k + 1) 0 = y at *
    have q1 : IntKind.i64.wrap (32 - (s : Int)) = 32 - (s : Int) := IntWalk.i64_in _ (by omega)
    have q2 : (32 - (s : Int)).toNat = 32 - s := by omega
    have q3 : (0 : Int) ≤ 32 - (s : Int) := by omega
    have q4 : (s : Int) ≤ 32 := by omega
    have q5 : k < len := hlt
    go_wp2_with fail
    go_region
    clear q1 q2 q3 q4 q5
    go_wp2
    go_roundw
    case rel =>
     have hp : (2 : Nat) ^ (32 - s) ≤ 4294967296 := by have := Nat.pow_le_pow_right (n := 2) (by omega) (show 32 - s ≤ 32 by omega); simpa using this
     have hmul : y * 2 ^ (32 - s) < 18446744073709551616 := by
      have := Nat.mul_lt_mul_of_lt_of_le y0 hp (by omega); omega
     have ew : IntKind.u64.wrap ((y : Int) * 2 ^ (32 - s)) = ((y * 2 ^ (32 - s) : Nat) : Int) := by
      rw [show (y : Int) * 2 ^ (32 - s) = ((y * 2 ^ (32 - s) : Nat) : Int) from by simp]
      exact IntWalk.u64_in _ (by omega)
     have exs : (x : Int) / 2 ^ s = ((x / 2 ^ s : Nat) : Int) := by simp
     have hxl : x / 2 ^ s < 4294967296 := Nat.lt_of_le_of_lt (Nat.div_le_self _ _) x0
     have f1 : Value.int .u32 (bits BinOp.or .u32 ((x : Int) / 2 ^ s) (IntKind.u64.wrap ((y : Int) * 2 ^ (32 - s)) % 4294967296)) = .int .u32 ((N / (2 ^ 32) ^ k % 2 ^ 32 : Nat) : Int) := by
      rw [ew, exs, show ((y * 2 ^ (32 - s) : Nat) : Int) % 4294967296 = ((y * 2 ^ (32 - s) % 4294967296 : Nat) : Int) from by omega, u32_or_nat _ _ hxl (by omega), HO.out, HD.out]
     rw [f1]
     refine ⟨k + 1, by omega, by go_num, ?_, ((hbw.setCell (Nat.le_refl _) _).setCell (Nat.le_refl _) _).drew⟩
     have h1 := (hbk.set k (.int .u32 ((x : Int) / 2 ^ s))).set k (.int .u32 ((N / (2 ^ 32) ^ k % 2 ^ 32 : Nat) : Int))
     rw [List.set_set, HS.out, ← digs_succ] at h1
     exact h1.drew
    case measure => simp [intOf] <;> omega
   ·have hy : xs.getD (k + 1) 0 = 0 := by rw [List.getD_eq_getElem?_getD, List.getElem?_eq_none (by rw [E1.out]; omega)]; rfl
    rw [hy] at HD HO
    clear hy y0 hr1
    generalize xs.getD k 0 = x at *
    go_wp2
    go_roundw
    case rel =>
     have exs : Value.int .u32 ((x : Int) / 2 ^ s) = .int .u32 ((N / (2 ^ 32) ^ k % 2 ^ 32 : Nat) : Int) := by
      have := HD.out
      rw [this]; simp
     rw [exs]
     refine ⟨k + 1, by omega, by go_num, ?_, hbw.setCell (Nat.le_refl _) _⟩
     have h1 := hbk.set k (.int .u32 ((N / (2 ^ 32) ^ k % 2 ^ 32 : Nat) : Int))
     rw [HS.out, ← digs_succ] at h1
     exact h1
    case measure => simp [intOf] <;> omega
  ·obtain rfl : k = len := by omega
   have HK := Lib.hid hbk
   clear hbk
   go_wp2_with fail
   have hl : (digs k N ++ List.replicate (k - k) 0).length = k := by simp [digs_length]
   refine (trim_any _ _ _ _ _ hl (Nat.le_refl _) (by unfold maxLen; omega) HK.out.rd).mono ?_
   rintro e w2 ⟨rfl, rfl⟩
   go_wp2
   go_ret
   refine ⟨_, _, _, rfl, ?_, by rw [← HG.out]; exact hbw⟩
   have := Lim.of_trim hl (Nat.le_refl _) (by unfold maxLen; omega) HK.out.rd (by simpa using digs_lt k N)
   rw [Nat.sub_self, List.replicate_zero, List.append_nil] at this
   have e2 := down_val xs D1.out s
   rw [E1.out, HN.out] at e2
   rw [e2] at this
   exact this
end Go.Proofs.YtbicehdehiakgaaGreatDoor
namespace Go.Proofs.YtbicehdehiakgaaGreatDoor
open Go.RowKit
set_option maxRecDepth 100000 in
set_option maxHeartbeats 1600000 in
theorem estimate_any (u0 u1 u2 v0 v1 v2 : Nat) (w : World) (hu0 : u0 ≤ v0) (hu1 : u1 < 4294967296) (hu2 : u2 < 4294967296) (hv0 : 0 < v0) (hv0' : v0 < 4294967296) (hv1 : v1 < 4294967296) :
  Calls Tryz.prog 202 #[.agg #[.int .u32 (u0 : Int), .int .u32 (u1 : Int), .int .u32 (u2 : Int)], .agg #[.int .u32 (v0 : Int), .int .u32 (v1 : Int), .int .u32 (v2 : Int)]] w fun e w' =>
   e = .returned (.int .u64 (qhat u0 u1 u2 v0 v1 : Nat)) ∧ Below w.heap.size w w' := by
 obtain ⟨Q, hQ⟩ : ∃ Q, qhat u0 u1 u2 v0 v1 = Q := ⟨_, rfl⟩
 have HQ := Lib.hid hQ
 rw [hQ]
 clear hQ
 obtain ⟨T, hT⟩ : ∃ T, u0 * 2 ^ 32 + u1 = T := ⟨_, rfl⟩
 have HT := Lib.hid hT
 have hT1 : T < 18446744073709551616 := by omega
 have or1 : bits BinOp.or .u64 ((u0 : Int) * 4294967296) (u1 : Int) = (T : Int) := by
  rw [show (u0 : Int) * 4294967296 = ((u0 * 2 ^ 32 : Nat) : Int) from by simp, u64_or_nat _ _ (by omega) (by omega), Nat.or_comm, add_is_or _ _ _ hu1, Nat.add_comm, HT.out]
 clear hT
 have HS : Hid (Q ≤ T / v0) := by
  have := est_start u0 u1 u2 v0 v1 hv0 hu2
  rw [HQ.out] at this
  rwa [← HT.out]
 have d0 : ((T / v0 : Nat) : Int) = (T : Int) / v0 := by simp
 have d1 : ((T % v0 : Nat) : Int) = (T : Int) % v0 := by simp
 have X2 : T / v0 ≤ T := Nat.div_le_self _ _
 have X3 : T % v0 < v0 := Nat.mod_lt _ hv0
 have q0 : (0 : Int) ≤ (T : Int) / v0 := by rw [← d0]; exact Int.natCast_nonneg _
 have q1 : (T : Int) / v0 < 18446744073709551616 := by rw [← d0]; omega
 have q2 : (0 : Int) ≤ (T : Int) % v0 := by rw [← d1]; exact Int.natCast_nonneg _
 have q3 : (T : Int) % v0 < v0 := by rw [← d1]; omega
 have p0 : ¬ (v0 = 0) := by omega
 have w1 : IntKind.u64.wrap (v0 : Int) = v0 := IntWalk.u64_in _ (by omega)
 have w2 : IntKind.u64.wrap ((T : Int) / v0) = (T : Int) / v0 := IntWalk.u64_in _ (by omega)
 have w3 : IntKind.u64.wrap ((T : Int) % v0) = (T : Int) % v0 := IntWalk.u64_in _ (by omega)
 have t1 : (T : Int).tdiv v0 = (T : Int) / v0 := Int.tdiv_eq_ediv_of_nonneg (by omega)
 have t2 : (T : Int).tmod v0 = (T : Int) % v0 := Int.tmod_eq_emod_of_nonneg (by omega)
 have HD := Lib.hid (And.intro d0 d1)
 clear d0 d1
 go_enter Tryz.func202, Tryz.ntmps202
 go_wp2_with fail
 go_step3
 go_wp2_with fail
 go_region
 go_wp2_with fail
 go_step3
 go_wp2_with fail
 clear w1 w2 w3 t1 t2 p0 or1
 go_loop [6, 7] (fun qv rv => ∃ q r : Nat, r < 4294967296 ∧ q ≤ T ∧ qv = .int .u64 q ∧ rv = .int .u64 r ∧ Hid (q * v0 + r = T) ∧ Hid (Q ≤ q)) (fun qv _ => (intOf qv).toNat)
 case atStart => exact ⟨T / v0, T % v0, by omega, X2, by rw [HD.out.1], by rw [HD.out.2], by show _ = _; rw [Nat.mul_comm]; exact Nat.div_add_mod T v0, HS⟩
 case round =>
  obtain ⟨q, r, hr, hqT, rfl, rfl, he, hq⟩ := hrel
  clear q0 q1 q2 q3 X2 X3
  have heT : Hid (q * v0 + r = u0 * 4294967296 + u1) := he.out.trans HT.out.symm
  by_cases hqm : 4294967295 < q
  ·have G1 := Lib.hid (est_go u0 u1 u2 v0 v1 q r hv0 heT.out (.inl hqm) (by rw [HQ.out]; exact hq.out))
   rw [HQ.out] at G1
   have hq' : (4294967295 : Int) < q := by omega
   by_cases hrb : 4294967295 < r + v0
   ·go_wp2
    go_ret
    refine ⟨?_, by rw [show w.heap.size = w.heap.size from rfl]; exact (((Below.refl _ _).alloc (Nat.le_refl _) _).alloc (by simp) _).drew⟩
    have e := est_break u0 u1 u2 v0 v1 (q - 1) (r + v0) hv0 hu0 hu1 hv1 (by
     have h2 := heT.out
     obtain ⟨q', rfl⟩ : ∃ q', q = q' + 1 := ⟨q - 1, by have := G1.out.2; omega⟩
     rw [Nat.add_mul] at h2
     rw [Nat.add_sub_cancel]; omega) hrb (by rw [HQ.out]; exact G1.out.1)
    rw [HQ.out] at e
    have hq0 := G1.out.2
    show Ending.returned (.int .u64 ((q : Int) - 1)) = _
    rw [← e]; congr 2; omega
   ·go_wp2
    go_round
    case rel =>
     have hq0 := G1.out.2
     refine ⟨q - 1, r + v0, by omega, by omega, by congr 1; omega, by congr 1, ?_, G1.out.1⟩
     show _ = _
     have h2 := he.out
     obtain ⟨q', rfl⟩ : ∃ q', q = q' + 1 := ⟨q - 1, by omega⟩
     rw [Nat.add_mul] at h2
     rw [Nat.add_sub_cancel]; omega
    case measure => have hq0 := G1.out.2; simp [intOf] <;> omega
  ·have hq' : (q : Int) ≤ 4294967295 := by omega
   have hqn : q ≤ 4294967295 := by omega
   clear hqm
   obtain ⟨R, hR⟩ : ∃ R, r * 2 ^ 32 + u2 = R := ⟨_, rfl⟩
   have HR := Lib.hid hR
   have hR1 : R < 18446744073709551616 := by omega
   have or2 : bits BinOp.or .u64 ((r : Int) * 4294967296) (u2 : Int) = (R : Int) := by
    rw [show (r : Int) * 4294967296 = ((r * 2 ^ 32 : Nat) : Int) from by simp, u64_or_nat _ _ (by omega) (by omega), Nat.or_comm, add_is_or _ _ _ hu2, Nat.add_comm, HR.out]
   clear hR
   have M := mul_bound q v1 0 0 (by omega) hv1 (by omega) (by omega)
   have M1 : (0 : Int) ≤ (q : Int) * v1 := by rw [← Int.natCast_mul]; omega
   have M2 : (q : Int) * v1 ≤ 18446744065119617025 := by rw [← Int.natCast_mul]; omega
   by_cases hc : R < q * v1
   ·have G1 := Lib.hid (est_go u0 u1 u2 v0 v1 q r hv0 heT.out (.inr (by have := HR.out; omega)) (by rw [HQ.out]; exact hq.out))
    rw [HQ.out] at G1
    have hc' : (R : Int) < (q : Int) * v1 := by rw [← Int.natCast_mul]; omega
    have hq1 : 1 ≤ q := G1.out.2
    by_cases hrb : 4294967295 < r + v0
    ·go_wp2
     go_ret
     refine ⟨?_, by rw [show w.heap.size = w.heap.size from rfl]; exact (((Below.refl _ _).alloc (Nat.le_refl _) _).alloc (by simp) _).drew⟩
     have e := est_break u0 u1 u2 v0 v1 (q - 1) (r + v0) hv0 hu0 hu1 hv1 (by
      have h2 := heT.out
      obtain ⟨q', rfl⟩ : ∃ q', q = q' + 1 := ⟨q - 1, by have := G1.out.2; omega⟩
      rw [Nat.add_mul] at h2
      rw [Nat.add_sub_cancel]; omega) hrb (by rw [HQ.out]; exact G1.out.1)
     rw [HQ.out] at e
     have hq0 := G1.out.2
     show Ending.returned (.int .u64 ((q : Int) - 1)) = _
     rw [← e]; congr 2; omega
    ·go_wp2
     go_round
     case rel =>
      have hq0 := G1.out.2
      refine ⟨q - 1, r + v0, by omega, by omega, by congr 1; omega, by congr 1, ?_, G1.out.1⟩
      show _ = _
      have h2 := he.out
      obtain ⟨q', rfl⟩ : ∃ q', q = q' + 1 := ⟨q - 1, by omega⟩
      rw [Nat.add_mul] at h2
      rw [Nat.add_sub_cancel]; omega
     case measure => have hq0 := G1.out.2; simp [intOf] <;> omega
   ·have hc' : (q : Int) * v1 ≤ R := by rw [← Int.natCast_mul]; omega
    have e := Lib.hid (est_end u0 u1 u2 v0 v1 q r hv0 heT.out hqn (by have := HR.out; omega) (by rw [HQ.out]; exact hq.out))
    rw [HQ.out] at e
    go_wp2
    go_ret
    refine ⟨?_, (((Below.refl _ _).alloc (Nat.le_refl _) _).alloc (by simp) _).drew⟩
    rw [← e.out]; rfl
end Go.Proofs.YtbicehdehiakgaaGreatDoor
namespace Go.Proofs.YtbicehdehiakgaaGreatDoor
open Go.RowKit
theorem sub_words (u pm b : Nat) (hu : u < 4294967296) (hp : pm < 4294967296) (hb : b ≤ 1) :
  ∃ E D : Nat, IntKind.u64.wrap ((u : Int) - pm) = E ∧ IntKind.u64.wrap ((E : Int) - b) = D ∧ E < 18446744073709551616 ∧ D < 18446744073709551616 ∧
   D % 4294967296 + pm + b = u + (D / 9223372036854775808) * 4294967296 ∧ D / 9223372036854775808 ≤ 1 := by
 rcases Nat.lt_or_ge u pm with h | h
 ·refine ⟨u + 18446744073709551616 - pm, u + 18446744073709551616 - pm - b, ?_, ?_, by omega, by omega, by omega, by omega⟩
  ·rw [IntKind.wrap_u64]; omega
  ·rw [IntKind.wrap_u64]; omega
 ·rcases Nat.lt_or_ge (u - pm) b with h2 | h2
  ·refine ⟨u - pm, u + 18446744073709551616 - pm - b, ?_, ?_, by omega, by omega, by omega, by omega⟩
   ·rw [IntKind.wrap_u64]; omega
   ·rw [IntKind.wrap_u64]; omega
  ·refine ⟨u - pm, u - pm - b, ?_, ?_, by omega, by omega, by omega, by omega⟩
   ·rw [IntKind.wrap_u64]; omega
   ·rw [IntKind.wrap_u64]; omega
theorem and_mask (p : Nat) (hp : p < 18446744073709551616) : bits BinOp.and .u64 (p : Int) 4294967295 = ((p % 4294967296 : Nat) : Int) := by
 rw [show (4294967295 : Int) = ((4294967295 : Nat) : Int) from rfl, u64_and_nat _ _ hp (by omega)]
 have := Nat.and_two_pow_sub_one_eq_mod p 32
 rw [show (2 : Nat) ^ 32 - 1 = 4294967295 from rfl] at this
 rw [this]
structure Turned (G j n : Nat) (zs zs' : List Nat) (w w' : World) : Prop where
 blk : Blk w' G 156 (U zs')
 len : zs'.length = zs.length
 out : ∀ p, (p < j ∨ j + n < p) → zs'.getD p 0 = zs.getD p 0
 lt : ∀ x ∈ zs', x < 2 ^ 32
 onl : Onl G w w'
def RetTake (G j n q : Nat) (zs ys : List Nat) (w : World) (e : Ending) (w' : World) : Prop :=
 ∃ zs' c, c ≤ 1 ∧ e = .returned (.bool (c == 1)) ∧ Turned G j n zs zs' w w' ∧ val (2 ^ 32) (seg zs j (n + 1)) + c * (2 ^ 32) ^ (n + 1) = val (2 ^ 32) (seg zs' j (n + 1)) + q * val (2 ^ 32) ys
set_option maxRecDepth 100000 in
set_option maxHeartbeats 1600000 in
theorem take_any (G j cap b off n capv q : Nat) (zs ys : List Nat) (w : World) (hz : Blk w G 156 (U zs)) (hy : Rd w (some ⟨b, off, none⟩) (U ys)) (hne : b ≠ G) (hn : ys.length = n) (hjn : j + n < zs.length) (hcap : n + 1 ≤ cap)
  (hzd : ∀ x ∈ zs, x < 2 ^ 32) (hyd : ∀ x ∈ ys, x < 2 ^ 32) (hq : q < 4294967296) (hlen : zs.length ≤ 4294967296) :
  Calls Tryz.prog 203 #[.slice (some ⟨G, j, none⟩) (n + 1) cap, .slice (some ⟨b, off, none⟩) n capv, .int .u64 (q : Int)] w (RetTake G j n q zs ys w) := by
 have hz0 := hz
 have HZ := Lib.hid hz; have HY := Lib.hid hy; have HN := Lib.hid hn; have HZD := Lib.hid hzd; have HYD := Lib.hid hyd
 clear hz hy hn hzd hyd hz0
 go_enter Tryz.func203, Tryz.ntmps203
 go_wp2
 go_loopw [15, 7, 8] (fun iv cv bv wr => ∃ (i c t : Nat) (zi : List Nat), i ≤ n ∧ c < 4294967296 ∧ t ≤ 1 ∧ iv = .int .i64 i ∧ cv = .int .u64 c ∧ bv = .int .u64 t ∧ Blk wr G 156 (U zi) ∧ Hid (zi.length = zs.length) ∧
   Hid (∀ p, (p < j ∨ j + i ≤ p) → zi.getD p 0 = zs.getD p 0) ∧ Hid (∀ x ∈ zi, x < 2 ^ 32) ∧ Onl G w wr ∧
   Hid (val (2 ^ 32) (seg zs j i) + (c + t) * (2 ^ 32) ^ i = val (2 ^ 32) (seg zi j i) + q * val (2 ^ 32) (ys.take i))) (fun i _ _ _ => n - (intOf i).toNat)
 case atStart => exact ⟨0, 0, 0, zs, by omega, by omega, by omega, rfl, rfl, rfl, HZ.out, rfl, fun _ _ => rfl, HZD.out, Onl.refl _ _, by show _ = _; simp [seg_zero, val]⟩
 case round =>
  obtain ⟨i, c, t, zi, hi, hc, ht, rfl, rfl, rfl, hbk, hl, hout, hzl, honl, hv⟩ := hrel
  by_cases hlt : i < n
  ·have hr1 := honl.rd HY.out hne
   obtain ⟨_, _, hA, _, hcell⟩ := hr1.u (k := i) (by rw [HN.out]; omega)
   injection hA with hA
   injection hA with hA1 hA2
   subst hA1 hA2
   have v0 : ys.getD i 0 < 4294967296 := getD_lt_of (by omega) HYD.out i
   have u0 : zi.getD (j + i) 0 < 4294967296 := getD_lt_of (by omega) hzl.out (j + i)
   have hcu := hbk.cell (i := j + i) (by rw [U_length, hl.out]; omega)
   rw [U_get] at hcu
   have hfz := hbk.frozen (j + i)
   have HU := Lib.hid (hout.out (j + i) (.inr (Nat.le_refl _)))
   have HS := Lib.hid (fun y t' => take_step (2 ^ 32) i q zs zi ys j c t y t' (by omega) (by rw [hl.out]; omega) (seg_length _ _ _ (by rw [hl.out]; omega)) (seg_length _ _ _ (by omega)) hv.out)
   obtain ⟨v, hvv⟩ : ∃ v, ys.getD i 0 = v := ⟨_, rfl⟩
   have HV := Lib.hid hvv
   rw [hvv] at hcell v0
   clear hvv hr1
   obtain ⟨u, huu⟩ : ∃ u, zi.getD (j + i) 0 = u := ⟨_, rfl⟩
   have HU2 := Lib.hid huu
   rw [huu] at hcu u0
   clear huu
   have M := mul_bound q v 0 0 hq v0 (by omega) (by omega)
   have M1 : (0 : Int) ≤ (q : Int) * v := by rw [← Int.natCast_mul]; omega
   have M2 : (q : Int) * v ≤ 18446744065119617025 := by rw [← Int.natCast_mul]; omega
   obtain ⟨P, hP⟩ : ∃ P, q * v + c = P := ⟨_, rfl⟩
   have HP := Lib.hid hP
   have hPi : (q : Int) * v + c = (P : Int) := by rw [← hP]; simp
   have hP1 : P < 18446744073709551616 := by omega
   have hP2 : P / 4294967296 < 4294967296 := by omega
   clear hP
   have ha := and_mask P hP1
   obtain ⟨pm, hpm⟩ : ∃ pm, P % 4294967296 = pm := ⟨_, rfl⟩
   have HPM := Lib.hid hpm
   have hpm1 : pm < 4294967296 := by omega
   rw [hpm] at ha
   clear hpm
   obtain ⟨E, D, hE, hD, hE1, hD1, hE2, hD2⟩ := sub_words u pm t u0 hpm1 ht
   have HE2 := Lib.hid hE2
   clear hE2
   go_wp2
   go_roundw
   case rel =>
    refine ⟨i + 1, P / 4294967296, D / 9223372036854775808, zi.set (j + i) (D % 4294967296), by omega, hP2, hD2, by go_num, by simp, by simp, ?_, by show _ = _; rw [List.length_set, hl.out], ?_, set_lt hzl.out (Nat.mod_lt _ (by omega)) _, honl.set _ _, ?_⟩
    ·rw [← U_set, show ((D % 4294967296 : Nat) : Int) = (D : Int) % 4294967296 from by simp]
     exact hbk.set _ _
    ·show ∀ p, _ → _
     intro p hp
     rw [getD_set_ne _ _ _ _ (by omega)]
     exact hout.out p (by omega)
    ·have h := HS.out (D % 4294967296) (D / 9223372036854775808)
     rw [HV.out, HP.out, ← HU.out, HU2.out, show (2 : Nat) ^ 32 = 4294967296 from rfl, HPM.out] at h
     exact h HE2.out
   case measure => simp [intOf] <;> omega
  ·obtain rfl : i = n := by omega
   have u0 : zi.getD (j + i) 0 < 4294967296 := getD_lt_of (by omega) hzl.out (j + i)
   have hcu := hbk.cell (i := j + i) (by rw [U_length, hl.out]; omega)
   rw [U_get] at hcu
   have hfz := hbk.frozen (j + i)
   have HU := Lib.hid (hout.out (j + i) (.inr (Nat.le_refl _)))
   have HS := Lib.hid (fun y t' => take_step (2 ^ 32) i q zs zi ys j c t y t' (by omega) (by rw [hl.out]; omega) (seg_length _ _ _ (by rw [hl.out]; omega)) (seg_length _ _ _ (by omega)) hv.out)
   have HY0 : Hid (ys.getD i 0 = 0) := by
    show _ = _; rw [List.getD_eq_getElem?_getD, List.getElem?_eq_none (by rw [HN.out]; omega)]; rfl
   obtain ⟨u, huu⟩ : ∃ u, zi.getD (j + i) 0 = u := ⟨_, rfl⟩
   have HU2 := Lib.hid huu
   rw [huu] at hcu u0
   clear huu
   obtain ⟨E, D, hE, hD, hE1, hD1, hE2, hD2⟩ := sub_words u c t u0 hc ht
   have HE2 := Lib.hid hE2
   clear hE2
   have HF : Hid (val (2 ^ 32) (seg zs j (i + 1)) + (D / 9223372036854775808) * (2 ^ 32) ^ (i + 1) = val (2 ^ 32) (seg (zi.set (j + i) (D % 4294967296)) j (i + 1)) + q * val (2 ^ 32) ys) := by
    have h := HS.out (D % 4294967296) (D / 9223372036854775808)
    rw [HY0.out, Nat.mul_zero, Nat.zero_add, ← HU.out, HU2.out, show (2 : Nat) ^ 32 = 4294967296 from rfl, Nat.mod_eq_of_lt hc, Nat.div_eq_of_lt hc, Nat.zero_add, List.take_of_length_le (by rw [HN.out]; omega)] at h
    exact h HE2.out
   have HT : Hid (Turned G j i zs (zi.set (j + i) (D % 4294967296)) w (wr.setCell ⟨G, j + i, none⟩ (.int .u32 ((D % 4294967296 : Nat) : Int)))) := by
    refine ⟨?_, by rw [List.length_set, hl.out], ?_, set_lt hzl.out (Nat.mod_lt _ (by omega)) _, honl.set _ _⟩
    ·rw [← U_set]; exact hbk.set _ _
    ·intro p hp
     rw [getD_set_ne _ _ _ _ (by omega)]
     exact hout.out p (by omega)
   rw [show ((D % 4294967296 : Nat) : Int) = (D : Int) % 4294967296 from by simp] at HT
   have hD3 : D / 9223372036854775808 = 0 ∨ D / 9223372036854775808 = 1 := by omega
   rcases hD3 with hD3 | hD3
   ·have hD4 : (D : Int) / 9223372036854775808 = 0 := by omega
    rw [hD3] at HF
    clear hD2 hD3
    go_wp2
    go_ret
    exact ⟨_, 0, by omega, rfl, HT.out, HF.out⟩
   ·have hD4 : (D : Int) / 9223372036854775808 = 1 := by omega
    rw [hD3] at HF
    clear hD2 hD3
    go_wp2
    go_ret
    exact ⟨_, 1, by omega, rfl, HT.out, HF.out⟩
def RetGive (G j n : Nat) (zs ys : List Nat) (w : World) (e : Ending) (w' : World) : Prop :=
 ∃ zs' c, e = .returned (.tuple #[]) ∧ Turned G j n zs zs' w w' ∧ val (2 ^ 32) (seg zs j (n + 1)) + val (2 ^ 32) ys = val (2 ^ 32) (seg zs' j (n + 1)) + c * (2 ^ 32) ^ (n + 1)
set_option maxRecDepth 100000 in
set_option maxHeartbeats 1600000 in
theorem give_any (G j cap b off n capv : Nat) (zs ys : List Nat) (w : World) (hz : Blk w G 156 (U zs)) (hy : Rd w (some ⟨b, off, none⟩) (U ys)) (hne : b ≠ G) (hn : ys.length = n) (hjn : j + n < zs.length) (hcap : n + 1 ≤ cap)
  (hzd : ∀ x ∈ zs, x < 2 ^ 32) (hyd : ∀ x ∈ ys, x < 2 ^ 32) (hlen : zs.length ≤ 4294967296) :
  Calls Tryz.prog 204 #[.slice (some ⟨G, j, none⟩) (n + 1) cap, .slice (some ⟨b, off, none⟩) n capv] w (RetGive G j n zs ys w) := by
 have HZ := Lib.hid hz; have HY := Lib.hid hy; have HN := Lib.hid hn; have HZD := Lib.hid hzd; have HYD := Lib.hid hyd
 clear hz hy hn hzd hyd
 go_enter Tryz.func204, Tryz.ntmps204
 go_wp2
 go_loopw [9, 4] (fun iv cv wr => ∃ (i c : Nat) (zi : List Nat), i ≤ n ∧ c ≤ 1 ∧ iv = .int .i64 i ∧ cv = .int .u64 c ∧ Blk wr G 156 (U zi) ∧ Hid (zi.length = zs.length) ∧
   Hid (∀ p, (p < j ∨ j + i ≤ p) → zi.getD p 0 = zs.getD p 0) ∧ Hid (∀ x ∈ zi, x < 2 ^ 32) ∧ Onl G w wr ∧
   Hid (val (2 ^ 32) (seg zs j i) + val (2 ^ 32) (ys.take i) = val (2 ^ 32) (seg zi j i) + c * (2 ^ 32) ^ i)) (fun i _ _ => n - (intOf i).toNat)
 case atStart => exact ⟨0, 0, zs, by omega, by omega, rfl, rfl, HZ.out, rfl, fun _ _ => rfl, HZD.out, Onl.refl _ _, by show _ = _; simp [seg_zero, val]⟩
 case round =>
  obtain ⟨i, c, zi, hi, hc, rfl, rfl, hbk, hl, hout, hzl, honl, hv⟩ := hrel
  by_cases hlt : i < n
  ·have hr1 := honl.rd HY.out hne
   obtain ⟨_, _, hA, _, hcell⟩ := hr1.u (k := i) (by rw [HN.out]; omega)
   injection hA with hA
   injection hA with hA1 hA2
   subst hA1 hA2
   have v0 : ys.getD i 0 < 4294967296 := getD_lt_of (by omega) HYD.out i
   have u0 : zi.getD (j + i) 0 < 4294967296 := getD_lt_of (by omega) hzl.out (j + i)
   have hcu := hbk.cell (i := j + i) (by rw [U_length, hl.out]; omega)
   rw [U_get] at hcu
   have hfz := hbk.frozen (j + i)
   have HU := Lib.hid (hout.out (j + i) (.inr (Nat.le_refl _)))
   have HS := Lib.hid (give_step (2 ^ 32) i zs zi ys j c (by omega) (by rw [hl.out]; omega) (seg_length _ _ _ (by rw [hl.out]; omega)) (seg_length _ _ _ (by omega)) hv.out)
   rw [← HU.out] at HS
   generalize ys.getD i 0 = v at *
   generalize zi.getD (j + i) 0 = u at *
   clear hr1
   go_wp2_with fail
   go_quiet (fail)
   go_wp2
   go_roundw
   case rel =>
    refine ⟨i + 1, (u + v + c) / 2 ^ 32, zi.set (j + i) ((u + v + c) % 2 ^ 32), by omega, by omega, by go_num, by simp, ?_, by show _ = _; rw [List.length_set, hl.out], ?_, set_lt hzl.out (Nat.mod_lt _ (by omega)) _, (honl.drewN _).set _ _, HS.out⟩
    ·rw [← U_set, show (((u + v + c) % 2 ^ 32 : Nat) : Int) = ((u : Int) + v + c) % 4294967296 from by simp]
     exact (hbk.drewN _).set _ _
    ·show ∀ p, _ → _
     intro p hp
     rw [getD_set_ne _ _ _ _ (by omega)]
     exact hout.out p (by omega)
   case measure => simp [intOf] <;> omega
  ·obtain rfl : i = n := by omega
   have u0 : zi.getD (j + i) 0 < 4294967296 := getD_lt_of (by omega) hzl.out (j + i)
   have hcu := hbk.cell (i := j + i) (by rw [U_length, hl.out]; omega)
   rw [U_get] at hcu
   have hfz := hbk.frozen (j + i)
   have HU := Lib.hid (hout.out (j + i) (.inr (Nat.le_refl _)))
   have HS := Lib.hid (give_last (2 ^ 32) i zs zi ys j c (by rw [HN.out]; omega) (by omega) (by rw [hl.out]; omega) (seg_length _ _ _ (by rw [hl.out]; omega)) (seg_length _ _ _ (by omega)) hv.out)
   rw [← HU.out] at HS
   generalize zi.getD (j + i) 0 = u at *
   go_wp2
   go_end0
   refine ⟨zi.set (j + i) ((u + c) % 2 ^ 32), (u + c) / 2 ^ 32, rfl, ⟨?_, by rw [List.length_set, hl.out], ?_, set_lt hzl.out (Nat.mod_lt _ (by omega)) _, honl.set _ _⟩, HS.out⟩
   ·rw [← U_set]
    have e : Value.int .u32 (((u + c) % 2 ^ 32 : Nat) : Int) = .int .u32 (((u : Int) + c) % 4294967296) := by simp
    rw [e]
    exact hbk.set _ _
   ·intro p hp
    rw [getD_set_ne _ _ _ _ (by omega)]
    exact hout.out p (by omega)
end Go.Proofs.YtbicehdehiakgaaGreatDoor
namespace Go.Proofs.YtbicehdehiakgaaGreatDoor
open Go.RowKit
theorem bitLen_spec (x : Nat) (h0 : x ≠ 0) (h : x < 2 ^ 64) : 1 ≤ Lib.bitLen x ∧ 2 ^ (Lib.bitLen x - 1) ≤ x ∧ x < 2 ^ Lib.bitLen x := by
 induction x using Nat.strongRecOn with
 | _ x ih =>
  have e := Lib.bitLen_half x h0 h
  by_cases h1 : x / 2 = 0
  ·rw [h1, show Lib.bitLen 0 = 0 from rfl] at e
   rw [e]
   exact ⟨by omega, by simp; omega, by simp; omega⟩
  ·obtain ⟨i1, i2, i3⟩ := ih (x / 2) (by omega) h1 (by omega)
   rw [e]
   refine ⟨by omega, ?_, ?_⟩
   ·rw [show 1 + Lib.bitLen (x / 2) - 1 = (Lib.bitLen (x / 2) - 1) + 1 from by omega, Nat.pow_succ]; omega
   ·rw [Nat.add_comm 1, Nat.pow_succ]; omega
def RetDiv (w : World) (n m : Nat) (e : Ending) (w' : World) : Prop :=
 ∃ A len cap A' len' cap', e = .returned (.tuple #[.slice A len cap, .slice A' len' cap']) ∧ Lim w' A len cap (n / m) ∧ Lim w' A' len' cap' (n % m) ∧ Below w.heap.size w w'
theorem lim_nil (w : World) : Lim w none 0 0 0 := ⟨Nat.le_refl _, by unfold maxLen; omega, [], rfl, Rd.nil _ _, Canon.nil _, rfl⟩
set_option maxRecDepth 100000 in
set_option maxHeartbeats 800000 in
theorem divide_less (A A' : Option Addr) (len cap len' cap' n m : Nat) (w : World) (h1 : Lim w A len cap n) (h2 : Lim w A' len' cap' m) (hlt : n < m) :
  Calls Tryz.prog 188 #[.slice A len cap, .slice A' len' cap'] w (RetDiv w n m) := by
 have H1 := Lib.hid h1; have H2 := Lib.hid h2
 clear h1 h2
 go_enter Tryz.func188, Tryz.ntmps188
 go_wp2_with fail
 refine (compare_any _ _ _ _ _ _ n m _ H1.out H2.out).mono ?_
 rw [cmpI_lt hlt]
 rintro e w' ⟨rfl, hb⟩
 go_wp2
 go_ret2
 refine ⟨none, 0, 0, A, len, cap, rfl, ?_, ?_, hb⟩
 ·rw [Nat.div_eq_of_lt hlt]; exact lim_nil _
 ·rw [Nat.mod_eq_of_lt hlt]; exact H1.out.below hb
set_option maxRecDepth 100000 in
set_option maxHeartbeats 800000 in
theorem divide_one (A A' : Option Addr) (len cap cap' n m : Nat) (w : World) (h1 : Lim w A len cap n) (h2 : Lim w A' 1 cap' m) (hle : m ≤ n) (hb : len ≤ 1073741824) :
  Calls Tryz.prog 188 #[.slice A len cap, .slice A' 1 cap'] w (RetDiv w n m) := by
 have H1 := Lib.hid h1; have H2 := Lib.hid h2
 obtain ⟨l2, m2, ys, e2, r2, c2, v2⟩ := h2
 have m0 : 0 < m := by
  rcases Nat.eq_zero_or_pos m with h | h
  ·exact absurd (H2.out.zero.2 h) (by omega)
  ·exact h
 obtain ⟨y, rfl⟩ : ∃ y, ys = [y] := List.length_eq_one_iff.1 e2
 obtain rfl : y = m := by simpa [val] using v2
 have y1 : y < 4294967296 := c2.lt y (by simp)
 clear e2 c2 v2
 have hc : cmpI n y = 0 ∨ cmpI n y = 1 := by unfold cmpI; split; omega; split <;> simp
 obtain ⟨c, hcc⟩ : ∃ c, cmpI n y = c := ⟨_, rfl⟩
 have HC := Lib.hid hcc
 rw [hcc] at hc
 have hc0 : ¬ (c < 0) := by omega
 clear h1 hcc hc
 go_enter Tryz.func188, Tryz.ntmps188
 go_wp2_with fail
 refine (compare_any _ _ _ _ _ _ n y _ H1.out H2.out).mono ?_
 rw [HC.out]
 rintro e w1 ⟨rfl, hb1⟩
 have r2' := r2.below hb1
 obtain ⟨b, off, rfl, hbb, hcell⟩ := r2'.u (xs := [y]) (k := 0) (by simp)
 simp only [Nat.add_zero] at hcell
 have e0 : ([y].getD 0 0 : Nat) = y := rfl
 rw [e0] at hcell
 have H1' := Lib.hid (H1.out.below hb1)
 clear r2 r2' e0
 go_wp2_with fail
 refine (short_any A len cap n _ y _ rfl H1'.out hb m0 y1).mono ?_
 rintro e w2 ⟨A2, len2, cap2, rfl, hq, hb2⟩
 have HQ := Lib.hid hq
 clear hq
 obtain ⟨r, hr⟩ : ∃ r, n % y = r := ⟨_, rfl⟩
 have hry : r < y := by rw [← hr]; exact Nat.mod_lt _ m0
 have HR := Lib.hid hr
 rw [hr]
 clear hr
 go_wp2_with fail
 have hB := Blk.new w2 156 #[.int .u32 (r : Int)]
 have hrd : Rd (w2.alloc (.cells #[.int .u32 (r : Int)] 156)) (some ⟨w2.heap.size, 0, none⟩) (U [r]) := hB.rd
 have hd : ∀ x ∈ [r], x < 2 ^ 32 := by intro x hx; obtain rfl : x = r := by simpa using hx
                                       omega
 refine (trim_any _ 1 1 [r] _ rfl (by omega) (by unfold maxLen; omega) hrd).mono ?_
 rintro e w' ⟨rfl, rfl⟩
 go_wp2
 go_ret2
 have hL := Lim.of_trim (len := 1) (cap := 1) rfl (Nat.le_refl _) (by unfold maxLen; omega) hrd hd
 refine ⟨_, _, _, _, _, _, rfl, HQ.out.below ((Below.refl _ _).alloc (Nat.le_refl _) _), ?_, ?_⟩
 ·rw [HR.out]; simpa [val] using hL
 ·exact ((hb1.trans (hb2.mono hb1.size)).trans ((Below.refl _ _).alloc (Nat.le_trans hb1.size hb2.size) _))
end Go.Proofs.YtbicehdehiakgaaGreatDoor
