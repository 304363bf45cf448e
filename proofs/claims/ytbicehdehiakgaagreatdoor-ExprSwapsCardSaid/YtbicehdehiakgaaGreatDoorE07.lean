/- A part of the proof: DivLong Nat. -/
import Derived.Test.YtbicehdehiakgaaGreatDoorE06
set_option linter.unusedVariables false
set_option linter.unusedSimpArgs false
namespace Go.Proofs.YtbicehdehiakgaaGreatDoor
open Go.RowKit
theorem shift_spec (x : Nat) (h0 : 0 < x) (h1 : x < 4294967296) : ∃ s : Nat, s < 32 ∧ (32 - (Lib.bitLen x : Int)) = s ∧ 2147483648 ≤ x * 2 ^ s ∧ (x + 1) * 2 ^ s ≤ 4294967296 := by
 obtain ⟨h2, h3, h4⟩ := bitLen_spec x (by omega) (by omega)
 generalize Lib.bitLen x = L at *
 have hL : L ≤ 32 := by
  rcases Nat.lt_or_ge 32 L with h | h
  ·have := Nat.pow_le_pow_right (n := 2) (by omega) (show 32 ≤ L - 1 by omega)
   omega
  ·exact h
 refine ⟨32 - L, by omega, by omega, ?_, ?_⟩
 ·have := Nat.mul_le_mul_right (2 ^ (32 - L)) h3
  rw [← Nat.pow_add, show L - 1 + (32 - L) = 31 from by omega] at this
  exact this
 ·have := Nat.mul_le_mul_right (2 ^ (32 - L)) (show x + 1 ≤ 2 ^ L from h4)
  rw [← Nat.pow_add, show L + (32 - L) = 32 from by omega] at this
  exact this
theorem shifted_spec (xs ys : List Nat) (k s : Nat) (hs : s < 32) (hx : Canon (2 ^ 32) xs) (hl : xs.length = k + 1) (h2 : 2147483648 ≤ xs.getD k 0 * 2 ^ s) (h3 : (xs.getD k 0 + 1) * 2 ^ s ≤ 4294967296)
  (hy : Canon (2 ^ 32) ys) (hv : val (2 ^ 32) ys = val (2 ^ 32) xs * 2 ^ s) : ys.length = k + 1 ∧ 2147483648 ≤ ys.getD k 0 ∧ 2 ^ s ≤ ys.getD k 0 := by
 have e : val (2 ^ 32) xs = val (2 ^ 32) (xs.take k) + (2 ^ 32) ^ k * xs.getD k 0 := by
  rw [← val_take_getD, List.take_of_length_le (by omega)]
 have hlo : val (2 ^ 32) (xs.take k) < (2 ^ 32) ^ k := by
  have := val_lt (2 ^ 32) (xs.take k) (fun x hx' => hx.lt x (List.mem_of_mem_take hx'))
  rwa [List.length_take_of_le (by omega)] at this
 have hS : 0 < 2 ^ s := Nat.pow_pos (by omega)
 have hS2 : 2 ^ s ≤ 2147483648 := by have := Nat.pow_le_pow_right (n := 2) (by omega) (show s ≤ 31 by omega); omega
 have hE : 0 < (2 ^ 32) ^ k := Nat.pow_pos (by omega)
 generalize xs.getD k 0 = x at *
 have hub : val (2 ^ 32) ys < (2 ^ 32) ^ (k + 1) := by
  rw [hv, e, show (2 ^ 32) ^ (k + 1) = (2 ^ 32) ^ k * 4294967296 from Nat.pow_succ ..]
  have h4 : (val (2 ^ 32) (xs.take k) + 1 + (2 ^ 32) ^ k * x) * 2 ^ s ≤ ((2 ^ 32) ^ k * (x + 1)) * 2 ^ s := Nat.mul_le_mul_right _ (by rw [Nat.mul_add]; omega)
  have h5 : (2 ^ 32) ^ k * (x + 1) * 2 ^ s ≤ (2 ^ 32) ^ k * 4294967296 := by rw [Nat.mul_assoc]; exact Nat.mul_le_mul_left _ h3
  have h6 : (val (2 ^ 32) (xs.take k) + (2 ^ 32) ^ k * x) * 2 ^ s + 2 ^ s = (val (2 ^ 32) (xs.take k) + 1 + (2 ^ 32) ^ k * x) * 2 ^ s := by grind
  omega
 have hlb : 2147483648 * (2 ^ 32) ^ k ≤ val (2 ^ 32) ys := by
  rw [hv, e]
  have h4 : (2 ^ 32) ^ k * (x * 2 ^ s) ≤ (val (2 ^ 32) (xs.take k) + (2 ^ 32) ^ k * x) * 2 ^ s := by rw [← Nat.mul_assoc]; exact Nat.mul_le_mul_right _ (by omega)
  have h5 := Nat.mul_le_mul_left ((2 ^ 32) ^ k) h2
  rw [Nat.mul_comm _ 2147483648] at h5
  omega
 have hyn : ys ≠ [] := by
  rintro rfl
  simp only [val] at hlb
  omega
 have hlen : ys.length = k + 1 := by
  have h4 := hy.ge hyn
  have h5 := (Nat.pow_lt_pow_iff_right (a := 2 ^ 32) (by omega)).1 (Nat.lt_of_le_of_lt h4 hub)
  have h6 := val_lt (2 ^ 32) ys hy.lt
  have h7 : (2 ^ 32) ^ k < (2 ^ 32) ^ ys.length := by omega
  have h8 := (Nat.pow_lt_pow_iff_right (a := 2 ^ 32) (by omega)).1 h7
  omega
 refine ⟨hlen, ?_⟩
 have e2 : val (2 ^ 32) ys = val (2 ^ 32) (ys.take k) + (2 ^ 32) ^ k * ys.getD k 0 := by
  rw [← val_take_getD, List.take_of_length_le (by omega)]
 have hlo2 : val (2 ^ 32) (ys.take k) < (2 ^ 32) ^ k := by
  have := val_lt (2 ^ 32) (ys.take k) (fun x hx' => hy.lt x (List.mem_of_mem_take hx'))
  rwa [List.length_take_of_le (by omega)] at this
 generalize ys.getD k 0 = y at *
 have : 2147483648 ≤ y := by
  rcases Nat.lt_or_ge y 2147483648 with h | h
  ·exfalso
   have h4 := Nat.mul_le_mul_left ((2 ^ 32) ^ k) (show y + 1 ≤ 2147483648 from h)
   rw [Nat.mul_add, Nat.mul_comm _ 2147483648] at h4
   omega
  ·exact h
 exact ⟨this, by omega⟩
theorem start_lt (n V s L k : Nat) (y : Nat) (ys : List Nat) (hn : n < (2 ^ 32) ^ L) (hl : ys.length = k + 1) (hV : V = val (2 ^ 32) ys) (hy : ys.getD k 0 = y) (hs : 2 ^ s ≤ y) (hkL : k + 1 ≤ L) :
  n * 2 ^ s < V * (2 ^ 32) ^ (L + 1 - (k + 1)) := by
 have e2 : V = val (2 ^ 32) (ys.take k) + (2 ^ 32) ^ k * y := by
  rw [hV, ← hy, ← val_take_getD, List.take_of_length_le (by omega)]
 have hS : 0 < 2 ^ s := Nat.pow_pos (by omega)
 have h1 : (2 ^ 32) ^ k * y * (2 ^ 32) ^ (L + 1 - (k + 1)) ≤ V * (2 ^ 32) ^ (L + 1 - (k + 1)) := Nat.mul_le_mul_right _ (by omega)
 have h2 : (2 ^ 32) ^ k * y * (2 ^ 32) ^ (L + 1 - (k + 1)) = (2 ^ 32) ^ L * y := by
  rw [Nat.mul_right_comm, ← Nat.pow_add, show k + (L + 1 - (k + 1)) = L from by omega]
 have h3 : n * 2 ^ s < (2 ^ 32) ^ L * 2 ^ s := Nat.mul_lt_mul_of_pos_right hn hS
 have h4 : (2 ^ 32) ^ L * 2 ^ s ≤ (2 ^ 32) ^ L * y := Nat.mul_le_mul_left _ hs
 omega
set_option maxRecDepth 100000 in
set_option maxHeartbeats 3200000 in
theorem divide_long (A A' : Option Addr) (len cap k cap' n m : Nat) (w : World) (h1 : Lim w A len cap n) (h2 : Lim w A' (k + 2) cap' m) (hle : m ≤ n) (hb : len ≤ 536870912) :
  Calls Tryz.prog 188 #[.slice A len cap, .slice A' (k + 2) cap'] w (RetDiv w n m) := by
 have H1 := Lib.hid h1; have H2 := Lib.hid h2
 obtain ⟨l1, m1, xs1, e1, r1, c1, v1⟩ := h1
 obtain ⟨l2, m2, xs, e2, r2, c2, v2⟩ := h2
 have hkl : k + 2 ≤ len := by
  rcases Nat.lt_or_ge len (k + 2) with h | h
  ·have := c1.len_lt (by omega) c2 (by rw [e1, e2]; exact h)
   omega
  ·exact h
 obtain ⟨M, rfl⟩ : ∃ M, len = M + (k + 1) := ⟨len - (k + 1), by omega⟩
 have hN1 : n < (2 ^ 32) ^ (M + (k + 1)) := by have := val_lt (2 ^ 32) xs1 c1.lt; rwa [v1, e1] at this
 have hx0 : 0 < xs.getD (k + 1) 0 := by
  have h0 := c2.last (by intro e; subst e; simp at e2)
  rw [List.getLast_eq_getElem] at h0
  rw [getD_lt (by omega)]
  simp only [e2] at h0
  have : xs[k + 1]'(by omega) ≠ 0 := h0
  omega
 have hx1 : xs.getD (k + 1) 0 < 4294967296 := getD_lt_of (by omega) c2.lt (k + 1)
 obtain ⟨s, hs, hsE, hs1, hs2⟩ := shift_spec _ hx0 hx1
 have HSP := Lib.hid (fun ys hy hv => shifted_spec xs ys (k + 1) s hs c2 e2 hs1 hs2 hy hv)
 have V2 := Lib.hid v2
 have HN1 := Lib.hid hN1
 have hc : cmpI n m = 0 ∨ cmpI n m = 1 := by unfold cmpI; split; omega; split <;> simp
 obtain ⟨c, hcc⟩ : ∃ c, cmpI n m = c := ⟨_, rfl⟩
 have HC := Lib.hid hcc
 rw [hcc] at hc
 have hc0 : ¬ (c < 0) := by omega
 have R2 := Lib.hid r2
 obtain ⟨x, hx⟩ : ∃ x, xs.getD (k + 1) 0 = x := ⟨_, rfl⟩
 have HX := Lib.hid hx
 rw [hx] at hx0 hx1 hsE
 have E2 := Lib.hid e2
 have SE := Lib.hid hsE
 clear hcc hc c1 c2 v1 v2 e1 e2 r1 r2 hN1 hs1 hs2 hx hsE
 unfold maxLen at m1 m2
 go_enter Tryz.func188, Tryz.ntmps188
 go_wp2_with fail
 refine (compare_any _ _ _ _ _ _ n m _ H1.out H2.out).mono ?_
 rw [HC.out]
 rintro e w1 ⟨rfl, hb1⟩
 have r2' := R2.out.below hb1
 obtain ⟨b, off, rfl, hbb, hcell⟩ := r2'.u (k := k + 1) (by rw [E2.out]; omega)
 rw [HX.out] at hcell
 have H1' := Lib.hid (H1.out.below hb1)
 have H2' := Lib.hid (H2.out.below hb1)
 clear r2'
 go_wp2_with fail
 refine (Tryz.bits_LeadingZeros32 _ _ (by omega) (by omega)).mono ?_
 rintro e w' ⟨rfl, rfl⟩
 rw [show ((x : Int)).toNat = x from by simp, SE.out]
 go_wp2_with fail
 refine (up_any A (M + (k + 1)) cap n _ s _ rfl H1'.out (by omega) hs).mono ?_
 rintro e w2 ⟨Ga, zs, rfl, hGa, hbka, hzl, hzd, hzv, hb2⟩
 have H2'' := Lib.hid (H2'.out.below hb2)
 have HZ := Lib.hid (And.intro hbka (And.intro hzl (And.intro hzd hzv)))
 have hGa2 := hbka.lt
 clear hbka hzl hzd hzv
 go_wp2_with fail
 refine (up_any _ (k + 2) cap' m _ s _ rfl H2''.out (by omega) hs).mono ?_
 rintro e w3 ⟨Gb, ys, rfl, hGb, hbkb, hyl, hyd, hyv, hb3⟩
 have hGab : Ga ≠ Gb := by omega
 have hGb3 := hbkb.lt
 have HZ3 := Lib.hid (HZ.out.1.below hb3 hGa2)
 have hyd' := canon_trimD (2 ^ 32) ys hyd
 have hsp := HSP.out (trimD ys) hyd' (by rw [val_trimD, hyv, V2.out])
 obtain ⟨hyl2, hy0, hy1⟩ := hsp
 have htl : trimLen ys (k + 2 + 1) = k + 2 := by rw [← hyl, ← trimD_length, hyl2]
 have HYV : Hid (val (2 ^ 32) (trimD ys) = m * 2 ^ s) := by show _ = _; rw [val_trimD, hyv]
 have hyrd : Rd w3 (some ⟨Gb, 0, none⟩) (U (trimD ys)) := by
  unfold trimD
  rw [← U_take]
  exact hbkb.rd.take _
 have HT := Lib.hid (trim_any (some ⟨Gb, 0, none⟩) (k + 2 + 1) (k + 2 + 1) ys w3 hyl (Nat.le_refl _) (by unfold maxLen; omega) hbkb.rd)
 rw [htl] at HT
 have HYR := Lib.hid hyrd
 have HYC := Lib.hid hyd'
 have HYL := Lib.hid hyl2
 have HY1 := Lib.hid hy1
 clear hyl hyd hyv hbkb hyrd hyd' hyl2 htl hy1
 generalize trimD ys = ys at *
 go_wp2_with fail
 refine HT.out.mono ?_
 rintro e w' ⟨rfl, rfl⟩
 go_wp2_with (at_make; refine wpList_make_blk _ rfl _ _ 165 rfl 156 (.int .u32 0) 4 Tryz.underlying165 info_u32 rfl _ _ _ _ M rfl rfl ?_ ?_ (by omega) (by omega) ?_)
 ·omega
 ·omega
 intro w4 hbq hb4
 obtain ⟨Gq, hGq⟩ : ∃ Gq, w3.heap.size = Gq := ⟨_, rfl⟩
 have HGq := Lib.hid hGq
 rw [hGq] at hbq hb4 ⊢
 have hGaq : Ga ≠ Gq := by have := HZ3.out.lt; omega
 have hGbq : Gb ≠ Gq := by omega
 have hBel : Below w.heap.size w w4 := ((hb1.trans (hb2.mono hb1.size)).trans (hb3.mono (Nat.le_trans hb1.size hb2.size))).trans (hb4.mono (by have := hb1.size; have := hb2.size; have := hb3.size; omega))
 have hwGa : w.heap.size ≤ Ga := Nat.le_trans hb1.size hGa
 have hwGb : w.heap.size ≤ Gb := by have := hb1.size; have := hb2.size; omega
 have hwGq : w.heap.size ≤ Gq := by omega
 have hza : Hid (Blk w4 Ga 156 (U zs)) := HZ3.out.below hb4 (by omega)
 have hyr : Hid (Rd w4 (some ⟨Gb, 0, none⟩) (U ys)) := HYR.out.keep (by rw [hGq]; have := hb4.size; omega) (fun p hp => hb4.cell (by omega))
 have HQ := Lib.hid hbq
 obtain ⟨_, hzl, hzd, hzv⟩ := HZ.out
 have hst := Lib.hid (start_lt n (m * 2 ^ s) s (M + (k + 1)) (k + 1) _ ys HN1.out HYL.out HYV.out.symm rfl HY1.out (by omega))
 have HZL := Lib.hid hzl; have HZD := Lib.hid hzd; have HZV := Lib.hid hzv
 have HY0 := Lib.hid hy0
 clear hbq hGq HZ HSP HT hb1 hb2 hb3 hb4 HZ3 HYR hcell H1 H1' H2 H2' H2'' R2 hbb HX HN1 SE E2 V2 hx0 hx1 hGa hGb hGa2 hGb3 m1 m2 l1 l2 hzl hzd hzv HY1 hy0
 go_wp2
 go_loopw [12] (fun iv wr => ∃ (t : Nat) (zs qs : List Nat), t ≤ M ∧ iv = .int .i64 ((t : Int) - 1) ∧ Blk wr Ga 156 (U zs) ∧ Hid (zs.length = M + (k + 1) + 1) ∧ Hid (∀ x ∈ zs, x < 2 ^ 32) ∧
   Blk wr Gq 156 (U (List.replicate t 0 ++ qs)) ∧ Hid (qs.length = M - t) ∧ Hid (∀ x ∈ qs, x < 2 ^ 32) ∧ Hid (n * 2 ^ s = val (2 ^ 32) qs * val (2 ^ 32) ys * (2 ^ 32) ^ t + val (2 ^ 32) zs) ∧
   Hid (val (2 ^ 32) zs < val (2 ^ 32) ys * (2 ^ 32) ^ t) ∧ Rd wr (some ⟨Gb, 0, none⟩) (U ys) ∧ Below w.heap.size w wr) (fun i _ => (intOf i + 1).toNat)
 case atStart =>
  refine ⟨M, zs, [], by omega, by go_num, hza.out, HZL.out, HZD.out, by have := HQ.out; simpa [U] using this, by show _ = _; simp, by show ∀ x ∈ _, _; simp, ?_, ?_, hyr.out, hBel⟩
  ·show _ = _; rw [HZV.out]; simp [val]
  ·show _ < _
   have := hst.out
   rw [show M + (k + 1) + 1 - (k + 1 + 1) = M from by omega] at this
   rw [HZV.out, HYV.out]; exact this
 case round =>
  clear hza HQ hBel HZL HZD HZV hst
  obtain ⟨t, zs, qs, ht, rfl, hbz, hzl, hzd, hbq, hql, hqd, hN, hR, hyr, hbw⟩ := hrel
  by_cases ht0 : 0 < t
  ·obtain ⟨j, rfl⟩ : ∃ j, t = j + 1 := ⟨t - 1, by omega⟩
   have hcz : ∀ i, i < M + (k + 1) + 1 → wr.cell? ⟨Ga, i, none⟩ = some (.int .u32 ((zs.getD i 0 : Nat) : Int)) := by
    intro i hi
    rw [hbz.cell (by rw [U_length, hzl.out]; exact hi), U_get]
   have c0 := hcz (j + (k + 2)) (by omega)
   have c1 := hcz (j + (k + 1)) (by omega)
   have c2 := hcz (j + k) (by omega)
   obtain ⟨_, _, hA, _, d0⟩ := hyr.u (k := k + 1) (by rw [HYL.out]; omega)
   injection hA with hA; injection hA with hA1 hA2; subst hA1 hA2
   obtain ⟨_, _, hA, _, d1⟩ := hyr.u (k := k) (by rw [HYL.out]; omega)
   injection hA with hA; injection hA with hA1 hA2; subst hA1 hA2
   simp only [Nat.zero_add] at d0 d1
   have RB := Lib.hid (round_before zs ys j k hzd.out HYC.out.lt HYL.out (by rw [hzl.out]; omega) (by have := HY0.out; omega) hR.out)
   rw [show j + k + 2 = j + (k + 2) from rfl, show j + k + 1 = j + (k + 1) from rfl] at RB
   have g1 : zs.getD (j + (k + 1)) 0 < 4294967296 := getD_lt_of (by omega) hzd.out _
   have g2 : zs.getD (j + k) 0 < 4294967296 := getD_lt_of (by omega) hzd.out _
   have g3 : ys.getD (k + 1) 0 < 4294967296 := getD_lt_of (by omega) HYC.out.lt _
   have g4 : ys.getD k 0 < 4294967296 := getD_lt_of (by omega) HYC.out.lt _
   have g5 : 0 < ys.getD (k + 1) 0 := by have := HY0.out; omega
   generalize zs.getD (j + (k + 2)) 0 = z0 at *
   generalize zs.getD (j + (k + 1)) 0 = z1 at *
   generalize zs.getD (j + k) 0 = z2 at *
   generalize ys.getD (k + 1) 0 = y0 at *
   generalize ys.getD k 0 = y1 at *
   have HB := Lib.hid hbz; have HBQ := Lib.hid hbq; have HYR := Lib.hid hyr
   clear hcz hbz hbq hyr
   have a1 : IntKind.i64.wrap ((j : Int) + ((k : Int) + 2)) = (j : Int) + (k + 2) := IntWalk.i64_in _ (by omega)
   have a2 : IntKind.i64.wrap ((j : Int) + ((k : Int) + 2) - 1) = (j : Int) + (k + 1) := by rw [IntWalk.i64_in _ (by omega)]; omega
   have a3 : IntKind.i64.wrap ((j : Int) + ((k : Int) + 2) - 2) = (j : Int) + k := by rw [IntWalk.i64_in _ (by omega)]; omega
   have b1 : IntKind.i64.wrap ((k : Int) + 2 - 1) = (k : Int) + 1 := by rw [IntWalk.i64_in _ (by omega)]; omega
   have b2 : IntKind.i64.wrap (k : Int) = k := IntWalk.i64_in _ (by omega)
   have n1 : ((j : Int) + (k + 2)).toNat = j + (k + 2) := by omega
   have n2 : ((j : Int) + (k + 1)).toNat = j + (k + 1) := by omega
   have n3 : ((j : Int) + k).toNat = j + k := by omega
   have n4 : ((k : Int) + 1).toNat = k + 1 := by omega
   have q1 : (0 : Int) ≤ (j : Int) + (k + 2) := by omega
   have q2 : (0 : Int) ≤ (j : Int) + (k + 1) := by omega
   have q3 : (0 : Int) ≤ (j : Int) + k := by omega
   have q4 : (0 : Int) ≤ (k : Int) + 1 := by omega
   have q5 : (k : Int) < (k : Int) + 2 := by omega
   have l1 : (j : Int) + (k + 2) < (M : Int) + (k + 1) + 1 := by omega
   have l2 : (j : Int) + (k + 1) < (M : Int) + (k + 1) + 1 := by omega
   have l3 : (j : Int) + k < (M : Int) + (k + 1) + 1 := by omega
   go_wp2_with fail
   refine wp_region_still_tail 32 (by kernel_rfl) (by kernel_rfl) ?_
   simp only [List.take_succ_cons, List.take_zero, List.drop_succ_cons, List.drop_zero]
   repeat still_step
   refine wpStill_nil ?_
   change wpList _ _ _ _ _ wr.drew
   go_wp2_with fail
   clear a1 a2 a3 b1 b2 n1 n2 n3 n4 q1 q2 q3 q4 q5 l1 l2 l3 c0 c1 c2 d0 d1
   refine (estimate_any z0 z1 z2 y0 y1 0 _ RB.out.1 g1 g2 g5 g3 g4).mono ?_
   rintro e w5 ⟨rfl, hb5⟩
   obtain ⟨Q, hQ⟩ : ∃ Q, qhat z0 z1 z2 y0 y1 = Q := ⟨_, rfl⟩
   have hQ1 : Q < 4294967296 := by rw [← hQ]; exact qhat_lt _ _ _ _ _
   have RB2 := Lib.hid RB.out.2
   rw [hQ] at RB2 ⊢
   clear hQ RB g1 g2 g3 g4 g5
   have hb5' : Below wr.heap.size wr w5 := ⟨hb5.os, hb5.tape, hb5.output, hb5.size, hb5.block⟩
   have HB5 := Lib.hid (HB.out.below hb5' HB.out.lt)
   have HBQ5 := Lib.hid (HBQ.out.below hb5' HBQ.out.lt)
   have HYR5 := Lib.hid (HYR.out.below hb5')
   have hbw5 := hbw.trans (hb5'.mono hbw.size)
   clear HB HBQ HYR hb5 hb5' hbw
   go_wp2_with fail
   rw [show j + (k + 2) + 1 - j = (k + 2) + 1 from by omega]
   refine (take_any Ga j _ Gb 0 (k + 2) _ Q zs ys w5 HB5.out HYR5.out (Ne.symm hGab) HYL.out (by rw [hzl.out]; omega) (by omega) hzd.out HYC.out.lt hQ1 (by rw [hzl.out]; omega)).mono ?_
   rintro e w6 ⟨zs1, c1, hc1, rfl, hT1, hv1⟩
   have HT1 := Lib.hid hT1; have HV1 := Lib.hid hv1
   have hV0 : 0 < val (2 ^ 32) ys := by
    rcases Nat.eq_zero_or_pos (val (2 ^ 32) ys) with h | h
    ·have := (HYC.out.val_zero (by omega)).1 h
     have := HYL.out
     simp_all
    ·exact h
   have hz1l : val (2 ^ 32) (seg zs1 j (k + 2 + 1)) < (2 ^ 32) ^ (k + 2 + 1) := by
    have := val_lt (2 ^ 32) (seg zs1 j (k + 2 + 1)) (seg_mem hT1.lt)
    rwa [seg_length _ _ _ (by rw [hT1.len, hzl.out]; omega)] at this
   have HZ1 := Lib.hid hz1l
   have HV0 := Lib.hid hV0
   have hs6 : w5.heap.size ≤ w6.heap.size := hT1.onl.size
   have HYR6 := Lib.hid (hT1.onl.rd HYR5.out (Ne.symm hGab))
   have HBQ6 := Lib.hid (hT1.onl.blk HBQ5.out (Ne.symm hGaq))
   have hbw6 := hbw5.trans (hT1.onl.below hwGa hbw5.size)
   clear hT1 hv1 hz1l hV0 HYR5 HBQ5 hbw5
   have hc2 : c1 = 0 ∨ c1 = 1 := by omega
   obtain ⟨uq, huq⟩ : ∃ u, w6.cell? ⟨Gq, j, none⟩ = some u := ⟨_, HBQ6.out.cell (by simp [U_length]; omega)⟩
   have hfq := HBQ6.out.frozen j
   rcases hc2 with rfl | rfl
   ·have HRD := Lib.hid (round_fits (val (2 ^ 32) (seg zs j (k + 3))) (val (2 ^ 32) (seg zs1 j (k + 3))) Q (val (2 ^ 32) ys) HV0.out (by have := HV1.out; rw [Nat.zero_mul, Nat.add_zero] at this; exact this) RB2.out.1)
    go_wp2
    go_roundw
    case rel =>
     obtain ⟨hlt2, heq2⟩ := round_after zs zs1 ys j k (val (2 ^ 32) qs) Q (n * 2 ^ s) HT1.out.len hzd.out HYL.out (by rw [hzl.out]; omega) HYC.out.lt HV0.out HT1.out.out hR.out hN.out HRD.out.1 HRD.out.2
     refine ⟨j, zs1, Q :: qs, by omega, by first | rfl | go_num, HT1.out.blk.other hGaq _, by show _ = _; rw [HT1.out.len, hzl.out], HT1.out.lt, ?_, by show _ = _; simp [hql.out]; omega, ?_, heq2, hlt2, ?_, hbw6.setCell hwGq _⟩
     ·rw [← fill_down j 0 qs 0 Q, ← U_set]
      exact HBQ6.out.set j _
     ·show ∀ y ∈ _, _
      intro y hy
      rcases List.mem_cons.1 hy with rfl | hy
      ·exact hQ1
      ·exact hqd.out y hy
     ·exact ((Onl.refl Gq w6).set j _).rd HYR6.out hGbq
    case measure => simp [intOf] <;> omega
   ·clear huq hfq uq
    have hQ0 : 0 < Q := by
     rcases Nat.eq_zero_or_pos Q with h | h
     ·have := HV1.out; have := HZ1.out; subst h; omega
     ·exact h
    go_wp2_with fail
    rw [show j + (k + 2) + 1 - j = (k + 2) + 1 from by omega]
    refine (give_any Ga j _ Gb 0 (k + 2) _ zs1 ys w6 HT1.out.blk HYR6.out (Ne.symm hGab) HYL.out (by rw [HT1.out.len, hzl.out]; omega) (by omega) HT1.out.lt HYC.out.lt (by rw [HT1.out.len, hzl.out]; omega)).mono ?_
    rintro e w7 ⟨zs2, c2, rfl, hT2, hv2⟩
    have HT2 := Lib.hid hT2; have HV2 := Lib.hid hv2
    have hz2l : val (2 ^ 32) (seg zs2 j (k + 2 + 1)) < (2 ^ 32) ^ (k + 2 + 1) := by
     have := val_lt (2 ^ 32) (seg zs2 j (k + 2 + 1)) (seg_mem hT2.lt)
     rwa [seg_length _ _ _ (by rw [hT2.len, HT1.out.len, hzl.out]; omega)] at this
    have hVE : val (2 ^ 32) ys ≤ (2 ^ 32) ^ (k + 2 + 1) := by
     have h1 := val_lt (2 ^ 32) ys HYC.out.lt
     rw [HYL.out] at h1
     have h2 := Nat.pow_le_pow_right (n := 2 ^ 32) (by omega) (show k + 1 + 1 ≤ k + 2 + 1 by omega)
     omega
    have HRD := Lib.hid (round_back (val (2 ^ 32) (seg zs j (k + 3))) (val (2 ^ 32) (seg zs1 j (k + 3))) (val (2 ^ 32) (seg zs2 j (k + 3))) Q (val (2 ^ 32) ys) _ c2 HV0.out hVE HV1.out RB2.out.1 RB2.out.2 HZ1.out hz2l hv2)
    have HYR7 := Lib.hid (hT2.onl.rd HYR6.out (Ne.symm hGab))
    have HBQ7 := Lib.hid (hT2.onl.blk HBQ6.out (Ne.symm hGaq))
    have hbw7 := hbw6.trans (hT2.onl.below hwGa hbw6.size)
    have HOUT : Hid (∀ p, (p < j ∨ j + (k + 2) < p) → zs2.getD p 0 = zs.getD p 0) := fun p hp => (hT2.out p hp).trans (HT1.out.out p hp)
    clear hT2 hv2 hz2l hVE HYR6 HBQ6 hbw6
    obtain ⟨uq, huq⟩ : ∃ u, w7.cell? ⟨Gq, j, none⟩ = some u := ⟨_, HBQ7.out.cell (by simp [U_length]; omega)⟩
    have hfq := HBQ7.out.frozen j
    go_wp2
    go_roundw
    case rel =>
     obtain ⟨_, hd1, hd2⟩ := HRD.out
     obtain ⟨hlt2, heq2⟩ := round_after zs zs2 ys j k (val (2 ^ 32) qs) (Q - 1) (n * 2 ^ s) (by rw [HT2.out.len, HT1.out.len]) hzd.out HYL.out (by rw [hzl.out]; omega) HYC.out.lt HV0.out HOUT.out hR.out hN.out hd1 hd2
     refine ⟨j, zs2, (Q - 1) :: qs, by omega, by first | rfl | go_num, HT2.out.blk.other hGaq _, by show _ = _; rw [HT2.out.len, HT1.out.len, hzl.out], HT2.out.lt, ?_, by show _ = _; simp [hql.out]; omega, ?_, heq2, hlt2, ?_, hbw7.setCell hwGq _⟩
     ·rw [← fill_down j 0 qs 0 (Q - 1), ← U_set, show ((Q - 1 : Nat) : Int) = (Q : Int) - 1 from by omega]
      exact HBQ7.out.set j _
     ·show ∀ y ∈ _, _
      intro y hy
      rcases List.mem_cons.1 hy with rfl | hy
      ·omega
      ·exact hqd.out y hy
     ·exact ((Onl.refl Gq w7).set j _).rd HYR7.out hGbq
    case measure => simp [intOf] <;> omega
  ·obtain rfl : t = 0 := by omega
   have HB := Lib.hid hbz; have HBQ := Lib.hid hbq
   have hql' : (List.replicate 0 0 ++ qs).length = M := by simp [hql.out]
   have HTR := Lib.hid (fun W (hW : ∃ d, W = wr.drewN d) => trim_any (some ⟨Gq, 0, none⟩) M M (List.replicate 0 0 ++ qs) W hql' (Nat.le_refl _) (by unfold maxLen; omega) (by obtain ⟨d, rfl⟩ := hW; exact HBQ.out.rd))
   have hk2 : (k : Int) + 2 ≤ (M : Int) + (k + 1) + 1 := by omega
   have hk3 : (0 : Int) ≤ (k : Int) + 2 := by omega
   have hk4 : ((k : Int) + 2).toNat = k + 2 := by omega
   clear hbz hbq
   go_wp2_with fail
   refine wp_region_still_tail 6 (by kernel_rfl) (by kernel_rfl) ?_
   simp only [List.take_succ_cons, List.take_zero, List.drop_succ_cons, List.drop_zero]
   still_step
   refine wpStill_step (fun K hK => ?_)
   go_simp
   refine ⟨_, (HTR.out wr.drew ⟨1, rfl⟩).mono (fun e w' h => ⟨h.1, h.2.symm⟩), hK _ ?_⟩
   clear hK K
   repeat still_step
   refine wpStill_nil ?_
   change wpList _ _ _ _ _ wr.drew
   clear hk2 hk3 hk4
   go_wp2_with fail
   have hvV : val (2 ^ 32) ys < (2 ^ 32) ^ (k + 2) := by have := val_lt (2 ^ 32) ys HYC.out.lt; rwa [HYL.out] at this
   have hR2 : val (2 ^ 32) zs < m * 2 ^ s := by have := hR.out; rw [HYV.out] at this; simpa using this
   have hN2 : n * 2 ^ s = val (2 ^ 32) qs * (m * 2 ^ s) + val (2 ^ 32) zs := by have := hN.out; rw [HYV.out] at this; simpa using this
   have hS : 0 < 2 ^ s := Nat.pow_pos (by omega)
   have hm0 : 0 < m := by
    rcases Nat.eq_zero_or_pos m with h | h
    ·subst h; omega
    ·exact h
   have hzt : val (2 ^ 32) (zs.take (k + 2)) = val (2 ^ 32) zs := by
    have e := val_split (2 ^ 32) zs (k + 2) (by rw [hzl.out]; omega)
    rcases Nat.eq_zero_or_pos (val (2 ^ 32) (zs.drop (k + 2))) with h | h
    ·rw [h] at e; omega
    ·have := Nat.le_mul_of_pos_right ((2 ^ 32) ^ (k + 2)) h
     rw [HYV.out] at hvV
     omega
   have hmod : val (2 ^ 32) zs / 2 ^ s = n % m := by
    have h1 : n = val (2 ^ 32) qs * m + val (2 ^ 32) zs / 2 ^ s := by
     have h2 : n = (n * 2 ^ s) / 2 ^ s := (Nat.mul_div_cancel _ hS).symm
     rw [hN2, ← Nat.mul_assoc, Nat.add_comm, Nat.add_mul_div_right _ _ hS, Nat.add_comm] at h2
     exact h2
    have h3 : val (2 ^ 32) zs / 2 ^ s < m := (Nat.div_lt_iff_lt_mul hS).2 hR2
    rw [h1, Nat.add_comm, Nat.add_mul_mod_self_right, Nat.mod_eq_of_lt h3]
   have hdiv : val (2 ^ 32) qs = n / m := by
    have h1 : n * 2 ^ s / (m * 2 ^ s) = n / m := Nat.mul_div_mul_right _ _ hS
    rw [hN2, Nat.add_comm, Nat.add_mul_div_right _ _ (by omega), Nat.div_eq_of_lt hR2, Nat.zero_add] at h1
    exact h1
   have hrdz : Rd wr.drew (some ⟨Ga, 0, none⟩) (U (zs.take (k + 2))) := by rw [← U_take]; exact HB.out.rd.take _
   refine (down_any _ (k + 2) _ (zs.take (k + 2)) _ s _ rfl (by simp [hzl.out] <;> omega) hrdz (fun x hx => hzd.out x (List.mem_of_mem_take hx)) (by omega) hs).mono ?_
   rintro e w8 ⟨Ar, lr, cr, rfl, hLr, hb8⟩
   rw [hzt, hmod] at hLr
   have hb8' : Below wr.heap.size wr w8 := ⟨hb8.os, hb8.tape, hb8.output, hb8.size, hb8.block⟩
   have hLq := (Lim.of_trim hql' (Nat.le_refl _) (by unfold maxLen; omega) HBQ.out.rd (by simpa using hqd.out)).below hb8'
   rw [List.replicate_zero, List.nil_append, hdiv] at hLq
   have HLR := Lib.hid hLr; have HLQ := Lib.hid hLq
   have hbw8 := hbw.trans (hb8'.mono hbw.size)
   clear hLr hLq hb8 hb8' hvV hR2 hN2 hzt hmod hdiv hrdz
   go_wp2
   go_ret2
   exact ⟨_, _, _, _, _, _, rfl, HLQ.out, HLR.out, hbw8⟩
theorem divide_any (A A' : Option Addr) (len cap len' cap' n m : Nat) (w : World) (h1 : Lim w A len cap n) (h2 : Lim w A' len' cap' m) (hm : 0 < m) (hb : len ≤ 536870912) :
  Calls Tryz.prog 188 #[.slice A len cap, .slice A' len' cap'] w (RetDiv w n m) := by
 rcases Nat.lt_or_ge n m with h | h
 ·exact divide_less _ _ _ _ _ _ _ _ _ h1 h2 h
 ·rcases len' with _ | _ | k
  ·have := h2.zero.1 rfl; omega
  ·exact divide_one _ _ _ _ _ _ _ _ h1 h2 h (by omega)
  ·exact divide_long _ _ _ _ _ _ _ _ _ h1 h2 h hb
end Go.Proofs.YtbicehdehiakgaaGreatDoor
namespace Go.Proofs.YtbicehdehiakgaaGreatDoor
open Go.RowKit
theorem number_lim (A : Option Addr) (len cap n : Nat) (w : World) (h : Lim w A len cap n) (hl : len ≤ 1099511627776) :
  Calls Tryz.prog 142 #[.slice A len cap] w fun e w' => e = .returned (.string (nbs n)) ∧ Below w.heap.size w w' := by
 obtain ⟨l, m, xs, e, r, c, v⟩ := h
 rw [← v]
 exact number_any A len cap xs w e l hl r c.lt
theorem vbs_le (s : ByteArray) (K : Nat) (h : s.size ≤ K) : vbs s < 256 ^ K := Nat.lt_of_lt_of_le (vbs_lt s) (Nat.pow_le_pow_right (by omega) h)
theorem of_lim (s : ByteArray) (w : World) (hs : s.size ≤ 1073741824) :
  Calls Tryz.prog 144 #[.string s] w fun e w' => ∃ A len cap, e = .returned (.slice A len cap) ∧ Lim w' A len cap (vbs s) ∧ 4 * len ≤ s.size + 3 ∧ Below w.heap.size w w' :=
 (of_any s w (by omega)).mono fun e w' ⟨A, len, cap, h1, h2, h3⟩ => ⟨A, len, cap, h1, h2, h2.len_le (vbs_lt s), h3⟩
theorem add_bound {n m K : Nat} (h1 : n < 256 ^ K) (h2 : m < 256 ^ K) : n + m < 256 ^ (K + 1) := by
 rw [Nat.pow_succ]; omega
def rightS (s : ByteArray) : Bool := match s.data.toList with | [] => true | c :: _ => c != 0
set_option maxHeartbeats 400000 in
theorem natRight_any (s : ByteArray) (w : World) :
  Calls Tryz.prog 146 #[.string s] w fun e w' => e = .returned (.bool (rightS s)) ∧ w = w' := by
 obtain ⟨⟨l⟩⟩ := s
 rcases l with _ | ⟨c, l⟩
 ·go_enter Tryz.func146, Tryz.ntmps146
  go_wp2
  go_ret
  exact ⟨rfl, rfl⟩
 ·have e : rightS ⟨⟨c :: l⟩⟩ = (c != 0) := rfl
  rw [e]
  clear e
  go_enter Tryz.func146, Tryz.ntmps146
  go_wp2
  go_ret
  refine ⟨?_, rfl⟩
  show Ending.returned (.bool ((c.toNat : Int) != 0)) = _
  congr 2
  rw [Bool.eq_iff_iff]
  simp only [bne_iff_ne, ne_eq]
  rw [← UInt8.toNat_inj]
  simp
set_option maxHeartbeats 400000 in
theorem natCmp_any (a b : ByteArray) (w : World) (ha : a.size ≤ 1073741824) (hb : b.size ≤ 1073741824) :
  Calls Tryz.prog 170 #[.string a, .string b] w fun e w' => e = .returned (.int .i64 (cmpI (vbs a) (vbs b))) ∧ Below w.heap.size w w' := by
 go_enter Tryz.func170, Tryz.ntmps170
 go_wp2_with fail
 refine (of_lim a _ ha).mono ?_
 rintro e w1 ⟨A1, l1, c1, rfl, h1, hl1, hb1⟩
 have H1 := Lib.hid h1
 clear h1
 go_wp2_with fail
 refine (of_lim b _ hb).mono ?_
 rintro e w2 ⟨A2, l2, c2, rfl, h2, hl2, hb2⟩
 have H1' := Lib.hid (H1.out.below hb2)
 have H2 := Lib.hid h2
 clear h2
 go_wp2_with fail
 refine (compare_any _ _ _ _ _ _ _ _ _ H1'.out H2.out).mono ?_
 rintro e w3 ⟨rfl, hb3⟩
 go_wp2
 go_ret
 exact ⟨rfl, (hb1.trans (hb2.mono hb1.size)).trans (hb3.mono (Nat.le_trans hb1.size hb2.size))⟩
theorem bstep {w a b : World} (h : Below w.heap.size w a) (h' : Below a.heap.size a b) : Below w.heap.size w b := h.trans (h'.mono h.size)
set_option maxHeartbeats 400000 in
theorem natAdd_any (a b : ByteArray) (w : World) (ha : a.size ≤ 1073741824) (hb : b.size ≤ 1073741824) :
  Calls Tryz.prog 110 #[.string a, .string b] w fun e w' => e = .returned (.string (nbs (vbs a + vbs b))) ∧ Below w.heap.size w w' := by
 go_enter Tryz.func110, Tryz.ntmps110
 go_wp2_with fail
 refine (of_lim a _ ha).mono ?_
 rintro e w1 ⟨A1, l1, c1, rfl, h1, hl1, hb1⟩
 have H1 := Lib.hid h1
 clear h1
 go_wp2_with fail
 refine (of_lim b _ hb).mono ?_
 rintro e w2 ⟨A2, l2, c2, rfl, h2, hl2, hb2⟩
 have H1' := Lib.hid (H1.out.below hb2)
 have H2 := Lib.hid h2
 clear h2
 go_wp2_with fail
 refine (sum_any _ _ _ _ _ _ _ _ _ H1'.out H2.out (by omega) (by omega)).mono ?_
 rintro e w3 ⟨A3, l3, c3, rfl, h3, hb3⟩
 have hl3 : 4 * l3 ≤ max a.size b.size + 1 + 3 := h3.len_le (add_bound (vbs_le a _ (Nat.le_max_left _ _)) (vbs_le b _ (Nat.le_max_right _ _)))
 have H3 := Lib.hid h3
 clear h3
 go_wp2_with fail
 refine (number_lim _ _ _ _ _ H3.out (by omega)).mono ?_
 rintro e w4 ⟨rfl, hb4⟩
 go_wp2
 go_ret
 exact ⟨rfl, bstep (bstep (bstep hb1 hb2) hb3) hb4⟩
theorem two_digits (n : Nat) (h : n < 18446744073709551616) : val (2 ^ 32) [n % 4294967296, n / 4294967296] = n := by
 simp only [val]; omega
set_option maxHeartbeats 400000 in
theorem natOf_any (n : Int) (w : World) (h0 : -9223372036854775808 ≤ n) (h1 : n ≤ 9223372036854775807) :
  Calls Tryz.prog 111 #[.int .i64 n] w fun e w' => e = .returned (.string (nbs n.toNat)) ∧ Below w.heap.size w w' := by
 by_cases hn : n ≤ 0
 ·have e : n.toNat = 0 := by omega
  rw [e]
  go_enter Tryz.func111, Tryz.ntmps111
  go_wp2
  go_ret
  exact ⟨rfl, Below.refl _ _⟩
 ·obtain ⟨m, rfl⟩ := Int.eq_ofNat_of_zero_le (show 0 ≤ n by omega)
  rw [Int.toNat_natCast]
  have hand : bits BinOp.and .i64 (m : Int) 4294967295 = ((m % 4294967296 : Nat) : Int) := by
   have h := Nat.and_two_pow_sub_one_eq_mod m 32
   rw [show (2 : Nat) ^ 32 - 1 = 4294967295 from rfl] at h
   rw [← h]
   have hx : m &&& 4294967295 < 2 ^ 63 := Nat.and_lt_two_pow _ (by omega)
   show IntKind.i64.wrap ((BitVec.ofInt 64 (m : Int) &&& BitVec.ofInt 64 ((4294967295 : Nat) : Int)).toNat : Int) = _
   have ob : ∀ a : Nat, a < 9223372036854775808 → (BitVec.ofInt 64 (a : Int)).toNat = a := fun a ha => by
    rw [BitVec.ofInt_natCast, BitVec.toNat_ofNat]; exact Nat.mod_eq_of_lt (by omega)
   rw [BitVec.toNat_and, ob m (by omega), ob 4294967295 (by omega), IntKind.wrap_i64]
   omega
  obtain ⟨lo, hlo⟩ : ∃ lo, m % 4294967296 = lo := ⟨_, rfl⟩
  obtain ⟨hi, hhi⟩ : ∃ hi, m / 4294967296 = hi := ⟨_, rfl⟩
  have hv := Lib.hid (two_digits m (by omega))
  rw [hlo, hhi] at hv
  rw [hlo] at hand
  have hlo1 : lo < 4294967296 := by omega
  have hhi1 : hi < 4294967296 := by omega
  have HLO := Lib.hid hlo; have HHI := Lib.hid hhi
  have hdi : (m : Int) / 4294967296 = (hi : Int) := by rw [← hhi]; simp
  clear hlo hhi
  go_enter Tryz.func111, Tryz.ntmps111
  go_wp2_with fail
  have hB := Blk.new w 156 #[.int .u32 (lo : Int), .int .u32 (hi : Int)]
  refine (number_any _ 2 2 [lo, hi] _ rfl (by omega) (by omega) hB.rd (by
   intro x hx
   simp at hx
   omega)).mono ?_
  rintro e w1 ⟨rfl, hb⟩
  rw [hv.out]
  go_wp2
  go_ret
  exact ⟨rfl, bstep ((Below.refl _ _).alloc (Nat.le_refl _) _) hb⟩
def bitsN (n : Nat) : Nat := if n = 0 then 0 else n.log2 + 1
theorem bitsN_eq (n L : Nat) (h1 : 2 ^ L ≤ n) (h2 : n < 2 ^ (L + 1)) : bitsN n = L + 1 := by
 have h0 : n ≠ 0 := by have := Nat.pow_pos (n := L) (show 0 < 2 by omega); omega
 unfold bitsN
 rw [if_neg h0]
 have h3 := (Nat.le_log2 h0).2 h1
 have h4 := (Nat.log2_lt h0).2 h2
 omega
theorem bits_limbs (xs : List Nat) (k : Nat) (hx : ∀ x ∈ xs, x < 2 ^ 32) (hl : xs.length = k + 1) (h0 : 0 < xs.getD k 0) :
  bitsN (val (2 ^ 32) xs) = 32 * k + Lib.bitLen (xs.getD k 0) := by
 have hx1 : xs.getD k 0 < 2 ^ 32 := getD_lt_of (by omega) hx k
 obtain ⟨b1, b2, b3⟩ := bitLen_spec (xs.getD k 0) (by omega) (by omega)
 have e : val (2 ^ 32) xs = val (2 ^ 32) (xs.take k) + (2 ^ 32) ^ k * xs.getD k 0 := by
  rw [← val_take_getD, List.take_of_length_le (by omega)]
 have hlo : val (2 ^ 32) (xs.take k) < (2 ^ 32) ^ k := by
  have := val_lt (2 ^ 32) (xs.take k) (fun x hx' => hx x (List.mem_of_mem_take hx'))
  rwa [List.length_take_of_le (by omega)] at this
 generalize xs.getD k 0 = x at *
 generalize Lib.bitLen x = L at *
 have ep : (2 ^ 32) ^ k = 2 ^ (32 * k) := by rw [← Nat.pow_mul]
 rw [ep] at e hlo
 have := bitsN_eq (val (2 ^ 32) xs) (32 * k + (L - 1)) (by
  rw [e, Nat.pow_add]
  have := Nat.mul_le_mul_left (2 ^ (32 * k)) b2
  omega) (by
  rw [e, show 32 * k + (L - 1) + 1 = 32 * k + L from by omega, Nat.pow_add]
  have := Nat.mul_le_mul_left (2 ^ (32 * k)) (show x + 1 ≤ 2 ^ L from b3)
  rw [Nat.mul_add] at this
  omega)
 omega
set_option maxHeartbeats 400000 in
theorem natBits_any (a : ByteArray) (w : World) (ha : a.size ≤ 1073741824) :
  Calls Tryz.prog 113 #[.string a] w fun e w' => e = .returned (.int .i64 (bitsN (vbs a) : Nat)) ∧ Below w.heap.size w w' := by
 go_enter Tryz.func113, Tryz.ntmps113
 go_wp2_with fail
 refine (of_lim a _ ha).mono ?_
 rintro e w1 ⟨A1, l1, c1, rfl, h1, hl1, hb1⟩
 have hz := h1.zero
 obtain ⟨le1, m1, xs, e1, r1, k1, v1⟩ := h1
 rcases l1 with _ | k
 ·have h0 : vbs a = 0 := hz.1 rfl
  have H0 := Lib.hid h0
  clear hz h0 e1 v1
  go_wp2
  go_ret
  exact ⟨by rw [H0.out]; rfl, hb1⟩
 ·have hx0 : 0 < xs.getD k 0 := by
   have h0 := k1.last (by intro e; subst e; simp at e1)
   rw [List.getLast_eq_getElem] at h0
   rw [getD_lt (by omega)]
   simp only [e1] at h0
   have : xs[k]'(by omega) ≠ 0 := h0
   omega
  have HB := Lib.hid (bits_limbs xs k k1.lt e1 hx0)
  have hx1 : xs.getD k 0 < 4294967296 := getD_lt_of (by omega) k1.lt k
  obtain ⟨b, off, rfl, hbb, hcell⟩ := r1.u (k := k) (by omega)
  rw [v1] at HB
  have hbl := bitLen_spec (xs.getD k 0) (by omega) (by omega)
  generalize xs.getD k 0 = x at *
  have hL : Lib.bitLen x ≤ 32 := by
   rcases Nat.lt_or_ge 32 (Lib.bitLen x) with h | h
   ·have := Nat.pow_le_pow_right (n := 2) (by omega) (show 32 ≤ Lib.bitLen x - 1 by omega)
    omega
   ·exact h
  have R1 := Lib.hid r1
  clear hz e1 v1 r1 k1 hbl
  unfold maxLen at m1
  go_wp2_with fail
  refine (Tryz.bits_Len32 _ _ (by omega) (by omega)).mono ?_
  rintro e w' ⟨rfl, rfl⟩
  rw [show ((x : Int)).toNat = x from by simp]
  go_wp2
  go_ret
  exact ⟨by rw [HB.out]; simp, hb1⟩
def RetQuo (a b : Nat) (w : World) (e : Ending) (w' : World) : Prop :=
 e = .returned (.tuple #[.string (if b = 0 then nbs 0 else nbs (a / b)), .string (if b = 0 then nbs 0 else nbs (a % b)), .bool (b != 0)]) ∧ Below w.heap.size w w'
set_option maxHeartbeats 800000 in
theorem natQuo_any (a b : ByteArray) (w : World) (ha : a.size ≤ 536870912) (hb : b.size ≤ 536870912) :
  Calls Tryz.prog 172 #[.string a, .string b] w (RetQuo (vbs a) (vbs b) w) := by
 go_enter Tryz.func172, Tryz.ntmps172
 go_wp2_with fail
 refine (of_lim b _ (by omega)).mono ?_
 rintro e w1 ⟨A1, l1, c1, rfl, h1, hl1, hb1⟩
 have H1 := Lib.hid h1
 have hz := h1.zero
 clear h1
 have hnv : vbs a < 256 ^ a.size := vbs_lt a
 generalize vbs b = m at *
 by_cases h0 : l1 = 0
 ·have hm : m = 0 := hz.1 h0
  subst h0 hm
  clear hz hnv
  go_wp2
  refine bodyPost_ret (results_tmp3 rfl _ _ _) rfl ?_
  exact ⟨rfl, hb1⟩
 ·have hm : 0 < m := by
   rcases Nat.eq_zero_or_pos m with h | h
   ·exact absurd (hz.2 h) h0
   ·exact h
  have HNV := Lib.hid hnv
  clear hz hnv
  go_wp2_with fail
  refine (of_lim a _ (by omega)).mono ?_
  rintro e w2 ⟨A2, l2, c2, rfl, h2, hl2, hb2⟩
  have H1' := Lib.hid (H1.out.below hb2)
  have H2 := Lib.hid h2
  clear h2
  go_wp2_with fail
  refine (divide_any _ _ _ _ _ _ _ _ _ H2.out H1'.out hm (by omega)).mono ?_
  rintro e w3 ⟨A3, l3, c3, A4, l4, c4, rfl, h3, h4, hb3⟩
  have hl3 := h3.len_le (Nat.lt_of_le_of_lt (Nat.div_le_self _ _) HNV.out)
  have hl4 := h4.len_le (Nat.lt_of_le_of_lt (Nat.mod_le _ _) HNV.out)
  have H3 := Lib.hid h3; have H4 := Lib.hid h4
  clear h3 h4
  go_wp2_with fail
  refine (number_lim _ _ _ _ _ H3.out (by omega)).mono ?_
  rintro e w4 ⟨rfl, hb4⟩
  go_wp2_with fail
  refine (number_lim _ _ _ _ _ (H4.out.below hb4) (by omega)).mono ?_
  rintro e w5 ⟨rfl, hb5⟩
  go_wp2
  refine bodyPost_ret (results_tmp3 rfl _ _ _) rfl ?_
  refine ⟨?_, bstep (bstep (bstep (bstep hb1 hb2) hb3) hb4) hb5⟩
  have hm' : m ≠ 0 := by omega
  simp [hm']
end Go.Proofs.YtbicehdehiakgaaGreatDoor
