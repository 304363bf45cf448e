/- A part of the proof: Go Gp. -/
import Derived.Test.YtbicehdehiakgaaGreatDoorC30
import Derived.Test.YtbicehdehiakgaaGreatDoorC34
import Derived.Test.YtbicehdehiakgaaGreatDoorT01
set_option linter.unusedVariables false
set_option linter.unusedSimpArgs false
namespace Go.Proofs.YtbicehdehiakgaaGreatDoor
open Go.RowKit
theorem okR_low (neg : Bool) (n d : Nat) (hd : 0 < d) : okR (low neg n d) = true := by
  have hg : 0 < Nat.gcd n d := Nat.gcd_pos_of_pos_right _ hd
  have h1 : rightS (nbs (n / Nat.gcd n d)) = true := (rightS_iff _).2 (by rw [vbs_nbs])
  have h2 : rightS (nbs (d / Nat.gcd n d)) = true := (rightS_iff _).2 (by rw [vbs_nbs])
  have h3 : 0 < d / Nat.gcd n d := Nat.div_pos (Nat.le_of_dvd hd (Nat.gcd_dvd_right n d)) hg
  have h4 : Nat.gcd (n / Nat.gcd n d) (d / Nat.gcd n d) = 1 := Nat.coprime_div_gcd_div_gcd hg
  have h5 : (n / Nat.gcd n d ≠ 0) ↔ n ≠ 0 := by
    constructor
    · rintro h rfl; exact h (by simp)
    · intro h
      have := Nat.div_pos (Nat.le_of_dvd (by omega) (Nat.gcd_dvd_left n d)) hg
      omega
  have h6 : low (neg && decide (n ≠ 0)) (n / Nat.gcd n d) (d / Nat.gcd n d) = low neg n d := by
    have h7 : decide (n / Nat.gcd n d ≠ 0) = decide (n ≠ 0) := by rw [decide_eq_decide]; exact h5
    unfold low
    rw [h4, Nat.div_one, Nat.div_one, h7]
    cases neg <;> simp
  unfold okR
  show (rightS (nbs (d / Nat.gcd n d)) && decide (0 < vbs (nbs (d / Nat.gcd n d))) && rightS (nbs (n / Nat.gcd n d)) && decide (low (neg && decide (n ≠ 0)) (vbs (nbs (n / Nat.gcd n d))) (vbs (nbs (d / Nat.gcd n d))) = low neg n d)) = true
  rw [h1, h2, vbs_nbs, vbs_nbs, h6, decide_eq_true h3, decide_eq_true rfl]; rfl
theorem bits_le (m : Nat) (h : m < 2 ^ 400) : bitsN m ≤ 400 := by
  unfold bitsN
  split
  · omega
  · next h0 =>
    have := (Nat.log2_lt h0).2 h
    omega
theorem fits_low (neg : Bool) (n d : Nat) (hd : 0 < d) (hn : n < 256 ^ 16) (hd2 : d < 256 ^ 16) : fitsR (low neg n d) = true := by
  have hk : (256 : Nat) ^ 16 ≤ 2 ^ 400 := by decide +kernel
  unfold fitsR
  rw [okR_low neg n d hd]
  have e1 : vbs (low neg n d).num = n / Nat.gcd n d := vbs_nbs _
  have e2 : vbs (low neg n d).den = d / Nat.gcd n d := vbs_nbs _
  rw [e1, e2, decide_eq_true (bits_le _ (Nat.lt_of_le_of_lt (Nat.div_le_self _ _) (Nat.lt_of_lt_of_le hn hk))), decide_eq_true (bits_le _ (Nat.lt_of_le_of_lt (Nat.div_le_self _ _) (Nat.lt_of_lt_of_le hd2 hk)))]
  rfl
theorem fits_made (x y z : Int) : fitsR (madeR x y z) = true := by
  obtain ⟨h1, h2, h3⟩ := madeN_lt x y z
  exact fits_low _ _ _ h3 h1 h2
theorem stepR_all : ∀ b : Bool, ∀ i, i < 7 → ∀ j, j < 7 → (let m := low b i (1 + j); let a := if m.neg then negR m else m; let r := if signR a = 0 then centR else a; fitsR r && decide (0 < signR r)) = true := by decide +kernel
theorem stepR_fits (x y : Int) : fitsR (stepR x y 3) = true ∧ 0 < signR (stepR x y 3) := by
  have h1 : (madeN x y 3) = ((x % 7).toNat, (1 + y % 7).toNat) := rfl
  obtain ⟨a0, a1⟩ := mod_in x 7 (by omega)
  obtain ⟨b0, b1⟩ := mod_in y 7 (by omega)
  have h := stepR_all (decide (x < 0)) (x % 7).toNat (by omega) (y % 7).toNat (by omega)
  have e : 1 + (y % 7).toNat = (1 + y % 7).toNat := by omega
  rw [e] at h
  have h2 : (fitsR (stepR x y 3) && decide (0 < signR (stepR x y 3))) = true := h
  simpa using h2
theorem pool_name (k : Int) : nameB (poolS k).data.toList = true := by
  have h : ∀ i, i < 6 → nameB (pool.getD i []) = true := by decide +kernel
  obtain ⟨a0, a1⟩ := mod_in k 6 (by omega)
  exact h _ (by omega)
theorem leaf_ok (n : Int) : wrongN (leafN n) = 0 ∧ (shp (leafN n).op).ops = 0 := by
  obtain ⟨z0, z1⟩ := mod_in n 8 (by omega)
  have hop : (leafN n).op = 1 + n % 8 := by unfold leafN; split <;> rfl
  have hs : ∀ k : Nat, k < 8 → (shp (1 + (k : Int))).ops = 0 ∧ (shp (1 + (k : Int))).stp = false ∧ ((shp (1 + (k : Int))).nam = true → (shp (1 + (k : Int))).lit = false) ∧ ((shp (1 + (k : Int))).nam = false → (shp (1 + (k : Int))).lit = true) := by decide
  obtain ⟨k, hk⟩ : ∃ k : Nat, n % 8 = k := ⟨(n % 8).toNat, by omega⟩
  have hk8 : k < 8 := by omega
  obtain ⟨s1, s2, s3, s4⟩ := hs k hk8
  refine ⟨?_, by rw [hop, hk]; exact s1⟩
  unfold leafN
  rw [hk]
  split
  · next h =>
    have h4 : ¬ (1 + (k : Int) = 4) := by rintro h4; rw [h4] at h; exact absurd h (by decide)
    unfold wrongN numOk
    simp only
    rw [s3 h, s2, h, if_neg h4]
    have hp := pool_name (n.tdiv 8)
    rw [if_neg, hp]
    · simp
    · simp; omega
  · next h =>
    have h : (shp (1 + (k : Int))).nam = false := by simpa using h
    unfold wrongN numOk
    simp only
    rw [s4 h, s2, h]
    have hnum : (if 1 + (k : Int) = 4 then decide ((if 1 + (k : Int) = 4 then ofI ((n.tdiv 8) % 2) else madeR (n.tdiv 8) (n.tdiv 24) (3 * (n.tdiv 8).tmod 2)) = ofI 0) || decide ((if 1 + (k : Int) = 4 then ofI ((n.tdiv 8) % 2) else madeR (n.tdiv 8) (n.tdiv 24) (3 * (n.tdiv 8).tmod 2)) = ofI 1) else fitsR (if 1 + (k : Int) = 4 then ofI ((n.tdiv 8) % 2) else madeR (n.tdiv 8) (n.tdiv 24) (3 * (n.tdiv 8).tmod 2))) = true := by
      by_cases h4 : 1 + (k : Int) = 4
      · simp only [if_pos h4]
        obtain ⟨p0, p1⟩ := mod_in (n.tdiv 8) 2 (by omega)
        have : (n.tdiv 8) % 2 = 0 ∨ (n.tdiv 8) % 2 = 1 := by omega
        rcases this with h | h <;> rw [h] <;> decide +kernel
      · simp only [if_neg h4]
        exact fits_made _ _ _
    rw [if_neg]
    · simp
    · simp only [if_true, hnum]
      simp; omega
theorem node_ok (n : Int) (ho : (shp (1 + n % 24)).ops ≠ 0) : wrongN (nodeN n) = 0 := by
  obtain ⟨z0, z1⟩ := mod_in n 24 (by omega)
  have hs : ∀ k : Nat, k < 24 → (shp (1 + (k : Int))).ops ≠ 0 → ¬ (1 + (k : Int) = 4) ∧ (shp (1 + (k : Int))).lit = false ∧ ((shp (1 + (k : Int))).nam = true → (shp (1 + (k : Int))).stp = false) := by decide
  obtain ⟨k, hk⟩ : ∃ k : Nat, n % 24 = k := ⟨(n % 24).toNat, by omega⟩
  rw [hk] at ho
  obtain ⟨s1, s2, s3⟩ := hs k (by omega) ho
  unfold nodeN
  rw [hk]
  unfold wrongN numOk
  simp only
  rw [s2, if_neg s1]
  obtain ⟨t1, t2⟩ := stepR_fits (n.tdiv 24) (n.tdiv 48)
  have hp := pool_name (n.tdiv 24)
  cases hn : (shp (1 + (k : Int))).nam
  · cases hst : (shp (1 + (k : Int))).stp
    · rw [if_neg]
      · simp
      · simp; omega
    · rw [if_neg]
      · simp
      · simp [t1, t2]; omega
  · rw [s3 hn]
    rw [if_neg]
    · simp [hp]
    · simp; omega
def Dep (es : List Nd) (d : Nat) : Prop := ∀ r, chk (es ++ r) 0 = chk r d
theorem Dep.snoc {es : List Nd} {d : Nat} {n : Nd} (h : Dep es d) (hn : wrongN n = 0) (ho : (shp n.op).ops ≤ d) : Dep (es ++ [n]) (d - (shp n.op).ops + 1) := by
  intro r
  rw [List.append_assoc, h]
  show chk (n :: r) d = _
  rw [chk, if_neg (by simp [hn]), if_neg (by omega)]
theorem madeS_dep {s : List Nd × Nat} (h : Dep s.1 s.2) (n : Int) : Dep (madeS s n).1 (madeS s n).2 := by
  unfold madeS
  split
  · obtain ⟨h1, h2⟩ := leaf_ok (n.tdiv 24)
    have := h.snoc h1 (by rw [h2]; omega)
    rw [h2] at this; exact this
  · next hc =>
    have ho : (shp (1 + n % 24)).ops ≠ 0 := fun e => hc (.inl e)
    exact h.snoc (n := nodeN n) (node_ok n ho) (by show (shp (1 + n % 24)).ops ≤ _; omega)
theorem madeP_dep (l : List Int) : Dep (madeP l).1 (madeP l).2 := by
  have h : ∀ (l : List Int) (s : List Nd × Nat), Dep s.1 s.2 → Dep (l.foldl madeS s).1 (l.foldl madeS s).2 := by
    intro l
    induction l with
    | nil => intro s h; exact h
    | cons n l ih => intro s h; exact ih _ (madeS_dep h n)
  exact h l ([], 0) (fun r => rfl)
theorem nu_ok : wrongN (nuN 3 1) = 0 ∧ wrongN (plN 9) = 0 := by decide +kernel
theorem madeF_dep {s : List Nd × Nat} (h : Dep s.1 s.2) : Dep (madeF s).1 (madeF s).2 ∧ 0 < (madeF s).2 := by
  unfold madeF
  split
  · next h0 =>
    have := h.snoc nu_ok.1 (by show 0 ≤ _; omega)
    rw [h0] at this
    exact ⟨this, by show 0 < 1; omega⟩
  · exact ⟨h, by omega⟩
theorem rep_dep {es : List Nd} {d : Nat} (h : Dep es (d + 1)) : ∀ j, j ≤ d → Dep (es ++ List.replicate j (plN 9)) (d - j + 1) := by
  intro j
  induction j with
  | zero => intro _; simpa using h
  | succ j ih =>
    intro hj
    have := (ih (by omega)).snoc nu_ok.2 (by show 2 ≤ _; omega)
    rw [List.replicate_succ', ← List.append_assoc]
    have e : d - j + 1 - (shp (plN 9).op).ops + 1 = d - (j + 1) + 1 := by show d - j + 1 - 2 + 1 = _; omega
    rw [e] at this; exact this
theorem madeE_len (l : List Int) : (madeE l).length ≤ 60 ∧ 0 < (madeE l).length := by
  obtain ⟨h1, h2⟩ := madeP_len (l.take 30)
  have h3 : (l.take 30).length ≤ 30 := by rw [List.length_take]; omega
  unfold madeE
  rw [List.length_append, List.length_replicate]
  unfold madeF
  split
  · next h0 => simp only [List.length_append, List.length_singleton]; omega
  · next h0 => omega
theorem madeE_check (l : List Int) : checkE (madeE l) = 0 := by
  unfold checkE
  rw [if_neg (by have := madeE_len l; omega)]
  obtain ⟨h1, h2⟩ := madeF_dep (madeP_dep (l.take 30))
  obtain ⟨d, hd⟩ : ∃ d, (madeF (madeP (l.take 30))).2 = d + 1 := ⟨(madeF (madeP (l.take 30))).2 - 1, by omega⟩
  rw [hd] at h1
  have h3 := rep_dep h1 d (Nat.le_refl _) []
  unfold madeE
  rw [hd, Nat.add_sub_cancel]
  rw [List.append_nil] at h3
  rw [h3, Nat.sub_self]; rfl
theorem fits_size {a : Ra} (h : fitsR a = true) : a.num.size ≤ 1048576 ∧ a.den.size ≤ 1048576 := by
  unfold fitsR at h
  simp only [Bool.and_eq_true, decide_eq_true_eq] at h
  obtain ⟨⟨h1, h2⟩, h3⟩ := h
  obtain ⟨e1, e2, _⟩ := okR_parts h1
  obtain ⟨K, hK⟩ : ∃ K, K = 400 := ⟨_, rfl⟩
  have hk : (2 : Nat) ^ K = 256 ^ 50 := by rw [show K = 8 * 50 from by omega, show (256 : Nat) = 2 ^ 8 from rfl, ← Nat.pow_mul]
  have hlt : ∀ m, bitsN m ≤ 400 → m < 256 ^ 50 := by
    intro m hm
    unfold bitsN at hm
    by_cases h0 : m = 0
    · rw [h0]; exact Nat.pow_pos (by omega)
    · rw [if_neg h0] at hm
      rw [← hk]
      exact (Nat.log2_lt h0).1 (by omega)
  have g1 := nbs_size_le _ 50 (hlt _ h2)
  have g2 := nbs_size_le _ 50 (hlt _ h3)
  rw [← e1] at g1
  rw [← e2] at g2
  exact ⟨by omega, by omega⟩
theorem wrongN_fine {n : Nd} (h : wrongN n = 0) : Fine n := by
  have hn := (wrongN_parts h).2.2.2.1
  unfold numOk at hn
  have k0 : (ofI 0).num.size ≤ 1048576 ∧ (ofI 0).den.size ≤ 1048576 := by decide +kernel
  have k1 : (ofI 1).num.size ≤ 1048576 ∧ (ofI 1).den.size ≤ 1048576 := by decide +kernel
  have k2 : zR.num.size ≤ 1048576 ∧ zR.den.size ≤ 1048576 := by decide +kernel
  unfold Fine
  split at hn
  · simp only [Bool.or_eq_true, decide_eq_true_eq] at hn
    rcases hn with hn | hn <;> rw [hn]
    · exact k0
    · exact k1
  · split at hn
    · exact fits_size hn
    · split at hn
      · simp only [Bool.and_eq_true] at hn
        exact fits_size hn.1
      · rw [of_decide_eq_true hn]; exact k2
theorem check_fine {e : List Nd} (h : checkE e = 0) : ∀ n ∈ e, Fine n := fun n hn => wrongN_fine (checkE_wr h n hn)
theorem madeE_fine (l : List Int) : ∀ n ∈ madeE l, Fine n := check_fine (madeE_check l)
end Go.Proofs.YtbicehdehiakgaaGreatDoor
