/- The proof of the statement, a part of it: Divm. -/
import Derived.Test.YtbicehdehiakgaaGreatDoorC01
set_option linter.unusedVariables false
set_option linter.unusedSimpArgs false
namespace Go.Proofs.YtbicehdehiakgaaGreatDoor
theorem val_parts (B : Nat) (zs : List Nat) (j n : Nat) (h : j + n ≤ zs.length) :
    val B zs = val B (zs.take j) + B ^ j * (val B (seg zs j n) + B ^ n * val B (zs.drop (j + n))) := by
  rw [val_split B zs j (by omega), val_split B (zs.drop j) n (by simp; omega), List.drop_drop]
  rfl
theorem seg_three (B : Nat) (zs : List Nat) (j n : Nat) (h : j + n + 2 < zs.length) :
    val B (seg zs j (n + 3)) = val B (seg zs j n) + B ^ n * (zs.getD (j + n) 0 + B * (zs.getD (j + n + 1) 0 + B * zs.getD (j + n + 2) 0)) := by
  rw [show n + 3 = (n + 2) + 1 from rfl, seg_succ zs j (n + 2) (by omega), val_snoc, seg_length _ _ _ (by omega), seg_succ zs j (n + 1) (by omega), val_snoc, seg_length _ _ _ (by omega),
    seg_succ zs j n (by omega), val_snoc, seg_length _ _ _ (by omega)]
  rw [show j + (n + 1) = j + n + 1 from rfl, show j + (n + 2) = j + n + 2 from rfl, Nat.pow_succ, Nat.pow_succ]
  grind
theorem val_two (B : Nat) (ys : List Nat) (n : Nat) (h : ys.length = n + 2) :
    val B ys = val B (ys.take n) + B ^ n * (ys.getD n 0 + B * ys.getD (n + 1) 0) := by
  have e : val B ys = val B (ys.take (n + 2)) := by rw [List.take_of_length_le (by omega)]
  rw [e, val_take_getD, val_take_getD, Nat.pow_succ]
  grind
theorem round_before (zs ys : List Nat) (j n : Nat) (hz : ∀ x ∈ zs, x < 2 ^ 32) (hy : ∀ x ∈ ys, x < 2 ^ 32) (hyl : ys.length = n + 2) (hjl : j + n + 2 < zs.length)
    (hv0 : 0 < ys.getD (n + 1) 0) (hR : val (2 ^ 32) zs < val (2 ^ 32) ys * (2 ^ 32) ^ (j + 1)) :
    zs.getD (j + n + 2) 0 ≤ ys.getD (n + 1) 0 ∧
    val (2 ^ 32) (seg zs j (n + 3)) / val (2 ^ 32) ys ≤ qhat (zs.getD (j + n + 2) 0) (zs.getD (j + n + 1) 0) (zs.getD (j + n) 0) (ys.getD (n + 1) 0) (ys.getD n 0) ∧
    qhat (zs.getD (j + n + 2) 0) (zs.getD (j + n + 1) 0) (zs.getD (j + n) 0) (ys.getD (n + 1) 0) (ys.getD n 0) ≤ val (2 ^ 32) (seg zs j (n + 3)) / val (2 ^ 32) ys + 1 := by
  have e1 := seg_three (2 ^ 32) zs j n hjl
  have e2 := val_two (2 ^ 32) ys n hyl
  have hE : 0 < (2 ^ 32) ^ n := Nat.pow_pos (by omega)
  have hEj : 0 < (2 ^ 32) ^ j := Nat.pow_pos (by omega)
  have hU' : val (2 ^ 32) (seg zs j n) < (2 ^ 32) ^ n := by
    have := val_lt (2 ^ 32) (seg zs j n) (seg_mem hz)
    rwa [seg_length _ _ _ (by omega)] at this
  have hV' : val (2 ^ 32) (ys.take n) < (2 ^ 32) ^ n := by
    have := val_lt (2 ^ 32) (ys.take n) (fun x hx => hy x (List.mem_of_mem_take hx))
    rwa [List.length_take_of_le (by omega)] at this
  have hlt : val (2 ^ 32) (seg zs j (n + 3)) < val (2 ^ 32) ys * 4294967296 := by
    rw [val_parts (2 ^ 32) zs j (n + 3) (by omega), show (2 ^ 32) ^ (j + 1) = 4294967296 * (2 ^ 32) ^ j from by rw [Nat.pow_succ, Nat.mul_comm], ← Nat.mul_assoc] at hR
    rcases Nat.lt_or_ge (val (2 ^ 32) (seg zs j (n + 3))) (val (2 ^ 32) ys * 4294967296) with h | h
    · exact h
    · exfalso
      have h2 := Nat.mul_le_mul_left ((2 ^ 32) ^ j) (Nat.le_trans h (Nat.le_add_right _ ((2 ^ 32) ^ (n + 3) * val (2 ^ 32) (zs.drop (j + (n + 3))))))
      rw [Nat.mul_comm ((2 ^ 32) ^ j) (val (2 ^ 32) ys * 4294967296)] at h2
      omega
  have u2 := getD_lt_of (b := 2 ^ 32) (by omega) hz (j + n)
  have u1 := getD_lt_of (b := 2 ^ 32) (by omega) hz (j + n + 1)
  have v1 := getD_lt_of (b := 2 ^ 32) (by omega) hy n
  generalize zs.getD (j + n + 2) 0 = a0 at *
  generalize zs.getD (j + n + 1) 0 = a1 at *
  generalize zs.getD (j + n) 0 = a2 at *
  generalize ys.getD (n + 1) 0 = b0 at *
  generalize ys.getD n 0 = b1 at *
  have e1' : val (2 ^ 32) (seg zs j (n + 3)) = (a0 * 18446744073709551616 + a1 * 4294967296 + a2) * (2 ^ 32) ^ n + val (2 ^ 32) (seg zs j n) := by
    rw [e1, Nat.add_comm, Nat.mul_comm]; congr 2; omega
  have e2' : val (2 ^ 32) ys = (b0 * 4294967296 + b1) * (2 ^ 32) ^ n + val (2 ^ 32) (ys.take n) := by
    rw [e2, Nat.add_comm, Nat.mul_comm]; congr 2; omega
  refine ⟨?_, qhat_good _ _ _ a0 a1 a2 b0 b1 _ _ hE e2' e1' hU' hV' hv0 hlt⟩
  rcases Nat.lt_or_ge b0 a0 with h | h
  · exfalso
    clear hR e1 e2
    rw [e1', e2'] at hlt
    generalize val (2 ^ 32) (seg zs j n) = s at *
    generalize val (2 ^ 32) (ys.take n) = t at *
    generalize (2 ^ 32) ^ n = E at *
    have h3 : (b0 + 1) * 18446744073709551616 ≤ a0 * 18446744073709551616 := Nat.mul_le_mul_right _ h
    have h4 : ((b0 * 4294967296 + b1) * 4294967296 + 4294967296) * E ≤ (a0 * 18446744073709551616 + a1 * 4294967296 + a2) * E := Nat.mul_le_mul_right _ (by omega)
    rw [Nat.add_mul] at h4
    have h5 : ((b0 * 4294967296 + b1) * E + t) * 4294967296 = (b0 * 4294967296 + b1) * 4294967296 * E + t * 4294967296 := by grind
    omega
  · exact h
theorem round_after (zs zs2 ys : List Nat) (j n Qh d N : Nat) (hl : zs2.length = zs.length) (hz : ∀ x ∈ zs, x < 2 ^ 32) (hyl : ys.length = n + 2) (hjl : j + n + 2 < zs.length) (hy : ∀ x ∈ ys, x < 2 ^ 32) (hV : 0 < val (2 ^ 32) ys)
    (hout : ∀ p, (p < j ∨ j + (n + 2) < p) → zs2.getD p 0 = zs.getD p 0) (hR : val (2 ^ 32) zs < val (2 ^ 32) ys * (2 ^ 32) ^ (j + 1))
    (hN : N = Qh * val (2 ^ 32) ys * (2 ^ 32) ^ (j + 1) + val (2 ^ 32) zs)
    (hd : d = val (2 ^ 32) (seg zs j (n + 3)) / val (2 ^ 32) ys) (h2 : val (2 ^ 32) (seg zs2 j (n + 3)) = val (2 ^ 32) (seg zs j (n + 3)) % val (2 ^ 32) ys) :
    val (2 ^ 32) zs2 < val (2 ^ 32) ys * (2 ^ 32) ^ j ∧ N = (d + 2 ^ 32 * Qh) * val (2 ^ 32) ys * (2 ^ 32) ^ j + val (2 ^ 32) zs2 := by
  have p1 := val_parts (2 ^ 32) zs j (n + 3) (by omega)
  have p2 := val_parts (2 ^ 32) zs2 j (n + 3) (by omega)
  have t1 : zs2.take j = zs.take j := by
    have := seg_congr zs2 zs 0 j hl (fun p h1 h2 => hout p (.inl (by omega)))
    simpa [seg] using this
  have t2 : zs2.drop (j + (n + 3)) = zs.drop (j + (n + 3)) := by
    have := seg_congr zs2 zs (j + (n + 3)) zs.length hl (fun p h1 h2 => hout p (.inr (by omega)))
    unfold seg at this
    rwa [List.take_of_length_le (by simp; omega), List.take_of_length_le (by simp)] at this
  have hVb : val (2 ^ 32) ys < (2 ^ 32) ^ (n + 2) := by have := val_lt (2 ^ 32) ys hy; rwa [hyl] at this
  have hE : 0 < (2 ^ 32) ^ j := Nat.pow_pos (by omega)
  have hlow : val (2 ^ 32) (zs.take j) < (2 ^ 32) ^ j := by
    have := val_lt (2 ^ 32) (zs.take j) (fun x hx => hz x (List.mem_of_mem_take hx))
    rwa [List.length_take_of_le (by omega)] at this
  have htop : val (2 ^ 32) (zs.drop (j + (n + 3))) = 0 := by
    rcases Nat.eq_zero_or_pos (val (2 ^ 32) (zs.drop (j + (n + 3)))) with h | h
    · exact h
    · exfalso
      have h3 : (2 ^ 32) ^ (n + 3) ≤ (2 ^ 32) ^ (n + 3) * val (2 ^ 32) (zs.drop (j + (n + 3))) := Nat.le_mul_of_pos_right _ h
      have h4 : (2 ^ 32) ^ j * (2 ^ 32) ^ (n + 3) ≤ val (2 ^ 32) zs := by
        rw [p1]
        exact Nat.le_trans (Nat.mul_le_mul_left _ (Nat.le_trans h3 (Nat.le_add_left _ _))) (Nat.le_add_left _ _)
      have h5 : val (2 ^ 32) ys * (2 ^ 32) ^ (j + 1) < (2 ^ 32) ^ (n + 2) * (2 ^ 32) ^ (j + 1) := Nat.mul_lt_mul_of_pos_right hVb (Nat.pow_pos (by omega))
      rw [← Nat.pow_add] at h4 h5
      rw [show j + (n + 3) = n + 2 + (j + 1) from by omega] at h4
      omega
  rw [t1, t2, htop, h2, Nat.mul_zero, Nat.add_zero] at p2
  rw [htop, Nat.mul_zero, Nat.add_zero] at p1
  have hm := Nat.mod_lt (val (2 ^ 32) (seg zs j (n + 3))) hV
  have hdm := Nat.div_add_mod (val (2 ^ 32) (seg zs j (n + 3))) (val (2 ^ 32) ys)
  rw [← hd] at hdm
  rw [show (2 ^ 32) ^ (j + 1) = 4294967296 * (2 ^ 32) ^ j from by rw [Nat.pow_succ, Nat.mul_comm]] at hN
  clear hout t1 t2 h2 hR hd htop hVb
  generalize val (2 ^ 32) (seg zs j (n + 3)) = U at *
  generalize val (2 ^ 32) ys = V at *
  generalize val (2 ^ 32) (zs.take j) = lo at *
  generalize (2 ^ 32) ^ j = E at *
  constructor
  · rw [p2]
    have := Nat.mul_le_mul_left E (show U % V + 1 ≤ V from hm)
    rw [Nat.mul_add, Nat.mul_comm E V] at this
    omega
  · generalize U % V = r at *
    rw [p2, hN, p1, ← hdm, show (2 : Nat) ^ 32 = 4294967296 from rfl]
    clear hz hy hdm p1 p2 hN
    grind
theorem round_fits (U U1 Q V : Nat) (hV : 0 < V) (h : U = U1 + Q * V) (h1 : U / V ≤ Q) : Q = U / V ∧ U1 = U % V := by
  have h2 : Q ≤ U / V := (Nat.le_div_iff_mul_le hV).2 (by omega)
  have h3 : Q = U / V := by omega
  refine ⟨h3, ?_⟩
  have h4 := Nat.div_add_mod U V
  rw [← h3, Nat.mul_comm] at h4
  omega
theorem round_back (U U1 U2 Q V E c : Nat) (hV : 0 < V) (hVE : V ≤ E) (h : U + 1 * E = U1 + Q * V) (h1 : U / V ≤ Q) (h2 : Q ≤ U / V + 1) (hU1 : U1 < E) (hU2 : U2 < E) (h3 : U1 + V = U2 + c * E) :
    0 < Q ∧ Q - 1 = U / V ∧ U2 = U % V := by
  have h4 : U / V < Q := (Nat.div_lt_iff_lt_mul hV).2 (by omega)
  have h5 : Q = U / V + 1 := by omega
  have h6 := Nat.div_add_mod U V
  have h7 := Nat.mod_lt U hV
  generalize U / V = d at *
  generalize U % V = r at *
  subst h5
  rw [Nat.add_mul, Nat.mul_comm d V] at h
  refine ⟨by omega, by omega, ?_⟩
  have hc : c = 1 := by
    rcases Nat.lt_or_ge c 1 with h8 | h8
    · obtain rfl : c = 0 := by omega
      omega
    · rcases Nat.lt_or_ge 1 c with h9 | h9
      · have := Nat.mul_le_mul_right E (show 2 ≤ c from h9)
        omega
      · omega
  subst hc
  omega
end Go.Proofs.YtbicehdehiakgaaGreatDoor
