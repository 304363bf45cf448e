/- A part of the proof: S2 S3. -/
import Derived.Test.YtbicehdehiakgaaGreatDoorC21
import Derived.Test.YtbicehdehiakgaaGreatDoorC26
set_option linter.unusedVariables false
set_option linter.unusedSimpArgs false
namespace Go.Proofs.YtbicehdehiakgaaGreatDoor
open Go.RowKit
set_option maxRecDepth 100000 in
set_option maxHeartbeats 800000 in
theorem sMake_any (neg : Bool) (num den : ByteArray) (w : World) (hn : num.size ≤ 536870912) (hd : den.size ≤ 536870912) :
    Calls Tryz.prog 107 #[.bool neg, .string num, .string den] w fun e w' => e = .returned (.tuple #[(mkR neg num den).1.v, .bool (mkR neg num den).2]) ∧ Below w.heap.size w w' := by
  have HN := Lib.hid (fun w => rRight_any num w)
  have HD := Lib.hid (fun w => rRight_any den w)
  have HM : Hid (mkR neg num den = if rightS den && decide (0 < vbs den) && rightS num then (low neg (vbs num) (vbs den), true) else (⟨false, ⟨#[]⟩, ⟨#[]⟩⟩, false)) := rfl
  have hz : rightS den = true → (den.toList.isEmpty = true ↔ ¬ (0 < vbs den)) := by
    intro h
    have e := (rightS_iff den).1 h
    rw [e, nbs_isEmpty, vbs_nbs, decide_eq_true_eq]; omega
  have HL : rightS num = true → rightS den = true → 0 < vbs den → ∀ w, Calls Tryz.prog 67 #[.bool neg, .string num, .string den] w fun e w' => e = .returned (low neg (vbs num) (vbs den)).v ∧ Below w.heap.size w w' := by
    intro h1 h2 h3 w
    obtain ⟨K, hK⟩ : ∃ K, K = 536870912 := ⟨_, rfl⟩
    have := slowest_any neg (vbs num) (vbs den) K w (by omega) (vbs_le num K (by omega)) (vbs_le den K (by omega)) h3
    rwa [← (rightS_iff num).1 h1, ← (rightS_iff den).1 h2] at this
  clear hn hd
  generalize low neg (vbs num) (vbs den) = lw at *
  generalize mkR neg num den = mk at *
  obtain ⟨m, mb⟩ := mk
  obtain ⟨ln, lu, ld⟩ := lw
  obtain ⟨W, hW⟩ : ∃ W, W = w.alloc (.cells #[.bool false, .string ⟨#[]⟩, .string ⟨#[]⟩] 31) := ⟨_, rfl⟩
  have hba : Below w.heap.size w W := by rw [hW]; exact (Below.refl _ _).alloc (Nat.le_refl _) _
  have hk0 : Blk W w.heap.size 31 [.bool false, .string ⟨#[]⟩, .string ⟨#[]⟩] := by rw [hW]; exact Blk.new w _ _
  have hsz : W.heap.size = w.heap.size + 1 := by rw [hW]; exact Array.size_push _
  obtain ⟨B, hB⟩ : ∃ B, B = w.heap.size := ⟨_, rfl⟩
  have HB := Lib.hid hB
  rw [← hB] at hba hsz hk0
  have hc := hk0.cells
  have hf := hk0.froz
  cases hrn : rightS num
  · rw [hrn] at HM HN
    cases hrd : rightS den
    all_goals
      rw [hrd] at HM HD
      have HM2 : Hid ((m, mb) = (⟨false, ⟨#[]⟩, ⟨#[]⟩⟩, false)) := by show _ = _; rw [HM.out]; simp
      clear HM HL hz hrn hrd
      go_enter Tryz.func107, Tryz.ntmps107
      go_wp2_with fail
      simp only [← hW, ← hB]
      clear hW hB
      refine (HN.out _).mono ?_
      rintro e w1 ⟨rfl, rfl⟩
      go_wp2_with fail
      refine (HD.out _).mono ?_
      rintro e w1 ⟨rfl, rfl⟩
      go_wp2
      injection HM2.out with e1 e2
      subst e1 e2
      refine bodyPost_ret (v := .tuple #[.agg #[.bool false, .string ⟨#[]⟩, .string ⟨#[]⟩], .bool false]) (by simp [results, Tryz.results107, go_sem, hc]) rfl ⟨rfl, by rw [← HB.out]; exact below_set3 hba _ _ _⟩
  · rw [hrn] at HM HN
    cases hrd : rightS den
    · rw [hrd] at HM HD
      have HM2 : Hid ((m, mb) = (⟨false, ⟨#[]⟩, ⟨#[]⟩⟩, false)) := by show _ = _; rw [HM.out]; simp
      clear HM HL hz hrn hrd
      go_enter Tryz.func107, Tryz.ntmps107
      go_wp2_with fail
      simp only [← hW, ← hB]
      clear hW hB
      refine (HN.out _).mono ?_
      rintro e w1 ⟨rfl, rfl⟩
      go_wp2_with fail
      refine (HD.out _).mono ?_
      rintro e w1 ⟨rfl, rfl⟩
      go_wp2
      injection HM2.out with e1 e2
      subst e1 e2
      refine bodyPost_ret (v := .tuple #[.agg #[.bool false, .string ⟨#[]⟩, .string ⟨#[]⟩], .bool false]) (by simp [results, Tryz.results107, go_sem, hc]) rfl ⟨rfl, by rw [← HB.out]; exact below_set3 hba _ _ _⟩
    · rw [hrd] at HM HD
      have hzz := hz hrd
      by_cases h0 : 0 < vbs den
      · have HM2 : Hid ((m, mb) = (⟨ln, lu, ld⟩, true)) := by show _ = _; rw [HM.out]; simp [h0]
        have HL := Lib.hid (HL hrn hrd h0)
        have he : den.toList.isEmpty = false := by
          cases hx : den.toList.isEmpty
          · rfl
          · exact absurd h0 (hzz.1 hx)
        clear HM hz hzz hrn hrd h0 hc hf
        go_enter Tryz.func107, Tryz.ntmps107
        go_wp2_with fail
        simp only [← hW, ← hB]
        clear hW hB
        refine (HN.out _).mono ?_
        rintro e w1 ⟨rfl, rfl⟩
        go_wp2_with fail
        refine (HD.out _).mono ?_
        rintro e w1 ⟨rfl, rfl⟩
        go_wp2_with fail
        refine (HL.out _).mono ?_
        rintro e w2 ⟨rfl, hb2⟩
        have hk2 := hk0.below hb2 hk0.lt
        have hc := hk2.cells
        have hf := hk2.froz
        have HBW := Lib.hid (hba.trans (hb2.mono (Nat.le_of_lt hk0.lt)))
        simp only [Ra.v]
        clear hb2 hk2
        go_wp2
        injection HM2.out with e1 e2
        subst e1 e2
        refine bodyPost_ret (v := .tuple #[.agg #[.bool ln, .string lu, .string ld], .bool true]) (by simp [results, Tryz.results107, go_sem, hc]) rfl ⟨rfl, by rw [← HB.out]; exact below_set3 HBW.out _ _ _⟩
      · have HM2 : Hid ((m, mb) = (⟨false, ⟨#[]⟩, ⟨#[]⟩⟩, false)) := by show _ = _; rw [HM.out]; simp [h0]
        have he : den.toList.isEmpty = true := hzz.2 h0
        clear HM HL hz hzz hrn hrd h0
        go_enter Tryz.func107, Tryz.ntmps107
        go_wp2_with fail
        simp only [← hW, ← hB]
        clear hW hB
        refine (HN.out _).mono ?_
        rintro e w1 ⟨rfl, rfl⟩
        go_wp2_with fail
        refine (HD.out _).mono ?_
        rintro e w1 ⟨rfl, rfl⟩
        go_wp2
        injection HM2.out with e1 e2
        subst e1 e2
        refine bodyPost_ret (v := .tuple #[.agg #[.bool false, .string ⟨#[]⟩, .string ⟨#[]⟩], .bool false]) (by simp [results, Tryz.results107, go_sem, hc]) rfl ⟨rfl, by rw [← HB.out]; exact below_set3 hba _ _ _⟩
end Go.Proofs.YtbicehdehiakgaaGreatDoor
namespace Go.Proofs.YtbicehdehiakgaaGreatDoor
open Go.RowKit
def negR (a : Ra) : Ra := if (valR a).num.toList.isEmpty then valR a else ⟨!(valR a).neg, (valR a).num, (valR a).den⟩
set_option maxRecDepth 100000 in
set_option maxHeartbeats 800000 in
theorem sNeg_any (a : Ra) (w : World) (hn : a.num.size ≤ 536870912) (hd : a.den.size ≤ 536870912) :
    Calls Tryz.prog 68 #[a.v] w fun e w' => e = .returned (negR a).v ∧ Below w.heap.size w w' := by
  have HR := Lib.hid (fun w => svalue_any a w hn hd)
  have HV : Hid (negR a = if (valR a).num.toList.isEmpty then valR a else ⟨!(valR a).neg, (valR a).num, (valR a).den⟩) := rfl
  generalize negR a = z at *
  clear hn hd
  generalize valR a = va at *
  obtain ⟨neg, num, den⟩ := a
  obtain ⟨vn, vu, vd⟩ := va
  unfold Ra.v at HR ⊢
  simp only at HV
  obtain ⟨W, hW⟩ : ∃ W, W = (w.alloc (.cells #[.bool neg, .string num, .string den] 31)).alloc (.cells #[.bool false, .string ⟨#[]⟩, .string ⟨#[]⟩] 31) := ⟨_, rfl⟩
  have htwo := Two.new w 31 31 #[.bool neg, .string num, .string den] #[.bool false, .string ⟨#[]⟩, .string ⟨#[]⟩]
  rw [← hW] at htwo
  obtain ⟨hk0, hk1, hba, hsz⟩ := htwo
  obtain ⟨B, hB⟩ : ∃ B, B = w.heap.size := ⟨_, rfl⟩
  have HB := Lib.hid hB
  rw [← hB] at hba hsz hk0 hk1
  have hc0 := hk0.cells
  obtain ⟨ve, hve⟩ : ∃ x, vu.toList.isEmpty = x := ⟨_, rfl⟩
  rw [hve] at HV
  cases ve
  all_goals
    go_enter Tryz.func68, Tryz.ntmps68
    go_wp2_with fail
    simp only [← hW, ← hB]
    clear hW hB
    refine (HR.out _).mono ?_
    rintro e w1 ⟨rfl, hb1⟩
    have hk := hk0.below hb1 hk0.lt
    have hk' := hk1.below hb1 hk1.lt
    have hc := hk.cells
    have hf := hk.froz
    have hc' := hk'.cells
    have hf' := hk'.froz
    have HBW := Lib.hid (hba.trans (hb1.mono (by omega)))
    clear hb1 hk hk'
    go_wp2
  · refine bodyPost_ret (v := .agg #[.bool (!vn), .string vu, .string vd]) (by simp [results, Tryz.results68, go_sem, hc, hc']) rfl ⟨by rw [HV.out]; rfl, ?_⟩
    rw [← HB.out]; exact below_at ((below_set3 HBW.out _ _ _).setCell (p := ⟨B, 0, none⟩) (Nat.le_refl _) _) (Nat.le_succ _) _ _ _
  · refine bodyPost_ret (v := .agg #[.bool vn, .string vu, .string vd]) (by simp [results, Tryz.results68, go_sem, hc, hc']) rfl ⟨by rw [HV.out]; rfl, ?_⟩
    rw [← HB.out]; exact below_at (below_set3 HBW.out _ _ _) (Nat.le_succ _) _ _ _
end Go.Proofs.YtbicehdehiakgaaGreatDoor
