/- A part of the proof: S3. -/
import Derived.Test.YtbicehdehiakgaaGreatDoorE15
import Derived.Test.YtbicehdehiakgaaGreatDoorE18
set_option linter.unusedVariables false
set_option linter.unusedSimpArgs false
namespace Go.Proofs.YtbicehdehiakgaaGreatDoor
open Go.RowKit
theorem emp_nil (s : ByteArray) : s.toList.isEmpty = true ↔ s = ⟨#[]⟩ := by
 have e0 : (⟨#[]⟩ : ByteArray).toList = [] := by rw [ByteArray.toList_eq]
 rw [List.isEmpty_iff]
 exact ⟨fun h => toList_inj (by rw [h, e0]), fun h => by rw [h, e0]⟩
theorem okR_zero {a : Ra} (h : okR a = true) (h0 : a.num = ⟨#[]⟩) : a = ofI 0 := by
 unfold okR at h
 simp only [Bool.and_eq_true, decide_eq_true_eq] at h
 obtain ⟨⟨⟨h1, h2⟩, h3⟩, h4⟩ := h
 rw [← h4, h0]
 show low a.neg 0 _ = _
 unfold low
 rw [Nat.gcd_zero_left, Nat.div_self h2]
 simp [ofI]
theorem signR_val (a : Ra) : signR a = if (valR a).num.toList.isEmpty then 0 else if (valR a).neg then -1 else 1 := by
 unfold signR valR
 cases h : okR a
 ·simp only [Bool.false_eq_true, if_false]
  rw [if_pos (show (ofI 0).num.toList.isEmpty = true from (emp_nil _).2 rfl)]
 ·simp only [if_true]
  by_cases h0 : a.num = ⟨#[]⟩
  ·rw [if_pos ((emp_nil _).2 h0), if_pos (okR_zero h h0)]
  ·rw [if_neg (fun hh => h0 ((emp_nil _).1 hh)), if_neg (fun hh => h0 (by rw [hh]; rfl))]
theorem valR_den (a : Ra) : rightS (valR a).den = true ∧ 0 < vbs (valR a).den := by
 unfold valR
 split
 ·next h =>
  unfold okR at h
  simp only [Bool.and_eq_true, decide_eq_true_eq] at h
  exact ⟨h.1.1.1, h.1.1.2⟩
 ·exact ⟨by decide, by decide⟩
def negR (a : Ra) : Ra := if (valR a).num.toList.isEmpty then valR a else ⟨!(valR a).neg, (valR a).num, (valR a).den⟩
set_option maxRecDepth 100000 in
set_option maxHeartbeats 800000 in
theorem sSign_any (a : Ra) (w : World) (hn : a.num.size ≤ 536870912) (hd : a.den.size ≤ 536870912) :
  Calls Tryz.prog 69 #[a.v] w fun e w' => e = .returned (.int .i64 (signR a)) ∧ Below w.heap.size w w' := by
 have HR := Lib.hid (fun w => svalue_any a w hn hd)
 have HV := Lib.hid (signR_val a)
 generalize signR a = z at *
 clear hn hd
 generalize valR a = va at *
 obtain ⟨neg, num, den⟩ := a
 obtain ⟨vn, vu, vd⟩ := va
 unfold Ra.v at HR ⊢
 simp only at HV
 obtain ⟨W, hW⟩ : ∃ W, W = w.alloc (.cells #[.bool neg, .string num, .string den] 31) := ⟨_, rfl⟩
 have hba : Below w.heap.size w W := by rw [hW]; exact (Below.refl _ _).alloc (Nat.le_refl _) _
 have hk0 : Blk W w.heap.size 31 [.bool neg, .string num, .string den] := by rw [hW]; exact Blk.new w _ _
 have hsz : W.heap.size = w.heap.size + 1 := by rw [hW]; exact Array.size_push _
 obtain ⟨B, hB⟩ : ∃ B, B = w.heap.size := ⟨_, rfl⟩
 have HB := Lib.hid hB
 rw [← hB] at hba hsz hk0
 have hc0 := hk0.cells
 obtain ⟨ve, hve⟩ : ∃ x, vu.toList.isEmpty = x := ⟨_, rfl⟩
 rw [hve] at HV
 cases vn <;> cases ve
 all_goals
  go_enter Tryz.func69, Tryz.ntmps69
  go_wp2_with fail
  simp only [← hW, ← hB]
  clear hW hB
  refine (HR.out _).mono ?_
  rintro e w1 ⟨rfl, hb1⟩
  have hk := hk0.below hb1 hk0.lt
  have hc := hk.cells
  have hf := hk.froz
  have HBW := Lib.hid (hba.trans (hb1.mono (Nat.le_of_lt hk0.lt)))
  clear hb1 hk
  go_wp2
  go_ret
  exact ⟨by rw [HV.out]; rfl, by rw [← HB.out]; exact below_set3 HBW.out _ _ _⟩
set_option maxRecDepth 100000 in
set_option maxHeartbeats 800000 in
theorem sNeg_any (a : Ra) (w : World) (hn : a.num.size ≤ 536870912) (hd : a.den.size ≤ 536870912) :
  Calls Tryz.prog 68 #[a.v] w fun e w' => e = .returned (negR a).v ∧ Below w.heap.size w w' := by
 have HR := Lib.hid (fun w => svalue_any a w hn hd)
 have HV : Hid (negR a = if (valR a).num.toList.isEmpty then valR a else ⟨!(valR a).neg, (valR a).num, (valR a).den⟩) := rfl
 generalize negR a = z at *
 clear hn hd
 generalize valR a = va at *
 obtain ⟨neg, num, den⟩ := a
 obtain ⟨vn, vu, vd⟩ := va
 unfold Ra.v at HR ⊢
 simp only at HV
 obtain ⟨W, hW⟩ : ∃ W, W = (w.alloc (.cells #[.bool neg, .string num, .string den] 31)).alloc (.cells #[.bool false, .string ⟨#[]⟩, .string ⟨#[]⟩] 31) := ⟨_, rfl⟩
 have htwo := Two.new w 31 31 #[.bool neg, .string num, .string den] #[.bool false, .string ⟨#[]⟩, .string ⟨#[]⟩]
 rw [← hW] at htwo
 obtain ⟨hk0, hk1, hba, hsz⟩ := htwo
 obtain ⟨B, hB⟩ : ∃ B, B = w.heap.size := ⟨_, rfl⟩
 have HB := Lib.hid hB
 rw [← hB] at hba hsz hk0 hk1
 have hc0 := hk0.cells
 obtain ⟨ve, hve⟩ : ∃ x, vu.toList.isEmpty = x := ⟨_, rfl⟩
 rw [hve] at HV
 cases ve
 all_goals
  go_enter Tryz.func68, Tryz.ntmps68
  go_wp2_with fail
  simp only [← hW, ← hB]
  clear hW hB
  refine (HR.out _).mono ?_
  rintro e w1 ⟨rfl, hb1⟩
  have hk := hk0.below hb1 hk0.lt
  have hk' := hk1.below hb1 hk1.lt
  have hc := hk.cells
  have hf := hk.froz
  have hc' := hk'.cells
  have hf' := hk'.froz
  have HBW := Lib.hid (hba.trans (hb1.mono (by omega)))
  clear hb1 hk hk'
  go_wp2
 ·refine bodyPost_ret (v := .agg #[.bool (!vn), .string vu, .string vd]) (by simp [results, Tryz.results68, go_sem, hc, hc']) rfl ⟨by rw [HV.out]; rfl, ?_⟩
  rw [← HB.out]; exact below_at ((below_set3 HBW.out _ _ _).setCell (p := ⟨B, 0, none⟩) (Nat.le_refl _) _) (Nat.le_succ _) _ _ _
 ·refine bodyPost_ret (v := .agg #[.bool vn, .string vu, .string vd]) (by simp [results, Tryz.results68, go_sem, hc, hc']) rfl ⟨by rw [HV.out]; rfl, ?_⟩
  rw [← HB.out]; exact below_at (below_set3 HBW.out _ _ _) (Nat.le_succ _) _ _ _
theorem cmp_one (d : ByteArray) (h : rightS d = true) (b : Bool) (hb : decide (d = nbs 1) = b) : (cmpI (vbs d) (vbs (nbs 1)) != 0) = !b := by
 rw [← hb, vbs_nbs]
 have e := (rightS_iff d).1 h
 have h1 : (d = nbs 1) ↔ vbs d = 1 := by
  constructor
  ·intro h; rw [h, vbs_nbs]
  ·intro h; rw [h] at e; exact e
 simp only [h1]
 unfold cmpI
 by_cases h2 : vbs d = 1
 ·rw [h2]; rfl
 ·simp only [h2, decide_false, Bool.not_false]
  split
  ·first | rfl | (exfalso; omega)
  ·split
   ·first | rfl | (exfalso; omega)
   ·first | rfl | (exfalso; omega)
set_option maxRecDepth 100000 in
set_option maxHeartbeats 1600000 in
theorem sText_any (a : Ra) (w : World) (hn : a.num.size ≤ 1048576) (hd : a.den.size ≤ 1048576) :
  Calls Tryz.prog 51 #[a.v] w fun e w' => e = .returned (.string (textR a)) ∧ Below w.heap.size w w' := by
 have HR := Lib.hid (fun w => svalue_any a w (by omega) (by omega))
 obtain ⟨hvn, hvd⟩ := valR_size a 1048576 (by omega) hn hd
 have hrd := (valR_den a).1
 have HT : Hid (textR a = (let s := if (valR a).neg then ⟨#[45]⟩ ++ decS (vbs (valR a).num) else decS (vbs (valR a).num)
  if (valR a).den = nbs 1 then s else s ++ (⟨#[47]⟩ ++ decS (vbs (valR a).den)))) := rfl
 generalize textR a = tx at *
 clear hn hd
 generalize valR a = va at *
 obtain ⟨vn, vu, vd⟩ := va
 simp only at HT hvn hvd hrd
 have HTN := Lib.hid (fun w => rText_any vu w hvn)
 have HTD := Lib.hid (fun w => rText_any vd w hvd)
 have HC := Lib.hid (fun w => rCmp_any vd (nbs 1) w (by omega) (by decide))
 obtain ⟨de, hde⟩ : ∃ d, decide (vd = nbs 1) = d := ⟨_, rfl⟩
 have hz := cmp_one vd hrd de hde
 generalize cmpI (vbs vd) (vbs (nbs 1)) = z at *
 have HDE := Lib.hid hde
 have hs1 : (decS (vbs vu)).size ≤ 3145728 := decS_small vu hvn
 have hs2 : (decS (vbs vd)).size ≤ 3145728 := decS_small vd hvd
 generalize decS (vbs vu) = tn at *
 generalize decS (vbs vd) = td at *
 clear hde hvn hvd hrd
 obtain ⟨neg, num, den⟩ := a
 unfold Ra.v at HR ⊢
 obtain ⟨W, hW⟩ : ∃ W, W = w.alloc (.cells #[.bool neg, .string num, .string den] 31) := ⟨_, rfl⟩
 have hba : Below w.heap.size w W := by rw [hW]; exact (Below.refl _ _).alloc (Nat.le_refl _) _
 have hk0 : Blk W w.heap.size 31 [.bool neg, .string num, .string den] := by rw [hW]; exact Blk.new w _ _
 have hsz : W.heap.size = w.heap.size + 1 := by rw [hW]; exact Array.size_push _
 obtain ⟨B, hB⟩ : ∃ B, B = w.heap.size := ⟨_, rfl⟩
 have HB := Lib.hid hB
 rw [← hB] at hba hsz hk0
 have hc0 := hk0.cells
 cases vn
 ·go_enter Tryz.func51, Tryz.ntmps51
  go_wp2_with fail
  simp only [← hW, ← hB]
  clear hW hB
  refine (HR.out _).mono ?_
  rintro e w1 ⟨rfl, hb1⟩
  have hk := hk0.below hb1 hk0.lt
  have hc := hk.cells
  have hf := hk.froz
  have hB1 := hba.trans (hb1.mono (Nat.le_of_lt hk0.lt))
  go_wp2_with fail
  have hk2 := ((hk.set 0 (.bool false)).set 1 (.string vu)).set 2 (.string vd)
  simp only [List.set_cons_zero, List.set_cons_succ] at hk2
  have hB2 := below_set3 hB1 (.bool false) (.string vu) (.string vd)
  obtain ⟨w2, hw2⟩ : ∃ x, x = ((w1.setCell ⟨B, 0, none⟩ (.bool false)).setCell ⟨B, 1, none⟩ (.string vu)).setCell ⟨B, 2, none⟩ (.string vd) := ⟨_, rfl⟩
  rw [← hw2] at hk2 hB2
  simp only [← hw2]
  clear hc hf hk hb1 hB1 hw2
  refine (HTN.out _).mono ?_
  rintro e w3 ⟨rfl, hb3⟩
  have hk3 := hk2.below hb3 hk2.lt
  have hB3 : Below B w w3 := hB2.trans (hb3.mono (Nat.le_of_lt hk2.lt))
  have hc := hk3.cells
  have HK : Hid (∀ w' w1 : World, ((∀ i, w'.cell? ⟨B, i, none⟩ = ([.bool false, .string vu, .string vd] : List Value)[i]?) ∧ B < w'.heap.size ∧ Below B w w') → Below w'.heap.size w' w1 →
    ((∀ i, w1.cell? ⟨B, i, none⟩ = ([.bool false, .string vu, .string vd] : List Value)[i]?) ∧ B < w1.heap.size ∧ Below B w w1)) := by
   rintro w' w1 ⟨h0, h2, h3⟩ hb1
   exact ⟨fun i => (hb1.cell h2).trans (h0 i), Nat.lt_of_lt_of_le h2 hb1.size, h3.trans (hb1.mono (Nat.le_of_lt h2))⟩
  have HS : Hid ((∀ i, w3.drew.cell? ⟨B, i, none⟩ = ([.bool false, .string vu, .string vd] : List Value)[i]?) ∧ B < w3.drew.heap.size ∧ Below B w w3.drew) :=
   ⟨hk3.cells, hk3.lt, below_drewN hB3 1⟩
  clear hk2 hB2 hb3 hk3 hB3 hk0 hba hc0
  go_wp2_with fail
  clear hc
  refine wp_region_noPanic ?_
  refine wp_region_held_drew (S := fun w' => (∀ i, w'.cell? ⟨B, i, none⟩ = ([.bool false, .string vu, .string vd] : List Value)[i]?) ∧ B < w'.heap.size ∧ Below B w w') (by kernel_rfl) HS.out (fun hHeld => ?_)
  refine wpAnyH_take (i := 0) (v := ?_) rfl (by kernel_rfl) (by kernel_rfl) (by kernel_rfl) (fun _ _ _ h => h) (Or.inl ⟨by kernel_rfl, ?_⟩) (by assumption) ?_
  rotate_left
  ·intro w hSw; (try dsimp only at hSw); go_simp
   all_goals with_reducible rfl
  try simp only [Act.put, List.setIfInBounds_toArray, List.set_cons_zero, List.set_cons_succ, List.getElem_toArray, List.getElem_cons_succ, List.getElem_cons_zero]
  refine wpAnyH_take (i := 1) (v := ?_) rfl (by kernel_rfl) (by kernel_rfl) (by kernel_rfl) (fun _ _ _ h => h) (Or.inl ⟨by kernel_rfl, ?_⟩) (by assumption) ?_
  rotate_left
  ·intro w hSw; (try dsimp only at hSw); go_simp
   all_goals with_reducible rfl
  try simp only [Act.put, List.setIfInBounds_toArray, List.set_cons_zero, List.set_cons_succ, List.getElem_toArray, List.getElem_cons_succ, List.getElem_cons_zero]
  refine wpAnyH_ready (rs := [2]) (by kernel_rfl) (by simp) ?_
  refine AllReadyH.cons rfl (fun K hK => ?_) AllReadyH.nil
  go_simp
  refine (rOf_one _).mono ?_
  rintro e w1 ⟨rfl, hb1⟩
  go_wp2_with fail
  refine hK.out _ _ ?_ (fun hHeld => ?_)
  ·exact HK.out _ _ (by assumption) hb1
  clear hK K
  try simp only [Act.put, List.setIfInBounds_toArray, List.set_cons_zero, List.set_cons_succ, List.getElem_toArray, List.getElem_cons_succ, List.getElem_cons_zero]
  refine wpAnyH_ready (rs := [3]) (by kernel_rfl) (by simp) ?_
  refine AllReadyH.cons rfl (fun K hK => ?_) AllReadyH.nil
  go_simp
  refine (HC.out _).mono ?_
  rintro e w1 ⟨rfl, rfl⟩
  go_wp2_with fail
  refine hK.out _ _ ?_ (fun hHeld => ?_)
  ·assumption
  clear hK K
  try simp only [Act.put, List.setIfInBounds_toArray, List.set_cons_zero, List.set_cons_succ, List.getElem_toArray, List.getElem_cons_succ, List.getElem_cons_zero]
  refine wpAnyH_take (i := 4) (v := ?_) rfl (by kernel_rfl) (by kernel_rfl) (by kernel_rfl) (fun _ _ _ h => h) (Or.inl ⟨by kernel_rfl, ?_⟩) (by assumption) ?_
  rotate_left
  ·intro w hSw; (try dsimp only at hSw); go_simp
   all_goals with_reducible rfl
  try simp only [Act.put, List.setIfInBounds_toArray, List.set_cons_zero, List.set_cons_succ, List.getElem_toArray, List.getElem_cons_succ, List.getElem_cons_zero]
  refine wpAnyH_done (by kernel_rfl) ?_ _
  refine NoPanic.normal ?_
  obtain ⟨hd0, hd1, hd2⟩ := hHeld
  have HH := Lib.hid hd2
  clear hd2
  cases de
  ·go_wp2_with fail
   refine (HTD.out _).mono ?_
   rintro e w5 ⟨rfl, hb5⟩
   go_wp2
   go_ret
   refine ⟨?_, by rw [← HB.out]; exact HH.out.trans (hb5.mono (Nat.le_of_lt hd1))⟩
   have h := HT.out
   rw [if_neg (of_decide_eq_false HDE.out)] at h
   rw [h]
   first | rfl | (simp only [ByteArray.append_assoc, ByteArray.append_eq]; rfl) | simp [ByteArray.append_assoc]
  ·go_wp2
   go_ret
   refine ⟨?_, by rw [← HB.out]; exact HH.out⟩
   have h := HT.out
   rw [if_pos (of_decide_eq_true HDE.out)] at h
   rw [h]; rfl
 ·go_enter Tryz.func51, Tryz.ntmps51
  go_wp2_with fail
  simp only [← hW, ← hB]
  clear hW hB
  refine (HR.out _).mono ?_
  rintro e w1 ⟨rfl, hb1⟩
  have hk := hk0.below hb1 hk0.lt
  have hc := hk.cells
  have hf := hk.froz
  have hB1 := hba.trans (hb1.mono (Nat.le_of_lt hk0.lt))
  go_wp2_with fail
  have hk2 := ((hk.set 0 (.bool true)).set 1 (.string vu)).set 2 (.string vd)
  simp only [List.set_cons_zero, List.set_cons_succ] at hk2
  have hB2 := below_set3 hB1 (.bool true) (.string vu) (.string vd)
  obtain ⟨w2, hw2⟩ : ∃ x, x = ((w1.setCell ⟨B, 0, none⟩ (.bool true)).setCell ⟨B, 1, none⟩ (.string vu)).setCell ⟨B, 2, none⟩ (.string vd) := ⟨_, rfl⟩
  rw [← hw2] at hk2 hB2
  simp only [← hw2]
  clear hc hf hk hb1 hB1 hw2
  refine (HTN.out _).mono ?_
  rintro e w3 ⟨rfl, hb3⟩
  have hk3 := hk2.below hb3 hk2.lt
  have hB3 : Below B w w3 := hB2.trans (hb3.mono (Nat.le_of_lt hk2.lt))
  have hc := hk3.cells
  have HK : Hid (∀ w' w1 : World, ((∀ i, w'.cell? ⟨B, i, none⟩ = ([.bool true, .string vu, .string vd] : List Value)[i]?) ∧ B < w'.heap.size ∧ Below B w w') → Below w'.heap.size w' w1 →
    ((∀ i, w1.cell? ⟨B, i, none⟩ = ([.bool true, .string vu, .string vd] : List Value)[i]?) ∧ B < w1.heap.size ∧ Below B w w1)) := by
   rintro w' w1 ⟨h0, h2, h3⟩ hb1
   exact ⟨fun i => (hb1.cell h2).trans (h0 i), Nat.lt_of_lt_of_le h2 hb1.size, h3.trans (hb1.mono (Nat.le_of_lt h2))⟩
  have HS : Hid ((∀ i, w3.drew.cell? ⟨B, i, none⟩ = ([.bool true, .string vu, .string vd] : List Value)[i]?) ∧ B < w3.drew.heap.size ∧ Below B w w3.drew) :=
   ⟨hk3.cells, hk3.lt, below_drewN hB3 1⟩
  clear hk2 hB2 hb3 hk3 hB3 hk0 hba hc0
  go_wp2_with fail
  clear hc
  refine wp_region_noPanic ?_
  refine wp_region_held_drew (S := fun w' => (∀ i, w'.cell? ⟨B, i, none⟩ = ([.bool true, .string vu, .string vd] : List Value)[i]?) ∧ B < w'.heap.size ∧ Below B w w') (by kernel_rfl) HS.out (fun hHeld => ?_)
  refine wpAnyH_take (i := 0) (v := ?_) rfl (by kernel_rfl) (by kernel_rfl) (by kernel_rfl) (fun _ _ _ h => h) (Or.inl ⟨by kernel_rfl, ?_⟩) (by assumption) ?_
  rotate_left
  ·intro w hSw; (try dsimp only at hSw); go_simp
   all_goals with_reducible rfl
  try simp only [Act.put, List.setIfInBounds_toArray, List.set_cons_zero, List.set_cons_succ, List.getElem_toArray, List.getElem_cons_succ, List.getElem_cons_zero]
  refine wpAnyH_take (i := 1) (v := ?_) rfl (by kernel_rfl) (by kernel_rfl) (by kernel_rfl) (fun _ _ _ h => h) (Or.inl ⟨by kernel_rfl, ?_⟩) (by assumption) ?_
  rotate_left
  ·intro w hSw; (try dsimp only at hSw); go_simp
   all_goals with_reducible rfl
  try simp only [Act.put, List.setIfInBounds_toArray, List.set_cons_zero, List.set_cons_succ, List.getElem_toArray, List.getElem_cons_succ, List.getElem_cons_zero]
  refine wpAnyH_ready (rs := [2]) (by kernel_rfl) (by simp) ?_
  refine AllReadyH.cons rfl (fun K hK => ?_) AllReadyH.nil
  go_simp
  refine (rOf_one _).mono ?_
  rintro e w1 ⟨rfl, hb1⟩
  go_wp2_with fail
  refine hK.out _ _ ?_ (fun hHeld => ?_)
  ·exact HK.out _ _ (by assumption) hb1
  clear hK K
  try simp only [Act.put, List.setIfInBounds_toArray, List.set_cons_zero, List.set_cons_succ, List.getElem_toArray, List.getElem_cons_succ, List.getElem_cons_zero]
  refine wpAnyH_ready (rs := [3]) (by kernel_rfl) (by simp) ?_
  refine AllReadyH.cons rfl (fun K hK => ?_) AllReadyH.nil
  go_simp
  refine (HC.out _).mono ?_
  rintro e w1 ⟨rfl, rfl⟩
  go_wp2_with fail
  refine hK.out _ _ ?_ (fun hHeld => ?_)
  ·assumption
  clear hK K
  try simp only [Act.put, List.setIfInBounds_toArray, List.set_cons_zero, List.set_cons_succ, List.getElem_toArray, List.getElem_cons_succ, List.getElem_cons_zero]
  refine wpAnyH_take (i := 4) (v := ?_) rfl (by kernel_rfl) (by kernel_rfl) (by kernel_rfl) (fun _ _ _ h => h) (Or.inl ⟨by kernel_rfl, ?_⟩) (by assumption) ?_
  rotate_left
  ·intro w hSw; (try dsimp only at hSw); go_simp
   all_goals with_reducible rfl
  try simp only [Act.put, List.setIfInBounds_toArray, List.set_cons_zero, List.set_cons_succ, List.getElem_toArray, List.getElem_cons_succ, List.getElem_cons_zero]
  refine wpAnyH_done (by kernel_rfl) ?_ _
  refine NoPanic.normal ?_
  obtain ⟨hd0, hd1, hd2⟩ := hHeld
  have HH := Lib.hid hd2
  clear hd2
  cases de
  ·go_wp2_with fail
   refine (HTD.out _).mono ?_
   rintro e w5 ⟨rfl, hb5⟩
   go_wp2
   go_ret
   refine ⟨?_, by rw [← HB.out]; exact HH.out.trans (hb5.mono (Nat.le_of_lt hd1))⟩
   have h := HT.out
   rw [if_neg (of_decide_eq_false HDE.out)] at h
   rw [h]
   first | rfl | (simp only [ByteArray.append_assoc, ByteArray.append_eq]; rfl) | simp [ByteArray.append_assoc]
  ·go_wp2
   go_ret
   refine ⟨?_, by rw [← HB.out]; exact HH.out⟩
   have h := HT.out
   rw [if_pos (of_decide_eq_true HDE.out)] at h
   rw [h]; rfl
set_option maxRecDepth 100000 in
set_option maxHeartbeats 800000 in
theorem sFits_any (a : Ra) (w : World) (hn : a.num.size ≤ 536870912) (hd : a.den.size ≤ 536870912) :
  Calls Tryz.prog 109 #[a.v] w fun e w' => e = .returned (.bool (fitsR a)) ∧ Below w.heap.size w w' := by
 have HR := Lib.hid (fun w => sRight_any a w hn hd)
 have HN := Lib.hid (fun w => rBits_any a.num w (by omega))
 have HD := Lib.hid (fun w => rBits_any a.den w (by omega))
 have HF : Hid (fitsR a = (okR a && decide (bitsN (vbs a.num) ≤ 400) && decide (bitsN (vbs a.den) ≤ 400))) := rfl
 generalize bitsN (vbs a.num) = bn at *
 generalize bitsN (vbs a.den) = bd at *
 clear hn hd
 obtain ⟨o, ho⟩ : ∃ o, okR a = o := ⟨_, rfl⟩
 rw [ho] at HR HF
 clear ho
 generalize fitsR a = r at *
 obtain ⟨neg, num, den⟩ := a
 unfold Ra.v at HR ⊢
 simp only at HN HD
 obtain ⟨W, hW⟩ : ∃ W, W = w.alloc (.cells #[.bool neg, .string num, .string den] 31) := ⟨_, rfl⟩
 have hba : Below w.heap.size w W := by rw [hW]; exact (Below.refl _ _).alloc (Nat.le_refl _) _
 have hk0 : Blk W w.heap.size 31 [.bool neg, .string num, .string den] := by rw [hW]; exact Blk.new w _ _
 have hsz : W.heap.size = w.heap.size + 1 := by rw [hW]; exact Array.size_push _
 obtain ⟨B, hB⟩ : ∃ B, B = w.heap.size := ⟨_, rfl⟩
 have HB := Lib.hid hB
 rw [← hB] at hba hsz hk0
 have hc0 := hk0.cells
 cases o
 ·go_enter Tryz.func109, Tryz.ntmps109
  go_wp2_with fail
  simp only [← hW, ← hB]
  clear hW hB
  refine (HR.out _).mono ?_
  rintro e w1 ⟨rfl, hb1⟩
  go_wp2
  go_ret
  exact ⟨by rw [HF.out]; rfl, by rw [← HB.out]; exact hba.trans (hb1.mono (Nat.le_of_lt hk0.lt))⟩
 ·obtain ⟨q, hq⟩ : ∃ q, decide (bn ≤ 400) = q := ⟨_, rfl⟩
  have hq' : decide ((bn : Int) ≤ 400) = q := by rw [← hq, decide_eq_decide]; omega
  obtain ⟨p, hp⟩ : ∃ p, decide (bd ≤ 400) = p := ⟨_, rfl⟩
  have hp' : decide ((bd : Int) ≤ 400) = p := by rw [← hp, decide_eq_decide]; omega
  rw [hq, hp] at HF
  clear hq hp
  cases q
  all_goals
   go_enter Tryz.func109, Tryz.ntmps109
   go_wp2_with fail
   simp only [← hW, ← hB]
   clear hW hB
   refine (HR.out _).mono ?_
   rintro e w1 ⟨rfl, hb1⟩
   have hk1 := hk0.below hb1 hk0.lt
   have hc1 := hk1.cells
   have HBW := Lib.hid (hba.trans (hb1.mono (Nat.le_of_lt hk0.lt)))
   clear hb1
   go_wp2_with fail
   refine (HN.out _).mono ?_
   rintro e w2 ⟨rfl, rfl⟩
  ·go_wp2
   go_ret
   exact ⟨by rw [HF.out]; rfl, by rw [← HB.out]; exact HBW.out⟩
  ·go_wp2_with fail
   refine (HD.out _).mono ?_
   rintro e w2 ⟨rfl, rfl⟩
   go_wp2
   go_ret
   exact ⟨by rw [HF.out]; rfl, by rw [← HB.out]; exact HBW.out⟩
end Go.Proofs.YtbicehdehiakgaaGreatDoor
