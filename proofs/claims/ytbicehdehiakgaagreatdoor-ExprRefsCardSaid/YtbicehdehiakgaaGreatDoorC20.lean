/- The proof of the statement, a part of it: Q5 Q6 Q7 Q8. -/
import Derived.Test.YtbicehdehiakgaaGreatDoorC04
import Derived.Test.YtbicehdehiakgaaGreatDoorC19
set_option linter.unusedVariables false
set_option linter.unusedSimpArgs false
namespace Go.Proofs.YtbicehdehiakgaaGreatDoor
open Go.RowKit
def mkR (neg : Bool) (num den : ByteArray) : Ra × Bool :=
  if rightS den && decide (0 < vbs den) && rightS num then (low neg (vbs num) (vbs den), true) else (⟨false, ⟨#[]⟩, ⟨#[]⟩⟩, false)
set_option maxRecDepth 100000 in
set_option maxHeartbeats 800000 in
theorem qMake_any (neg : Bool) (num den : ByteArray) (w : World) (hn : num.size ≤ 536870912) (hd : den.size ≤ 536870912) :
    Calls Tryz.prog 158 #[.bool neg, .string num, .string den] w fun e w' => e = .returned (.tuple #[(mkR neg num den).1.v, .bool (mkR neg num den).2]) ∧ Below w.heap.size w w' := by
  obtain ⟨W, hW⟩ : ∃ W, W = w.alloc (.cells #[.bool false, .string ⟨#[]⟩, .string ⟨#[]⟩] 31) := ⟨_, rfl⟩
  have hba : Below w.heap.size w W := by rw [hW]; exact (Below.refl _ _).alloc (Nat.le_refl _) _
  have hblk : Blk W w.heap.size 31 [.bool false, .string ⟨#[]⟩, .string ⟨#[]⟩] := by rw [hW]; exact Blk.new w _ _
  have HP := Lib.hid (fun w => qpos_any den w (by omega))
  have HR := Lib.hid (fun w => natRight_any num w)
  have HM : Hid (mkR neg num den = if rightS den && decide (0 < vbs den) && rightS num then (low neg (vbs num) (vbs den), true) else (⟨false, ⟨#[]⟩, ⟨#[]⟩⟩, false)) := rfl
  cases hp : (rightS den && decide (0 < vbs den))
  · rw [hp] at HP HM
    clear hp
    go_enter Tryz.func158, Tryz.ntmps158
    go_wp2_with fail
    simp only [← hW]
    clear hW
    refine (HP.out _).mono ?_
    rintro e w1 ⟨rfl, hb1⟩
    have hk3 := hblk.below hb1 hblk.lt
    have hc0 := hk3.cell (i := 0) (by decide)
    have hc1 := hk3.cell (i := 1) (by decide)
    have hc2 := hk3.cell (i := 2) (by decide)
    have hf0 := hk3.frozen 0
    have hf1 := hk3.frozen 1
    have hf2 := hk3.frozen 2
    simp only [List.getElem_cons_zero, List.getElem_cons_succ] at hc0 hc1 hc2
    have hbw := bstep hba hb1
    go_wp2
    refine bodyPost_ret (v := .tuple #[.agg #[.bool false, .string ⟨#[]⟩, .string ⟨#[]⟩], .bool false]) (by simp [results, Tryz.results158, go_sem, hc0, hc1, hc2]) rfl ⟨?_, ((hbw.setCell (Nat.le_refl _) _).setCell (Nat.le_refl _) _).setCell (Nat.le_refl _) _⟩
    rw [HM.out]; rfl
  · rw [hp] at HP HM
    cases hr : rightS num
    · rw [hr] at HR HM
      clear hp hr
      go_enter Tryz.func158, Tryz.ntmps158
      go_wp2_with fail
      simp only [← hW]
      clear hW
      refine (HP.out _).mono ?_
      rintro e w1 ⟨rfl, hb1⟩
      go_wp2_with fail
      refine (HR.out _).mono ?_
      rintro e w2 ⟨rfl, rfl⟩
      have hk3 := hblk.below hb1 hblk.lt
      have hc0 := hk3.cell (i := 0) (by decide)
      have hc1 := hk3.cell (i := 1) (by decide)
      have hc2 := hk3.cell (i := 2) (by decide)
      have hf0 := hk3.frozen 0
      have hf1 := hk3.frozen 1
      have hf2 := hk3.frozen 2
      simp only [List.getElem_cons_zero, List.getElem_cons_succ] at hc0 hc1 hc2
      have hbw := bstep hba hb1
      go_wp2
      refine bodyPost_ret (v := .tuple #[.agg #[.bool false, .string ⟨#[]⟩, .string ⟨#[]⟩], .bool false]) (by simp [results, Tryz.results158, go_sem, hc0, hc1, hc2]) rfl ⟨?_, ((hbw.setCell (Nat.le_refl _) _).setCell (Nat.le_refl _) _).setCell (Nat.le_refl _) _⟩
      rw [HM.out]; rfl
    · rw [hr] at HR HM
      rw [Bool.and_eq_true, decide_eq_true_eq] at hp
      have en := (rightS_iff num).1 hr
      have ed := (rightS_iff den).1 hp.1
      have hvn := vbs_lt num
      have hvd := vbs_lt den
      obtain ⟨K, hK⟩ : ∃ K, K = 536870912 := ⟨_, rfl⟩
      have HL := Lib.hid (fun w => qlowest_any neg (vbs num) (vbs den) K w (Nat.le_of_eq hK) (vbs_le num K (by rw [hK]; exact hn)) (vbs_le den K (by rw [hK]; exact hd)) hp.2)
      clear hK
      rw [← en, ← ed] at HL
      obtain ⟨lw, hlw⟩ : ∃ lw, low neg (vbs num) (vbs den) = lw := ⟨_, rfl⟩
      rw [hlw] at HL HM
      obtain ⟨ln, lu, ld⟩ := lw
      clear hr hp en ed hvn hvd hlw
      go_enter Tryz.func158, Tryz.ntmps158
      go_wp2_with fail
      simp only [← hW]
      clear hW
      refine (HP.out _).mono ?_
      rintro e w1 ⟨rfl, hb1⟩
      go_wp2_with fail
      refine (HR.out _).mono ?_
      rintro e w2 ⟨rfl, rfl⟩
      go_wp2_with fail
      refine (HL.out _).mono ?_
      rintro e w3 ⟨rfl, hb3⟩
      have hb13 := bstep hb1 hb3
      have hk3 := hblk.below hb13 hblk.lt
      have hc0 := hk3.cell (i := 0) (by decide)
      have hc1 := hk3.cell (i := 1) (by decide)
      have hc2 := hk3.cell (i := 2) (by decide)
      have hf0 := hk3.frozen 0
      have hf1 := hk3.frozen 1
      have hf2 := hk3.frozen 2
      simp only [List.getElem_cons_zero, List.getElem_cons_succ] at hc0 hc1 hc2
      have hbw := bstep hba hb13
      simp only [Ra.v]
      go_wp2
      refine bodyPost_ret (v := .tuple #[.agg #[.bool ln, .string lu, .string ld], .bool true]) (by simp [results, Tryz.results158, go_sem, hc0, hc1, hc2]) rfl ⟨?_, ((hbw.setCell (Nat.le_refl _) _).setCell (Nat.le_refl _) _).setCell (Nat.le_refl _) _⟩
      rw [HM.out]; rfl
end Go.Proofs.YtbicehdehiakgaaGreatDoor
namespace Go.Proofs.YtbicehdehiakgaaGreatDoor
open Go.RowKit
def signR (a : Ra) : Int := if okR a then (if a = ofI 0 then 0 else if a.neg then -1 else 1) else 0
set_option maxRecDepth 100000 in
set_option maxHeartbeats 1600000 in
theorem qSign_any (a : Ra) (w : World) (hn : a.num.size ≤ 536870912) (hd : a.den.size ≤ 536870912) :
    Calls Tryz.prog 80 #[a.v] w fun e w' => e = .returned (.int .i64 (signR a)) ∧ Below w.heap.size w w' := by
  have HR := Lib.hid (fun w => qRight_any a w hn hd)
  have HV : Hid (signR a = if okR a then (if a = ofI 0 then 0 else if a.neg then -1 else 1) else 0) := rfl
  obtain ⟨o, ho⟩ : ∃ o, okR a = o := ⟨_, rfl⟩
  rw [ho] at HR HV
  clear ho hn hd
  obtain ⟨z, hz⟩ : ∃ z, signR a = z := ⟨_, rfl⟩
  rw [hz] at HV ⊢
  clear hz
  obtain ⟨neg, num, den⟩ := a
  obtain ⟨dq, hdq⟩ : ∃ d, decide ((⟨neg, num, den⟩ : Ra) = ofI 0) = d := ⟨_, rfl⟩
  have HDQ := Lib.hid hdq
  clear hdq
  have HZ : Hid (z = if o then (if dq then 0 else if neg then -1 else 1) else 0) := by
    show _ = _
    have h := HV.out
    rw [h, ← HDQ.out]
    simp
  clear HV
  unfold Ra.v at HR ⊢
  obtain ⟨W, hW⟩ : ∃ W, W = w.alloc (.cells #[.bool neg, .string num, .string den] 31) := ⟨_, rfl⟩
  have hba : Below w.heap.size w W := by rw [hW]; exact (Below.refl _ _).alloc (Nat.le_refl _) _
  have hblk : Blk W w.heap.size 31 [.bool neg, .string num, .string den] := by rw [hW]; exact Blk.new w _ _
  obtain ⟨B, hB⟩ : ∃ B, B = w.heap.size := ⟨_, rfl⟩
  rw [← hB] at hblk
  have hbs : B < W.heap.size := hblk.lt
  have hc := RaAt.of_blk (a := ⟨neg, num, den⟩) hblk
  obtain ⟨hc0, hc1, hc2⟩ := hc
  have HK : Hid (∀ w' w1 : World, (w'.cell? ⟨B, 0, none⟩ = some (.bool neg) ∧ w'.cell? ⟨B, 1, none⟩ = some (.string num) ∧ w'.cell? ⟨B, 2, none⟩ = some (.string den) ∧ Below W.heap.size W w') → Below w'.heap.size w' w1 →
      (w1.cell? ⟨B, 0, none⟩ = some (.bool neg) ∧ w1.cell? ⟨B, 1, none⟩ = some (.string num) ∧ w1.cell? ⟨B, 2, none⟩ = some (.string den) ∧ Below W.heap.size W w1)) := by
    rintro w' w1 ⟨h0, h1, h2, hb⟩ hb1
    have hlt : B < w'.heap.size := Nat.lt_of_lt_of_le hbs hb.size
    exact ⟨(hb1.cell hlt).trans h0, (hb1.cell hlt).trans h1, (hb1.cell hlt).trans h2, bstep hb hb1⟩
  have HS : Hid (W.drew.cell? ⟨B, 0, none⟩ = some (.bool neg) ∧ W.drew.cell? ⟨B, 1, none⟩ = some (.string num) ∧ W.drew.cell? ⟨B, 2, none⟩ = some (.string den) ∧ Below W.heap.size W W.drew) :=
    ⟨hc0, hc1, hc2, below_drewN (Below.refl _ _) 1⟩
  clear hblk hc0 hc1 hc2
  cases o
  · go_enter Tryz.func80, Tryz.ntmps80
    go_wp2_with fail
    simp only [← hW, ← hB]
    clear hW hB
    refine wp_region_noPanic ?_
    refine wp_region_held_drew (S := fun w' => w'.cell? ⟨B, 0, none⟩ = some (.bool neg) ∧ w'.cell? ⟨B, 1, none⟩ = some (.string num) ∧ w'.cell? ⟨B, 2, none⟩ = some (.string den) ∧ Below W.heap.size W w') (by kernel_rfl) HS.out (fun hHeld => ?_)
    refine wpAnyH_take (i := 0) (v := ?_) rfl (by kernel_rfl) (by kernel_rfl) (by kernel_rfl) (fun _ _ _ h => h) (Or.inl ⟨by kernel_rfl, ?_⟩) (by assumption) ?_
    rotate_left
    · intro w hSw; (try dsimp only at hSw); go_simp
      all_goals with_reducible rfl
    try simp only [Act.put, List.setIfInBounds_toArray, List.set_cons_zero, List.set_cons_succ, List.getElem_toArray, List.getElem_cons_succ, List.getElem_cons_zero]
    refine wpAnyH_ready (rs := [1]) (by kernel_rfl) (by simp) ?_
    refine AllReadyH.cons rfl (fun K hK => ?_) AllReadyH.nil
    go_simp
    refine (HR.out _).mono ?_
    rintro e w1 ⟨rfl, hb1⟩
    go_wp2_with fail
    refine hK.out _ _ ?_ (fun hHeld => ?_)
    · exact HK.out _ _ (by assumption) hb1
    clear hK K
    try simp only [Act.put, List.setIfInBounds_toArray, List.set_cons_zero, List.set_cons_succ, List.getElem_toArray, List.getElem_cons_succ, List.getElem_cons_zero]
    refine wpAnyH_take (i := 2) (v := ?_) rfl (by kernel_rfl) (by kernel_rfl) (by kernel_rfl) (fun _ _ _ h => h) (Or.inl ⟨by kernel_rfl, ?_⟩) (by assumption) ?_
    rotate_left
    · intro w hSw; (try dsimp only at hSw); go_simp
      all_goals with_reducible rfl
    try simp only [Act.put, List.setIfInBounds_toArray, List.set_cons_zero, List.set_cons_succ, List.getElem_toArray, List.getElem_cons_succ, List.getElem_cons_zero]
    refine wpAnyH_take (i := 3) (v := ?_) rfl (by kernel_rfl) (by kernel_rfl) (by kernel_rfl) (fun _ _ _ h => h) (Or.inl ⟨by kernel_rfl, ?_⟩) (by assumption) ?_
    rotate_left
    · intro w hSw; (try dsimp only at hSw); go_simp
      all_goals with_reducible rfl
    try simp only [Act.put, List.setIfInBounds_toArray, List.set_cons_zero, List.set_cons_succ, List.getElem_toArray, List.getElem_cons_succ, List.getElem_cons_zero]
    refine wpAnyH_take (i := 4) (v := undef) rfl (by kernel_rfl) (by kernel_rfl) (by kernel_rfl) (fun _ _ _ h => h) (Or.inr ⟨by kernel_rfl, rfl⟩) (by assumption) ?_
    try simp only [Act.put, List.setIfInBounds_toArray, List.set_cons_zero, List.set_cons_succ, List.getElem_toArray, List.getElem_cons_succ, List.getElem_cons_zero]
    refine wpAnyH_take (i := 5) (v := undef) rfl (by kernel_rfl) (by kernel_rfl) (by kernel_rfl) (fun _ _ _ h => h) (Or.inr ⟨by kernel_rfl, rfl⟩) (by assumption) ?_
    try simp only [Act.put, List.setIfInBounds_toArray, List.set_cons_zero, List.set_cons_succ, List.getElem_toArray, List.getElem_cons_succ, List.getElem_cons_zero]
    refine wpAnyH_take (i := 6) (v := undef) rfl (by kernel_rfl) (by kernel_rfl) (by kernel_rfl) (fun _ _ _ h => h) (Or.inr ⟨by kernel_rfl, rfl⟩) (by assumption) ?_
    try simp only [Act.put, List.setIfInBounds_toArray, List.set_cons_zero, List.set_cons_succ, List.getElem_toArray, List.getElem_cons_succ, List.getElem_cons_zero]
    refine wpAnyH_take (i := 7) (v := ?_) rfl (by kernel_rfl) (by kernel_rfl) (by kernel_rfl) (fun _ _ _ h => h) (Or.inl ⟨by kernel_rfl, ?_⟩) (by assumption) ?_
    rotate_left
    · intro w hSw; (try dsimp only at hSw); go_simp
      all_goals with_reducible rfl
    try simp only [Act.put, List.setIfInBounds_toArray, List.set_cons_zero, List.set_cons_succ, List.getElem_toArray, List.getElem_cons_succ, List.getElem_cons_zero]
    refine wpAnyH_take (i := 8) (v := ?_) rfl (by kernel_rfl) (by kernel_rfl) (by kernel_rfl) (fun _ _ _ h => h) (Or.inl ⟨by kernel_rfl, ?_⟩) (by assumption) ?_
    rotate_left
    · intro w hSw; (try dsimp only at hSw); go_simp
      all_goals with_reducible rfl
    try simp only [Act.put, List.setIfInBounds_toArray, List.set_cons_zero, List.set_cons_succ, List.getElem_toArray, List.getElem_cons_succ, List.getElem_cons_zero]
    refine wpAnyH_done (by kernel_rfl) ?_ _
    refine NoPanic.normal ?_
    go_wp2
    go_ret
    exact ⟨by rw [HZ.out]; rfl, bstep hba hHeld.2.2.2⟩
  · go_enter Tryz.func80, Tryz.ntmps80
    go_wp2_with fail
    simp only [← hW, ← hB]
    clear hW hB
    refine wp_region_noPanic ?_
    refine wp_region_held_drew (S := fun w' => w'.cell? ⟨B, 0, none⟩ = some (.bool neg) ∧ w'.cell? ⟨B, 1, none⟩ = some (.string num) ∧ w'.cell? ⟨B, 2, none⟩ = some (.string den) ∧ Below W.heap.size W w') (by kernel_rfl) HS.out (fun hHeld => ?_)
    refine wpAnyH_take (i := 0) (v := ?_) rfl (by kernel_rfl) (by kernel_rfl) (by kernel_rfl) (fun _ _ _ h => h) (Or.inl ⟨by kernel_rfl, ?_⟩) (by assumption) ?_
    rotate_left
    · intro w hSw; (try dsimp only at hSw); go_simp
      all_goals with_reducible rfl
    try simp only [Act.put, List.setIfInBounds_toArray, List.set_cons_zero, List.set_cons_succ, List.getElem_toArray, List.getElem_cons_succ, List.getElem_cons_zero]
    refine wpAnyH_ready (rs := [1]) (by kernel_rfl) (by simp) ?_
    refine AllReadyH.cons rfl (fun K hK => ?_) AllReadyH.nil
    go_simp
    refine (HR.out _).mono ?_
    rintro e w1 ⟨rfl, hb1⟩
    go_wp2_with fail
    refine hK.out _ _ ?_ (fun hHeld => ?_)
    · exact HK.out _ _ (by assumption) hb1
    clear hK K
    try simp only [Act.put, List.setIfInBounds_toArray, List.set_cons_zero, List.set_cons_succ, List.getElem_toArray, List.getElem_cons_succ, List.getElem_cons_zero]
    refine wpAnyH_take (i := 2) (v := ?_) rfl (by kernel_rfl) (by kernel_rfl) (by kernel_rfl) (fun _ _ _ h => h) (Or.inl ⟨by kernel_rfl, ?_⟩) (by assumption) ?_
    rotate_left
    · intro w hSw; (try dsimp only at hSw); go_simp
      all_goals with_reducible rfl
    try simp only [Act.put, List.setIfInBounds_toArray, List.set_cons_zero, List.set_cons_succ, List.getElem_toArray, List.getElem_cons_succ, List.getElem_cons_zero]
    refine wpAnyH_take (i := 3) (v := ?_) rfl (by kernel_rfl) (by kernel_rfl) (by kernel_rfl) (fun _ _ _ h => h) (Or.inl ⟨by kernel_rfl, ?_⟩) (by assumption) ?_
    rotate_left
    · intro w hSw; (try dsimp only at hSw); go_simp
      all_goals with_reducible rfl
    try simp only [Act.put, List.setIfInBounds_toArray, List.set_cons_zero, List.set_cons_succ, List.getElem_toArray, List.getElem_cons_succ, List.getElem_cons_zero]
    refine wpAnyH_take (i := 4) (v := ?_) rfl (by kernel_rfl) (by kernel_rfl) (by kernel_rfl) (fun _ _ _ h => h) (Or.inl ⟨by kernel_rfl, ?_⟩) (by assumption) ?_
    rotate_left
    · intro w hSw; (try dsimp only at hSw); go_simp
      all_goals with_reducible rfl
    try simp only [Act.put, List.setIfInBounds_toArray, List.set_cons_zero, List.set_cons_succ, List.getElem_toArray, List.getElem_cons_succ, List.getElem_cons_zero]
    refine wpAnyH_ready (rs := [5]) (by kernel_rfl) (by simp) ?_
    refine AllReadyH.cons rfl (fun K hK => ?_) AllReadyH.nil
    go_simp
    refine (qOf_any 0 _ (by omega) (by omega)).mono ?_
    rintro e w1 ⟨rfl, hb1⟩
    simp only [Ra.v]
    go_wp2_with fail
    refine hK.out _ _ ?_ (fun hHeld => ?_)
    · exact HK.out _ _ (by assumption) hb1
    clear hK K
    try simp only [Act.put, List.setIfInBounds_toArray, List.set_cons_zero, List.set_cons_succ, List.getElem_toArray, List.getElem_cons_succ, List.getElem_cons_zero]
    refine wpAnyH_take (i := 6) (v := .bool dq) rfl (by kernel_rfl) (by kernel_rfl) (by kernel_rfl) (fun _ _ _ h => h) (Or.inl ⟨by kernel_rfl, ?_⟩) (by assumption) ?_
    · intro w hSw; (try dsimp only at hSw); go_simp
      rw [← HDQ.out]; exact eqRa_if (fun t => Result.ok (Next.value (Value.bool t)) w) ⟨neg, num, den⟩ (ofI 0)
    try simp only [Act.put, List.setIfInBounds_toArray, List.set_cons_zero, List.set_cons_succ, List.getElem_toArray, List.getElem_cons_succ, List.getElem_cons_zero]
    refine wpAnyH_take (i := 7) (v := ?_) rfl (by kernel_rfl) (by kernel_rfl) (by kernel_rfl) (fun _ _ _ h => h) (Or.inl ⟨by kernel_rfl, ?_⟩) (by assumption) ?_
    rotate_left
    · intro w hSw; (try dsimp only at hSw); go_simp
      all_goals with_reducible rfl
    try simp only [Act.put, List.setIfInBounds_toArray, List.set_cons_zero, List.set_cons_succ, List.getElem_toArray, List.getElem_cons_succ, List.getElem_cons_zero]
    refine wpAnyH_take (i := 8) (v := ?_) rfl (by kernel_rfl) (by kernel_rfl) (by kernel_rfl) (fun _ _ _ h => h) (Or.inl ⟨by kernel_rfl, ?_⟩) (by assumption) ?_
    rotate_left
    · intro w hSw; (try dsimp only at hSw); go_simp
      all_goals with_reducible rfl
    try simp only [Act.put, List.setIfInBounds_toArray, List.set_cons_zero, List.set_cons_succ, List.getElem_toArray, List.getElem_cons_succ, List.getElem_cons_zero]
    refine wpAnyH_done (by kernel_rfl) ?_ _
    refine NoPanic.normal ?_
    obtain ⟨hd0, hd1, hd2, hd3⟩ := hHeld
    have HH := Lib.hid hd3
    clear hd3
    cases dq
    · cases neg
      · go_wp2
        go_ret
        exact ⟨by rw [HZ.out]; rfl, bstep hba HH.out⟩
      · go_wp2
        go_ret
        exact ⟨by rw [HZ.out]; rfl, bstep hba HH.out⟩
    · go_wp2
      go_ret
      exact ⟨by rw [HZ.out]; rfl, bstep hba HH.out⟩
end Go.Proofs.YtbicehdehiakgaaGreatDoor
namespace Go.Proofs.YtbicehdehiakgaaGreatDoor
open Go.RowKit
def textR (a : Ra) : ByteArray :=
  let s := if (valR a).neg then ⟨#[45]⟩ ++ decS (vbs (valR a).num) else decS (vbs (valR a).num)
  if (valR a).den = nbs 1 then s else s ++ (⟨#[47]⟩ ++ decS (vbs (valR a).den))
theorem beq_toList (a b : ByteArray) : (a.toList == b.toList) = decide (a = b) := by
  rw [Bool.eq_iff_iff, beq_iff_eq, decide_eq_true_iff]
  exact ⟨toList_inj, fun h => by rw [h]⟩
theorem decS_size (n K : Nat) (hK : 0 < K) (h : n < 256 ^ K) : (decS n).size ≤ 3 * K := dec_len_le n K hK h
theorem decS_small (s : ByteArray) (h : s.size ≤ 1048576) : (decS (vbs s)).size ≤ 3145728 := by
  obtain ⟨K, hK⟩ : ∃ K, K = 1048576 := ⟨_, rfl⟩
  rw [← hK] at h
  have := decS_size (vbs s) K (by omega) (vbs_le s K h)
  omega
theorem valR_size (a : Ra) (K : Nat) (hK : 0 < K) (hn : a.num.size ≤ K) (hd : a.den.size ≤ K) : (valR a).num.size ≤ K ∧ (valR a).den.size ≤ K := by
  unfold valR
  split
  · exact ⟨hn, hd⟩
  · exact ⟨Nat.zero_le _, hK⟩
set_option maxRecDepth 100000 in
set_option maxHeartbeats 1600000 in
theorem qText_any (a : Ra) (w : World) (hL : Laid w) (hn : a.num.size ≤ 1048576) (hd : a.den.size ≤ 1048576) :
    Calls Tryz.prog 95 #[a.v] w fun e w' => e = .returned (.string (textR a)) ∧ Below w.heap.size w w' := by
  obtain ⟨hvn, hvd⟩ := valR_size a 1048576 (by omega) hn hd
  have HR := Lib.hid (fun w => qvalue_any a w (by omega) (by omega))
  have HT : Hid (textR a = (let s := if (valR a).neg then ⟨#[45]⟩ ++ decS (vbs (valR a).num) else decS (vbs (valR a).num)
    if (valR a).den = nbs 1 then s else s ++ (⟨#[47]⟩ ++ decS (vbs (valR a).den)))) := rfl
  generalize textR a = tx at *
  obtain ⟨va, hva⟩ : ∃ va, valR a = va := ⟨_, rfl⟩
  rw [hva] at HR HT hvn hvd
  clear hva hn hd
  obtain ⟨vn, vu, vd⟩ := va
  have HTN := Lib.hid (fun w h => natText_any vu w h hvn)
  have HTD := Lib.hid (fun w h => natText_any vd w h hvd)
  have hs1 : (decS (vbs vu)).size ≤ 3145728 := decS_small vu hvn
  have hs2 : (decS (vbs vd)).size ≤ 3145728 := decS_small vd hvd
  obtain ⟨tn, htn⟩ : ∃ t, decS (vbs vu) = t := ⟨_, rfl⟩
  obtain ⟨td, htd⟩ : ∃ t, decS (vbs vd) = t := ⟨_, rfl⟩
  simp only at HT
  rw [htn] at hs1 HTN HT
  rw [htd] at hs2 HTD HT
  clear htn htd hvn hvd
  obtain ⟨de, hde⟩ : ∃ d, decide (vd = nbs 1) = d := ⟨_, rfl⟩
  have HDE := Lib.hid hde
  clear hde
  obtain ⟨neg, num, den⟩ := a
  unfold Ra.v at HR ⊢
  obtain ⟨W, hW⟩ : ∃ W, W = w.alloc (.cells #[.bool neg, .string num, .string den] 31) := ⟨_, rfl⟩
  have hba : Below w.heap.size w W := by rw [hW]; exact (Below.refl _ _).alloc (Nat.le_refl _) _
  have hblk : Blk W w.heap.size 31 [.bool neg, .string num, .string den] := by rw [hW]; exact Blk.new w _ _
  obtain ⟨B, hB⟩ : ∃ B, B = w.heap.size := ⟨_, rfl⟩
  have HB := Lib.hid hB
  rw [← hB] at hblk hba
  have hbs : B < W.heap.size := hblk.lt
  have HL := Lib.hid hL
  clear hL
  cases vn
  · go_enter Tryz.func95, Tryz.ntmps95
    go_wp2_with fail
    simp only [← hW, ← hB]
    clear hW hB
    refine (HR.out _).mono ?_
    rintro e w1 ⟨rfl, hb1⟩
    have hk1 := hblk.below hb1 hbs
    have hc0 := hk1.cell (i := 0) (by simp)
    have hc1 := hk1.cell (i := 1) (by simp)
    have hc2 := hk1.cell (i := 2) (by simp)
    have hf0 := hk1.frozen 0
    have hf1 := hk1.frozen 1
    have hf2 := hk1.frozen 2
    simp only [List.getElem_cons_zero, List.getElem_cons_succ] at hc0 hc1 hc2
    go_wp2_with fail
    have hk2 := ((hk1.set 0 (.bool false)).set 1 (.string vu)).set 2 (.string vd)
    simp only [List.set_cons_zero, List.set_cons_succ] at hk2
    have hb2 := (((hba.trans (hb1.mono (by omega))).setCell (show B ≤ (⟨B, 0, none⟩ : Addr).block from Nat.le_refl _) (.bool false)).setCell (show B ≤ (⟨B, 1, none⟩ : Addr).block from Nat.le_refl _) (.string vu)).setCell (show B ≤ (⟨B, 2, none⟩ : Addr).block from Nat.le_refl _) (.string vd)
    generalize ((w1.setCell ⟨B, 0, none⟩ (.bool false)).setCell ⟨B, 1, none⟩ (.string vu)).setCell ⟨B, 2, none⟩ (.string vd) = w2 at *
    clear hc0 hc1 hc2 hf0 hf1 hf2 hk1 hb1
    have hl2 := HL.out.below (by rw [← HB.out]; exact hb2)
    refine (HTN.out _ hl2).mono ?_
    rintro e w3 ⟨rfl, hb3⟩
    have hk3 := hk2.below hb3 hk2.lt
    have hl3 := hl2.below hb3
    have hbw3 : Below B w w3 := hb2.trans (hb3.mono (Nat.le_of_lt hk2.lt))
    have hbs3 : B < w3.heap.size := hk3.lt
    have HL3 := Lib.hid hl3; have HBW := Lib.hid hbw3
    clear hk2 hb2 hl2 hb3 hl3 hbw3 hbs
    obtain ⟨hc0, hc1, hc2⟩ := RaAt.of_blk (a := ⟨false, vu, vd⟩) hk3
    simp only at hc0 hc1 hc2
    have HK : Hid (∀ w' w1 : World, (w'.cell? ⟨B, 0, none⟩ = some (.bool false) ∧ w'.cell? ⟨B, 1, none⟩ = some (.string vu) ∧ w'.cell? ⟨B, 2, none⟩ = some (.string vd) ∧ Below w3.heap.size w3 w') → Below w'.heap.size w' w1 →
        (w1.cell? ⟨B, 0, none⟩ = some (.bool false) ∧ w1.cell? ⟨B, 1, none⟩ = some (.string vu) ∧ w1.cell? ⟨B, 2, none⟩ = some (.string vd) ∧ Below w3.heap.size w3 w1)) := by
      rintro w' w1 ⟨h0, h1, h2, hb⟩ hb1
      have hlt : B < w'.heap.size := Nat.lt_of_lt_of_le hbs3 hb.size
      exact ⟨(hb1.cell hlt).trans h0, (hb1.cell hlt).trans h1, (hb1.cell hlt).trans h2, bstep hb hb1⟩
    have HS : Hid (w3.drew.cell? ⟨B, 0, none⟩ = some (.bool false) ∧ w3.drew.cell? ⟨B, 1, none⟩ = some (.string vu) ∧ w3.drew.cell? ⟨B, 2, none⟩ = some (.string vd) ∧ Below w3.heap.size w3 w3.drew) :=
      ⟨hc0, hc1, hc2, below_drewN (Below.refl _ _) 1⟩
    clear hk3
    go_wp2_with fail
    clear hc0 hc1 hc2
    refine wp_region_noPanic ?_
    refine wp_region_held_drew (S := fun w' => w'.cell? ⟨B, 0, none⟩ = some (.bool false) ∧ w'.cell? ⟨B, 1, none⟩ = some (.string vu) ∧ w'.cell? ⟨B, 2, none⟩ = some (.string vd) ∧ Below w3.heap.size w3 w') (by kernel_rfl) HS.out (fun hHeld => ?_)
    refine wpAnyH_take (i := 0) (v := ?_) rfl (by kernel_rfl) (by kernel_rfl) (by kernel_rfl) (fun _ _ _ h => h) (Or.inl ⟨by kernel_rfl, ?_⟩) (by assumption) ?_
    rotate_left
    · intro w hSw; (try dsimp only at hSw); go_simp
      all_goals with_reducible rfl
    try simp only [Act.put, List.setIfInBounds_toArray, List.set_cons_zero, List.set_cons_succ, List.getElem_toArray, List.getElem_cons_succ, List.getElem_cons_zero]
    refine wpAnyH_take (i := 1) (v := ?_) rfl (by kernel_rfl) (by kernel_rfl) (by kernel_rfl) (fun _ _ _ h => h) (Or.inl ⟨by kernel_rfl, ?_⟩) (by assumption) ?_
    rotate_left
    · intro w hSw; (try dsimp only at hSw); go_simp
      all_goals with_reducible rfl
    try simp only [Act.put, List.setIfInBounds_toArray, List.set_cons_zero, List.set_cons_succ, List.getElem_toArray, List.getElem_cons_succ, List.getElem_cons_zero]
    refine wpAnyH_ready (rs := [2]) (by kernel_rfl) (by simp) ?_
    refine AllReadyH.cons rfl (fun K hK => ?_) AllReadyH.nil
    go_simp
    refine (natOf_one _).mono ?_
    rintro e w1 ⟨rfl, hb1⟩
    go_wp2_with fail
    refine hK.out _ _ ?_ (fun hHeld => ?_)
    · exact HK.out _ _ (by assumption) hb1
    clear hK K
    try simp only [Act.put, List.setIfInBounds_toArray, List.set_cons_zero, List.set_cons_succ, List.getElem_toArray, List.getElem_cons_succ, List.getElem_cons_zero]
    refine wpAnyH_take (i := 3) (v := .bool (!de)) rfl (by kernel_rfl) (by kernel_rfl) (by kernel_rfl) (fun _ _ _ h => h) (Or.inl ⟨by kernel_rfl, ?_⟩) (by assumption) ?_
    · intro w hSw; (try dsimp only at hSw); go_simp
      rw [← HDE.out]; exact beq_toList _ _
    try simp only [Act.put, List.setIfInBounds_toArray, List.set_cons_zero, List.set_cons_succ, List.getElem_toArray, List.getElem_cons_succ, List.getElem_cons_zero]
    refine wpAnyH_done (by kernel_rfl) ?_ _
    refine NoPanic.normal ?_
    obtain ⟨hd0, hd1, hd2, hd3⟩ := hHeld
    have HH := Lib.hid hd3
    clear hd3
    cases de
    · go_wp2_with fail
      refine (HTD.out _ (HL3.out.below HH.out)).mono ?_
      rintro e w5 ⟨rfl, hb5⟩
      go_wp2
      go_ret
      refine ⟨?_, ?_⟩
      · have h := HT.out
        rw [if_neg (of_decide_eq_false HDE.out)] at h
        rw [h]; rfl
      · have h := HBW.out.trans ((bstep HH.out hb5).mono (Nat.le_of_lt hbs3))
        rw [← HB.out]; exact h
    · go_wp2
      go_ret
      refine ⟨?_, ?_⟩
      · have h := HT.out
        rw [if_pos (of_decide_eq_true HDE.out)] at h
        rw [h]; rfl
      · have h := HBW.out.trans (HH.out.mono (Nat.le_of_lt hbs3))
        rw [← HB.out]; exact h
  · go_enter Tryz.func95, Tryz.ntmps95
    go_wp2_with fail
    simp only [← hW, ← hB]
    clear hW hB
    refine (HR.out _).mono ?_
    rintro e w1 ⟨rfl, hb1⟩
    have hk1 := hblk.below hb1 hbs
    have hc0 := hk1.cell (i := 0) (by simp)
    have hc1 := hk1.cell (i := 1) (by simp)
    have hc2 := hk1.cell (i := 2) (by simp)
    have hf0 := hk1.frozen 0
    have hf1 := hk1.frozen 1
    have hf2 := hk1.frozen 2
    simp only [List.getElem_cons_zero, List.getElem_cons_succ] at hc0 hc1 hc2
    go_wp2_with fail
    have hk2 := ((hk1.set 0 (.bool true)).set 1 (.string vu)).set 2 (.string vd)
    simp only [List.set_cons_zero, List.set_cons_succ] at hk2
    have hb2 := (((hba.trans (hb1.mono (by omega))).setCell (show B ≤ (⟨B, 0, none⟩ : Addr).block from Nat.le_refl _) (.bool true)).setCell (show B ≤ (⟨B, 1, none⟩ : Addr).block from Nat.le_refl _) (.string vu)).setCell (show B ≤ (⟨B, 2, none⟩ : Addr).block from Nat.le_refl _) (.string vd)
    generalize ((w1.setCell ⟨B, 0, none⟩ (.bool true)).setCell ⟨B, 1, none⟩ (.string vu)).setCell ⟨B, 2, none⟩ (.string vd) = w2 at *
    clear hc0 hc1 hc2 hf0 hf1 hf2 hk1 hb1
    have hl2 := HL.out.below (by rw [← HB.out]; exact hb2)
    refine (HTN.out _ hl2).mono ?_
    rintro e w3 ⟨rfl, hb3⟩
    have hk3 := hk2.below hb3 hk2.lt
    have hl3 := hl2.below hb3
    have hbw3 : Below B w w3 := hb2.trans (hb3.mono (Nat.le_of_lt hk2.lt))
    have hbs3 : B < w3.heap.size := hk3.lt
    have HL3 := Lib.hid hl3; have HBW := Lib.hid hbw3
    clear hk2 hb2 hl2 hb3 hl3 hbw3 hbs
    obtain ⟨hc0, hc1, hc2⟩ := RaAt.of_blk (a := ⟨true, vu, vd⟩) hk3
    simp only at hc0 hc1 hc2
    have HK : Hid (∀ w' w1 : World, (w'.cell? ⟨B, 0, none⟩ = some (.bool true) ∧ w'.cell? ⟨B, 1, none⟩ = some (.string vu) ∧ w'.cell? ⟨B, 2, none⟩ = some (.string vd) ∧ Below w3.heap.size w3 w') → Below w'.heap.size w' w1 →
        (w1.cell? ⟨B, 0, none⟩ = some (.bool true) ∧ w1.cell? ⟨B, 1, none⟩ = some (.string vu) ∧ w1.cell? ⟨B, 2, none⟩ = some (.string vd) ∧ Below w3.heap.size w3 w1)) := by
      rintro w' w1 ⟨h0, h1, h2, hb⟩ hb1
      have hlt : B < w'.heap.size := Nat.lt_of_lt_of_le hbs3 hb.size
      exact ⟨(hb1.cell hlt).trans h0, (hb1.cell hlt).trans h1, (hb1.cell hlt).trans h2, bstep hb hb1⟩
    have HS : Hid (w3.drew.cell? ⟨B, 0, none⟩ = some (.bool true) ∧ w3.drew.cell? ⟨B, 1, none⟩ = some (.string vu) ∧ w3.drew.cell? ⟨B, 2, none⟩ = some (.string vd) ∧ Below w3.heap.size w3 w3.drew) :=
      ⟨hc0, hc1, hc2, below_drewN (Below.refl _ _) 1⟩
    clear hk3
    go_wp2_with fail
    clear hc0 hc1 hc2
    refine wp_region_noPanic ?_
    refine wp_region_held_drew (S := fun w' => w'.cell? ⟨B, 0, none⟩ = some (.bool true) ∧ w'.cell? ⟨B, 1, none⟩ = some (.string vu) ∧ w'.cell? ⟨B, 2, none⟩ = some (.string vd) ∧ Below w3.heap.size w3 w') (by kernel_rfl) HS.out (fun hHeld => ?_)
    refine wpAnyH_take (i := 0) (v := ?_) rfl (by kernel_rfl) (by kernel_rfl) (by kernel_rfl) (fun _ _ _ h => h) (Or.inl ⟨by kernel_rfl, ?_⟩) (by assumption) ?_
    rotate_left
    · intro w hSw; (try dsimp only at hSw); go_simp
      all_goals with_reducible rfl
    try simp only [Act.put, List.setIfInBounds_toArray, List.set_cons_zero, List.set_cons_succ, List.getElem_toArray, List.getElem_cons_succ, List.getElem_cons_zero]
    refine wpAnyH_take (i := 1) (v := ?_) rfl (by kernel_rfl) (by kernel_rfl) (by kernel_rfl) (fun _ _ _ h => h) (Or.inl ⟨by kernel_rfl, ?_⟩) (by assumption) ?_
    rotate_left
    · intro w hSw; (try dsimp only at hSw); go_simp
      all_goals with_reducible rfl
    try simp only [Act.put, List.setIfInBounds_toArray, List.set_cons_zero, List.set_cons_succ, List.getElem_toArray, List.getElem_cons_succ, List.getElem_cons_zero]
    refine wpAnyH_ready (rs := [2]) (by kernel_rfl) (by simp) ?_
    refine AllReadyH.cons rfl (fun K hK => ?_) AllReadyH.nil
    go_simp
    refine (natOf_one _).mono ?_
    rintro e w1 ⟨rfl, hb1⟩
    go_wp2_with fail
    refine hK.out _ _ ?_ (fun hHeld => ?_)
    · exact HK.out _ _ (by assumption) hb1
    clear hK K
    try simp only [Act.put, List.setIfInBounds_toArray, List.set_cons_zero, List.set_cons_succ, List.getElem_toArray, List.getElem_cons_succ, List.getElem_cons_zero]
    refine wpAnyH_take (i := 3) (v := .bool (!de)) rfl (by kernel_rfl) (by kernel_rfl) (by kernel_rfl) (fun _ _ _ h => h) (Or.inl ⟨by kernel_rfl, ?_⟩) (by assumption) ?_
    · intro w hSw; (try dsimp only at hSw); go_simp
      rw [← HDE.out]; exact beq_toList _ _
    try simp only [Act.put, List.setIfInBounds_toArray, List.set_cons_zero, List.set_cons_succ, List.getElem_toArray, List.getElem_cons_succ, List.getElem_cons_zero]
    refine wpAnyH_done (by kernel_rfl) ?_ _
    refine NoPanic.normal ?_
    obtain ⟨hd0, hd1, hd2, hd3⟩ := hHeld
    have HH := Lib.hid hd3
    clear hd3
    cases de
    · go_wp2_with fail
      refine (HTD.out _ (HL3.out.below HH.out)).mono ?_
      rintro e w5 ⟨rfl, hb5⟩
      go_wp2
      go_ret
      refine ⟨?_, ?_⟩
      · have h := HT.out
        rw [if_neg (of_decide_eq_false HDE.out)] at h
        rw [h]; rfl
      · have h := HBW.out.trans ((bstep HH.out hb5).mono (Nat.le_of_lt hbs3))
        rw [← HB.out]; exact h
    · go_wp2
      go_ret
      refine ⟨?_, ?_⟩
      · have h := HT.out
        rw [if_pos (of_decide_eq_true HDE.out)] at h
        rw [h]; rfl
      · have h := HBW.out.trans (HH.out.mono (Nat.le_of_lt hbs3))
        rw [← HB.out]; exact h
end Go.Proofs.YtbicehdehiakgaaGreatDoor
namespace Go.Proofs.YtbicehdehiakgaaGreatDoor
open Go.RowKit
def cutR (s : List UInt8) : Bool × List UInt8 × List UInt8 :=
  let c := Lib.cut (Lib.trimPrefix s [45]) [47]
  (Lib.hasPrefix s [45], c.1, if c.2.2 then c.2.1 else [49])
def ratParse (s : ByteArray) : Ra × Bool :=
  let c := cutR s.data.toList
  let n := natParse c.2.1
  let d := natParse c.2.2
  let m := mkR c.1 n.1 d.1
  if n.2 && d.2 && m.2 && decide (textR m.1 = s) then (m.1, true) else (⟨false, ⟨#[]⟩, ⟨#[]⟩⟩, false)
theorem trimPrefix_len (s p : List UInt8) : (Lib.trimPrefix s p).length ≤ s.length := by
  unfold Lib.trimPrefix
  split
  · simp
  · exact Nat.le_refl _
theorem cut_len (s p : List UInt8) : (Lib.cut s p).1.length ≤ s.length ∧ (Lib.cut s p).2.1.length ≤ s.length := by
  unfold Lib.cut
  split <;> simp <;> omega
theorem natParse_size (l : List UInt8) : (natParse l).1.size ≤ l.length := by
  unfold natParse
  split
  · next h =>
    simp only [parseOk, Bool.and_eq_true] at h
    refine nbs_size_le _ _ (Nat.lt_of_lt_of_le (decVal_lt l h.2) (Nat.pow_le_pow_left (by omega) _))
  · show 0 ≤ _; omega
theorem low_size (neg : Bool) (n d K : Nat) (hn : n < 256 ^ K) (hd : d < 256 ^ K) : (low neg n d).num.size ≤ K ∧ (low neg n d).den.size ≤ K :=
  ⟨nbs_size_le _ _ (Nat.lt_of_le_of_lt (Nat.div_le_self _ _) hn), nbs_size_le _ _ (Nat.lt_of_le_of_lt (Nat.div_le_self _ _) hd)⟩
theorem mkR_size (neg : Bool) (n d : ByteArray) (K : Nat) (hn : n.size ≤ K) (hd : d.size ≤ K) : (mkR neg n d).1.num.size ≤ K ∧ (mkR neg n d).1.den.size ≤ K := by
  unfold mkR
  split
  · exact low_size _ _ _ _ (Nat.lt_of_lt_of_le (vbs_lt n) (Nat.pow_le_pow_right (by omega) hn)) (Nat.lt_of_lt_of_le (vbs_lt d) (Nat.pow_le_pow_right (by omega) hd))
  · exact ⟨Nat.zero_le _, Nat.zero_le _⟩
theorem Blk.cells {w : World} {b : Nat} {t : TypeId} {cs : List Value} (h : Blk w b t cs) : ∀ i, w.cell? ⟨b, i, none⟩ = cs[i]? := by
  intro i
  unfold Blk at h
  simp [World.cell?, h]
theorem Blk.froz {w : World} {b : Nat} {t : TypeId} {cs : List Value} (h : Blk w b t cs) : ∀ i, w.frozen? ⟨b, i, none⟩ = false := fun i => h.frozen i
theorem below_set3 {B : Nat} {w w' : World} (h : Below B w w') (x y z : Value) : Below B w (((w'.setCell ⟨B, 0, none⟩ x).setCell ⟨B, 1, none⟩ y).setCell ⟨B, 2, none⟩ z) :=
  ((h.setCell (p := ⟨B, 0, none⟩) (Nat.le_refl _) _).setCell (p := ⟨B, 1, none⟩) (Nat.le_refl _) _).setCell (p := ⟨B, 2, none⟩) (Nat.le_refl _) _
theorem Laid.drewN {w : World} (h : Laid w) (n : Nat) : Laid (w.drewN n) := h.below (drewN_below _ _ _)
set_option maxRecDepth 100000 in
set_option maxHeartbeats 1600000 in
theorem qParse_any (s : ByteArray) (w : World) (hL : Laid w) (hs : s.size ≤ 1048576) :
    Calls Tryz.prog 119 #[.string s] w fun e w' => e = .returned (.tuple #[(ratParse s).1.v, .bool (ratParse s).2]) ∧ Below w.heap.size w w' := by
  have hP : ∀ c, cutR s.data.toList = c → ∀ n, natParse c.2.1 = n → ∀ d, natParse c.2.2 = d → ∀ m, mkR c.1 n.1 d.1 = m →
      ratParse s = if n.2 && d.2 && m.2 && decide (textR m.1 = s) then (m.1, true) else (⟨false, ⟨#[]⟩, ⟨#[]⟩⟩, false) := by
    rintro c rfl n rfl d rfl m rfl; rfl
  unfold cutR at hP
  have HCP : ∀ w : World, Calls Tryz.prog 116 #[.string s, .string ⟨#[45]⟩] w fun e w' => e = .returned (.tuple #[.string ⟨(Lib.trimPrefix s.data.toList [45]).toArray⟩, .bool (Lib.hasPrefix s.data.toList [45])]) ∧ w' = w := fun w => Tryz.strings_CutPrefix s ⟨#[45]⟩ w
  have hrl := trimPrefix_len s.data.toList [45]
  generalize Lib.hasPrefix s.data.toList [45] = neg at *
  generalize Lib.trimPrefix s.data.toList [45] = rest at *
  have hrl' : rest.length ≤ 1048576 := Nat.le_trans hrl (by simpa using hs)
  have HC : ∀ (w : World) (m : Int), w.cell? ⟨1, 0, none⟩ = some (.int .i64 m) → Calls Tryz.prog 156 #[.string ⟨rest.toArray⟩, .string ⟨#[47]⟩] w fun e w' => e = .returned (.tuple #[.string ⟨(Lib.cut rest [47]).1.toArray⟩, .string ⟨(Lib.cut rest [47]).2.1.toArray⟩, .bool (Lib.cut rest [47]).2.2]) ∧ ∃ n, w' = w.drewN n :=
    fun w m h => Tryz.strings_Cut ⟨rest.toArray⟩ ⟨#[47]⟩ m w (by show rest.length < _; omega) h
  obtain ⟨hnl, hdl⟩ := cut_len rest [47]
  generalize Lib.cut rest [47] = ct at *
  obtain ⟨nu, de0, fnd⟩ := ct
  simp only at hP HC hnl hdl
  have HCP := Lib.hid HCP
  have HC := Lib.hid HC
  obtain ⟨de, hde⟩ : ∃ d, (if fnd then de0 else [49]) = d := ⟨_, rfl⟩
  have hdel : de.length ≤ 1048576 := by subst hde; cases fnd <;> simp <;> omega
  rw [hde] at hP
  obtain ⟨⟨pn, bn⟩, hpn⟩ : ∃ n, natParse nu = n := ⟨_, rfl⟩
  obtain ⟨⟨pd, bd⟩, hpd⟩ : ∃ n, natParse de = n := ⟨_, rfl⟩
  obtain ⟨⟨m, bm⟩, hm⟩ : ∃ n, mkR neg pn pd = n := ⟨_, rfl⟩
  have HP := Lib.hid (hP _ rfl _ hpn _ hpd _ hm)
  have hpns := natParse_size nu
  have hpds := natParse_size de
  have hms := mkR_size neg pn pd 1048576 (by rw [hpn] at hpns; simp only at hpns; omega) (by rw [hpd] at hpds; simp only at hpds; omega)
  rw [hpn] at hpns; rw [hpd] at hpds; rw [hm] at hms
  simp only at hpns hpds hms
  have HN : Hid (∀ W, Calls Tryz.prog 157 #[.string ⟨nu.toArray⟩] W fun e w' => e = .returned (.tuple #[.string pn, .bool bn]) ∧ Below W.heap.size W w') := fun W =>
    (natParse_any ⟨nu.toArray⟩ W (by show nu.length ≤ _; omega)).mono (by
      rintro e w' ⟨rfl, hb⟩
      exact ⟨by show Ending.returned (.tuple #[.string (natParse nu).1, .bool (natParse nu).2]) = _; rw [hpn], hb⟩)
  have HD : Hid (∀ W, Calls Tryz.prog 157 #[.string ⟨de.toArray⟩] W fun e w' => e = .returned (.tuple #[.string pd, .bool bd]) ∧ Below W.heap.size W w') := fun W =>
    (natParse_any ⟨de.toArray⟩ W (by show de.length ≤ _; omega)).mono (by
      rintro e w' ⟨rfl, hb⟩
      exact ⟨by show Ending.returned (.tuple #[.string (natParse de).1, .bool (natParse de).2]) = _; rw [hpd], hb⟩)
  have HM := Lib.hid (fun W => qMake_any neg pn pd W (by omega) (by omega))
  rw [hm] at HM
  have HT := Lib.hid (fun W hL => qText_any m W hL hms.1 hms.2)
  obtain ⟨d, hd⟩ : ∃ d, decide (textR m = s) = d := ⟨_, rfl⟩
  generalize textR m = tx at *
  rw [hd] at HP
  have e1 : (tx.toList == s.toList) = d := by rw [beq_toList, hd]
  have e2 : (tx.toList != s.toList) = !d := by rw [← e1]; rfl
  clear hP hpn hpd hm hpns hpds hms hrl hrl' hnl hdl hdel hs hd
  obtain ⟨mn, mu, md⟩ := m
  unfold Ra.v at HM HT
  simp only at HM HT HP
  obtain ⟨W, hW⟩ : ∃ W, W = w.alloc (.cells #[.bool false, .string ⟨#[]⟩, .string ⟨#[]⟩] 31) := ⟨_, rfl⟩
  have hba : Below w.heap.size w W := by rw [hW]; exact (Below.refl _ _).alloc (Nat.le_refl _) _
  have hblk : Blk W w.heap.size 31 [.bool false, .string ⟨#[]⟩, .string ⟨#[]⟩] := by rw [hW]; exact Blk.new w _ _
  obtain ⟨B, hB⟩ : ∃ B, B = w.heap.size := ⟨_, rfl⟩
  rw [← hB] at hblk
  have HB := Lib.hid hB
  have hLW := hL.below hba
  obtain ⟨ml, hml⟩ := hLW.cut.2
  have HLW := Lib.hid hLW; have HML := Lib.hid hml; have HBA := Lib.hid hba; have HBK := Lib.hid hblk
  clear hL hLW hml hba hblk
  cases fnd
  all_goals
    simp only [if_true, if_false, Bool.false_eq_true] at hde
    subst hde
    go_enter Tryz.func119, Tryz.ntmps119
    go_wp2_with fail
    simp only [← hW, ← hB]
    clear hW hB
    refine (HCP.out _).mono ?_
    rintro e w1 ⟨rfl, rfl⟩
    go_wp2_with fail
    refine (HC.out _ ml HML.out).mono ?_
    rintro e w2 ⟨rfl, nn, rfl⟩
    go_wp2_with fail
    refine (HN.out _).mono ?_
    rintro e w3 ⟨rfl, hb3⟩
    go_wp2_with fail
    refine (HD.out _).mono ?_
    rintro e w4 ⟨rfl, hb4⟩
    go_wp2_with fail
    refine (HM.out _).mono ?_
    rintro e w5 ⟨rfl, hb5⟩
    have hbw := bstep (bstep (bstep (drewN_below _ w1 nn) hb3) hb4) hb5
    have hk5 := HBK.out.below hbw HBK.out.lt
    have hl5 := HLW.out.below hbw
    have hkB := hk5.alloc (.cells #[.bool mn, .string mu, .string md] 31)
    have hc := hkB.cells
    have hf := hkB.froz
    have hl6 := hl5.below ((Below.refl _ _).alloc (Nat.le_refl _) (.cells #[.bool mn, .string mu, .string md] 31))
    have hkA := Blk.new w5 31 #[.bool mn, .string mu, .string md]
    have hB5 : Below B w (w5.alloc (.cells #[.bool mn, .string mu, .string md] 31)) := by rw [HB.out]; exact (bstep HBA.out hbw).alloc (by have := HBA.out.size; have := hbw.size; omega) _
    have HBB := Lib.hid hB5; have HAA := Lib.hid hkA; have HKB := Lib.hid hkB
    clear hbw hb3 hb4 hb5 hk5 hkA hB5 hkB hl5
    cases bn <;> cases bd <;> cases bm
    all_goals
      go_wp2_with fail
      first
      | (refine bodyPost_ret (v := .tuple #[.agg #[.bool false, .string ⟨#[]⟩, .string ⟨#[]⟩], .bool false]) (by simp [results, Tryz.results119, go_sem, hc]) rfl ⟨?_, ?_⟩
         · rw [HP.out]; rfl
         · rw [← HB.out]; exact below_set3 HBB.out _ _ _)
      | (refine (HT.out _ hl6).mono ?_
         rintro e w7 ⟨rfl, hb7⟩
         clear hc hf
         have hkB := HKB.out.below hb7 HKB.out.lt
         have hkA := HAA.out.below hb7 HAA.out.lt
         have hbw := HBB.out.trans (hb7.mono (Nat.le_of_lt HKB.out.lt))
         have hc := hkB.cells
         have hf := hkB.froz
         have hcA := hkA.cells
         have HBB := Lib.hid hbw
         clear hkA hkB hb7 hbw hl6
         cases d
         all_goals
           go_wp2_with fail
           refine bodyPost_ret (v := .tuple #[(ratParse s).1.v, .bool (ratParse s).2]) (by rw [HP.out]; simp [results, Tryz.results119, go_sem, hc, Ra.v]) rfl ⟨rfl, ?_⟩
           rw [← HB.out]; exact below_set3 HBB.out _ _ _)
end Go.Proofs.YtbicehdehiakgaaGreatDoor
