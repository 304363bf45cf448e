/- A part of the proof: Q5 Q6 Q7 Q8 E1. -/
import Derived.Test.YtbicehdehiakgaaGreatDoorE02
import Derived.Test.YtbicehdehiakgaaGreatDoorE14
set_option linter.unusedVariables false
set_option linter.unusedSimpArgs false
namespace Go.Proofs.YtbicehdehiakgaaGreatDoor
open Go.RowKit
def mkR (neg : Bool) (num den : ByteArray) : Ra × Bool :=
 if rightS den && decide (0 < vbs den) && rightS num then (low neg (vbs num) (vbs den), true) else (⟨false, ⟨#[]⟩, ⟨#[]⟩⟩, false)
set_option maxRecDepth 100000 in
set_option maxHeartbeats 800000 in
theorem qMake_any (neg : Bool) (num den : ByteArray) (w : World) (hn : num.size ≤ 536870912) (hd : den.size ≤ 536870912) :
  Calls Tryz.prog 158 #[.bool neg, .string num, .string den] w fun e w' => e = .returned (.tuple #[(mkR neg num den).1.v, .bool (mkR neg num den).2]) ∧ Below w.heap.size w w' := by
 obtain ⟨W, hW⟩ : ∃ W, W = w.alloc (.cells #[.bool false, .string ⟨#[]⟩, .string ⟨#[]⟩] 31) := ⟨_, rfl⟩
 have hba : Below w.heap.size w W := by rw [hW]; exact (Below.refl _ _).alloc (Nat.le_refl _) _
 have hblk : Blk W w.heap.size 31 [.bool false, .string ⟨#[]⟩, .string ⟨#[]⟩] := by rw [hW]; exact Blk.new w _ _
 have HP := Lib.hid (fun w => qpos_any den w (by omega))
 have HR := Lib.hid (fun w => natRight_any num w)
 have HM : Hid (mkR neg num den = if rightS den && decide (0 < vbs den) && rightS num then (low neg (vbs num) (vbs den), true) else (⟨false, ⟨#[]⟩, ⟨#[]⟩⟩, false)) := rfl
 cases hp : (rightS den && decide (0 < vbs den))
 ·rw [hp] at HP HM
  clear hp
  go_enter Tryz.func158, Tryz.ntmps158
  go_wp2_with fail
  simp only [← hW]
  clear hW
  refine (HP.out _).mono ?_
  rintro e w1 ⟨rfl, hb1⟩
  have hk3 := hblk.below hb1 hblk.lt
  have hc0 := hk3.cell (i := 0) (by decide)
  have hc1 := hk3.cell (i := 1) (by decide)
  have hc2 := hk3.cell (i := 2) (by decide)
  have hf0 := hk3.frozen 0
  have hf1 := hk3.frozen 1
  have hf2 := hk3.frozen 2
  simp only [List.getElem_cons_zero, List.getElem_cons_succ] at hc0 hc1 hc2
  have hbw := bstep hba hb1
  go_wp2
  refine bodyPost_ret (v := .tuple #[.agg #[.bool false, .string ⟨#[]⟩, .string ⟨#[]⟩], .bool false]) (by simp [results, Tryz.results158, go_sem, hc0, hc1, hc2]) rfl ⟨?_, ((hbw.setCell (Nat.le_refl _) _).setCell (Nat.le_refl _) _).setCell (Nat.le_refl _) _⟩
  rw [HM.out]; rfl
 ·rw [hp] at HP HM
  cases hr : rightS num
  ·rw [hr] at HR HM
   clear hp hr
   go_enter Tryz.func158, Tryz.ntmps158
   go_wp2_with fail
   simp only [← hW]
   clear hW
   refine (HP.out _).mono ?_
   rintro e w1 ⟨rfl, hb1⟩
   go_wp2_with fail
   refine (HR.out _).mono ?_
   rintro e w2 ⟨rfl, rfl⟩
   have hk3 := hblk.below hb1 hblk.lt
   have hc0 := hk3.cell (i := 0) (by decide)
   have hc1 := hk3.cell (i := 1) (by decide)
   have hc2 := hk3.cell (i := 2) (by decide)
   have hf0 := hk3.frozen 0
   have hf1 := hk3.frozen 1
   have hf2 := hk3.frozen 2
   simp only [List.getElem_cons_zero, List.getElem_cons_succ] at hc0 hc1 hc2
   have hbw := bstep hba hb1
   go_wp2
   refine bodyPost_ret (v := .tuple #[.agg #[.bool false, .string ⟨#[]⟩, .string ⟨#[]⟩], .bool false]) (by simp [results, Tryz.results158, go_sem, hc0, hc1, hc2]) rfl ⟨?_, ((hbw.setCell (Nat.le_refl _) _).setCell (Nat.le_refl _) _).setCell (Nat.le_refl _) _⟩
   rw [HM.out]; rfl
  ·rw [hr] at HR HM
   rw [Bool.and_eq_true, decide_eq_true_eq] at hp
   have en := (rightS_iff num).1 hr
   have ed := (rightS_iff den).1 hp.1
   have hvn := vbs_lt num
   have hvd := vbs_lt den
   obtain ⟨K, hK⟩ : ∃ K, K = 536870912 := ⟨_, rfl⟩
   have HL := Lib.hid (fun w => qlowest_any neg (vbs num) (vbs den) K w (Nat.le_of_eq hK) (vbs_le num K (by rw [hK]; exact hn)) (vbs_le den K (by rw [hK]; exact hd)) hp.2)
   clear hK
   rw [← en, ← ed] at HL
   obtain ⟨lw, hlw⟩ : ∃ lw, low neg (vbs num) (vbs den) = lw := ⟨_, rfl⟩
   rw [hlw] at HL HM
   obtain ⟨ln, lu, ld⟩ := lw
   clear hr hp en ed hvn hvd hlw
   go_enter Tryz.func158, Tryz.ntmps158
   go_wp2_with fail
   simp only [← hW]
   clear hW
   refine (HP.out _).mono ?_
   rintro e w1 ⟨rfl, hb1⟩
   go_wp2_with fail
   refine (HR.out _).mono ?_
   rintro e w2 ⟨rfl, rfl⟩
   go_wp2_with fail
   refine (HL.out _).mono ?_
   rintro e w3 ⟨rfl, hb3⟩
   have hb13 := bstep hb1 hb3
   have hk3 := hblk.below hb13 hblk.lt
   have hc0 := hk3.cell (i := 0) (by decide)
   have hc1 := hk3.cell (i := 1) (by decide)
   have hc2 := hk3.cell (i := 2) (by decide)
   have hf0 := hk3.frozen 0
   have hf1 := hk3.frozen 1
   have hf2 := hk3.frozen 2
   simp only [List.getElem_cons_zero, List.getElem_cons_succ] at hc0 hc1 hc2
   have hbw := bstep hba hb13
   simp only [Ra.v]
   go_wp2
   refine bodyPost_ret (v := .tuple #[.agg #[.bool ln, .string lu, .string ld], .bool true]) (by simp [results, Tryz.results158, go_sem, hc0, hc1, hc2]) rfl ⟨?_, ((hbw.setCell (Nat.le_refl _) _).setCell (Nat.le_refl _) _).setCell (Nat.le_refl _) _⟩
   rw [HM.out]; rfl
end Go.Proofs.YtbicehdehiakgaaGreatDoor
namespace Go.Proofs.YtbicehdehiakgaaGreatDoor
open Go.RowKit
def signR (a : Ra) : Int := if okR a then (if a = ofI 0 then 0 else if a.neg then -1 else 1) else 0
set_option maxRecDepth 100000 in
set_option maxHeartbeats 1600000 in
theorem qSign_any (a : Ra) (w : World) (hn : a.num.size ≤ 536870912) (hd : a.den.size ≤ 536870912) :
  Calls Tryz.prog 80 #[a.v] w fun e w' => e = .returned (.int .i64 (signR a)) ∧ Below w.heap.size w w' := by
 have HR := Lib.hid (fun w => qRight_any a w hn hd)
 have HV : Hid (signR a = if okR a then (if a = ofI 0 then 0 else if a.neg then -1 else 1) else 0) := rfl
 obtain ⟨o, ho⟩ : ∃ o, okR a = o := ⟨_, rfl⟩
 rw [ho] at HR HV
 clear ho hn hd
 obtain ⟨z, hz⟩ : ∃ z, signR a = z := ⟨_, rfl⟩
 rw [hz] at HV ⊢
 clear hz
 obtain ⟨neg, num, den⟩ := a
 obtain ⟨dq, hdq⟩ : ∃ d, decide ((⟨neg, num, den⟩ : Ra) = ofI 0) = d := ⟨_, rfl⟩
 have HDQ := Lib.hid hdq
 clear hdq
 have HZ : Hid (z = if o then (if dq then 0 else if neg then -1 else 1) else 0) := by
  show _ = _
  have h := HV.out
  rw [h, ← HDQ.out]
  simp
 clear HV
 unfold Ra.v at HR ⊢
 obtain ⟨W, hW⟩ : ∃ W, W = w.alloc (.cells #[.bool neg, .string num, .string den] 31) := ⟨_, rfl⟩
 have hba : Below w.heap.size w W := by rw [hW]; exact (Below.refl _ _).alloc (Nat.le_refl _) _
 have hblk : Blk W w.heap.size 31 [.bool neg, .string num, .string den] := by rw [hW]; exact Blk.new w _ _
 obtain ⟨B, hB⟩ : ∃ B, B = w.heap.size := ⟨_, rfl⟩
 rw [← hB] at hblk
 have hbs : B < W.heap.size := hblk.lt
 have hc := RaAt.of_blk (a := ⟨neg, num, den⟩) hblk
 obtain ⟨hc0, hc1, hc2⟩ := hc
 have HK : Hid (∀ w' w1 : World, (w'.cell? ⟨B, 0, none⟩ = some (.bool neg) ∧ w'.cell? ⟨B, 1, none⟩ = some (.string num) ∧ w'.cell? ⟨B, 2, none⟩ = some (.string den) ∧ Below W.heap.size W w') → Below w'.heap.size w' w1 →
   (w1.cell? ⟨B, 0, none⟩ = some (.bool neg) ∧ w1.cell? ⟨B, 1, none⟩ = some (.string num) ∧ w1.cell? ⟨B, 2, none⟩ = some (.string den) ∧ Below W.heap.size W w1)) := by
  rintro w' w1 ⟨h0, h1, h2, hb⟩ hb1
  have hlt : B < w'.heap.size := Nat.lt_of_lt_of_le hbs hb.size
  exact ⟨(hb1.cell hlt).trans h0, (hb1.cell hlt).trans h1, (hb1.cell hlt).trans h2, bstep hb hb1⟩
 have HS : Hid (W.drew.cell? ⟨B, 0, none⟩ = some (.bool neg) ∧ W.drew.cell? ⟨B, 1, none⟩ = some (.string num) ∧ W.drew.cell? ⟨B, 2, none⟩ = some (.string den) ∧ Below W.heap.size W W.drew) :=
  ⟨hc0, hc1, hc2, below_drewN (Below.refl _ _) 1⟩
 clear hblk hc0 hc1 hc2
 cases o
 ·go_enter Tryz.func80, Tryz.ntmps80
  go_wp2_with fail
  simp only [← hW, ← hB]
  clear hW hB
  refine wp_region_noPanic ?_
  refine wp_region_held_drew (S := fun w' => w'.cell? ⟨B, 0, none⟩ = some (.bool neg) ∧ w'.cell? ⟨B, 1, none⟩ = some (.string num) ∧ w'.cell? ⟨B, 2, none⟩ = some (.string den) ∧ Below W.heap.size W w') (by kernel_rfl) HS.out (fun hHeld => ?_)
  refine wpAnyH_take (i := 0) (v := ?_) rfl (by kernel_rfl) (by kernel_rfl) (by kernel_rfl) (fun _ _ _ h => h) (Or.inl ⟨by kernel_rfl, ?_⟩) (by assumption) ?_
  rotate_left
  ·intro w hSw; (try dsimp only at hSw); go_simp
   all_goals with_reducible rfl
  try simp only [Act.put, List.setIfInBounds_toArray, List.set_cons_zero, List.set_cons_succ, List.getElem_toArray, List.getElem_cons_succ, List.getElem_cons_zero]
  refine wpAnyH_ready (rs := [1]) (by kernel_rfl) (by simp) ?_
  refine AllReadyH.cons rfl (fun K hK => ?_) AllReadyH.nil
  go_simp
  refine (HR.out _).mono ?_
  rintro e w1 ⟨rfl, hb1⟩
  go_wp2_with fail
  refine hK.out _ _ ?_ (fun hHeld => ?_)
  ·exact HK.out _ _ (by assumption) hb1
  clear hK K
  try simp only [Act.put, List.setIfInBounds_toArray, List.set_cons_zero, List.set_cons_succ, List.getElem_toArray, List.getElem_cons_succ, List.getElem_cons_zero]
  refine wpAnyH_take (i := 2) (v := ?_) rfl (by kernel_rfl) (by kernel_rfl) (by kernel_rfl) (fun _ _ _ h => h) (Or.inl ⟨by kernel_rfl, ?_⟩) (by assumption) ?_
  rotate_left
  ·intro w hSw; (try dsimp only at hSw); go_simp
   all_goals with_reducible rfl
  try simp only [Act.put, List.setIfInBounds_toArray, List.set_cons_zero, List.set_cons_succ, List.getElem_toArray, List.getElem_cons_succ, List.getElem_cons_zero]
  refine wpAnyH_take (i := 3) (v := ?_) rfl (by kernel_rfl) (by kernel_rfl) (by kernel_rfl) (fun _ _ _ h => h) (Or.inl ⟨by kernel_rfl, ?_⟩) (by assumption) ?_
  rotate_left
  ·intro w hSw; (try dsimp only at hSw); go_simp
   all_goals with_reducible rfl
  try simp only [Act.put, List.setIfInBounds_toArray, List.set_cons_zero, List.set_cons_succ, List.getElem_toArray, List.getElem_cons_succ, List.getElem_cons_zero]
  refine wpAnyH_take (i := 4) (v := undef) rfl (by kernel_rfl) (by kernel_rfl) (by kernel_rfl) (fun _ _ _ h => h) (Or.inr ⟨by kernel_rfl, rfl⟩) (by assumption) ?_
  try simp only [Act.put, List.setIfInBounds_toArray, List.set_cons_zero, List.set_cons_succ, List.getElem_toArray, List.getElem_cons_succ, List.getElem_cons_zero]
  refine wpAnyH_take (i := 5) (v := undef) rfl (by kernel_rfl) (by kernel_rfl) (by kernel_rfl) (fun _ _ _ h => h) (Or.inr ⟨by kernel_rfl, rfl⟩) (by assumption) ?_
  try simp only [Act.put, List.setIfInBounds_toArray, List.set_cons_zero, List.set_cons_succ, List.getElem_toArray, List.getElem_cons_succ, List.getElem_cons_zero]
  refine wpAnyH_take (i := 6) (v := undef) rfl (by kernel_rfl) (by kernel_rfl) (by kernel_rfl) (fun _ _ _ h => h) (Or.inr ⟨by kernel_rfl, rfl⟩) (by assumption) ?_
  try simp only [Act.put, List.setIfInBounds_toArray, List.set_cons_zero, List.set_cons_succ, List.getElem_toArray, List.getElem_cons_succ, List.getElem_cons_zero]
  refine wpAnyH_take (i := 7) (v := ?_) rfl (by kernel_rfl) (by kernel_rfl) (by kernel_rfl) (fun _ _ _ h => h) (Or.inl ⟨by kernel_rfl, ?_⟩) (by assumption) ?_
  rotate_left
  ·intro w hSw; (try dsimp only at hSw); go_simp
   all_goals with_reducible rfl
  try simp only [Act.put, List.setIfInBounds_toArray, List.set_cons_zero, List.set_cons_succ, List.getElem_toArray, List.getElem_cons_succ, List.getElem_cons_zero]
  refine wpAnyH_take (i := 8) (v := ?_) rfl (by kernel_rfl) (by kernel_rfl) (by kernel_rfl) (fun _ _ _ h => h) (Or.inl ⟨by kernel_rfl, ?_⟩) (by assumption) ?_
  rotate_left
  ·intro w hSw; (try dsimp only at hSw); go_simp
   all_goals with_reducible rfl
  try simp only [Act.put, List.setIfInBounds_toArray, List.set_cons_zero, List.set_cons_succ, List.getElem_toArray, List.getElem_cons_succ, List.getElem_cons_zero]
  refine wpAnyH_done (by kernel_rfl) ?_ _
  refine NoPanic.normal ?_
  go_wp2
  go_ret
  exact ⟨by rw [HZ.out]; rfl, bstep hba hHeld.2.2.2⟩
 ·go_enter Tryz.func80, Tryz.ntmps80
  go_wp2_with fail
  simp only [← hW, ← hB]
  clear hW hB
  refine wp_region_noPanic ?_
  refine wp_region_held_drew (S := fun w' => w'.cell? ⟨B, 0, none⟩ = some (.bool neg) ∧ w'.cell? ⟨B, 1, none⟩ = some (.string num) ∧ w'.cell? ⟨B, 2, none⟩ = some (.string den) ∧ Below W.heap.size W w') (by kernel_rfl) HS.out (fun hHeld => ?_)
  refine wpAnyH_take (i := 0) (v := ?_) rfl (by kernel_rfl) (by kernel_rfl) (by kernel_rfl) (fun _ _ _ h => h) (Or.inl ⟨by kernel_rfl, ?_⟩) (by assumption) ?_
  rotate_left
  ·intro w hSw; (try dsimp only at hSw); go_simp
   all_goals with_reducible rfl
  try simp only [Act.put, List.setIfInBounds_toArray, List.set_cons_zero, List.set_cons_succ, List.getElem_toArray, List.getElem_cons_succ, List.getElem_cons_zero]
  refine wpAnyH_ready (rs := [1]) (by kernel_rfl) (by simp) ?_
  refine AllReadyH.cons rfl (fun K hK => ?_) AllReadyH.nil
  go_simp
  refine (HR.out _).mono ?_
  rintro e w1 ⟨rfl, hb1⟩
  go_wp2_with fail
  refine hK.out _ _ ?_ (fun hHeld => ?_)
  ·exact HK.out _ _ (by assumption) hb1
  clear hK K
  try simp only [Act.put, List.setIfInBounds_toArray, List.set_cons_zero, List.set_cons_succ, List.getElem_toArray, List.getElem_cons_succ, List.getElem_cons_zero]
  refine wpAnyH_take (i := 2) (v := ?_) rfl (by kernel_rfl) (by kernel_rfl) (by kernel_rfl) (fun _ _ _ h => h) (Or.inl ⟨by kernel_rfl, ?_⟩) (by assumption) ?_
  rotate_left
  ·intro w hSw; (try dsimp only at hSw); go_simp
   all_goals with_reducible rfl
  try simp only [Act.put, List.setIfInBounds_toArray, List.set_cons_zero, List.set_cons_succ, List.getElem_toArray, List.getElem_cons_succ, List.getElem_cons_zero]
  refine wpAnyH_take (i := 3) (v := ?_) rfl (by kernel_rfl) (by kernel_rfl) (by kernel_rfl) (fun _ _ _ h => h) (Or.inl ⟨by kernel_rfl, ?_⟩) (by assumption) ?_
  rotate_left
  ·intro w hSw; (try dsimp only at hSw); go_simp
   all_goals with_reducible rfl
  try simp only [Act.put, List.setIfInBounds_toArray, List.set_cons_zero, List.set_cons_succ, List.getElem_toArray, List.getElem_cons_succ, List.getElem_cons_zero]
  refine wpAnyH_take (i := 4) (v := ?_) rfl (by kernel_rfl) (by kernel_rfl) (by kernel_rfl) (fun _ _ _ h => h) (Or.inl ⟨by kernel_rfl, ?_⟩) (by assumption) ?_
  rotate_left
  ·intro w hSw; (try dsimp only at hSw); go_simp
   all_goals with_reducible rfl
  try simp only [Act.put, List.setIfInBounds_toArray, List.set_cons_zero, List.set_cons_succ, List.getElem_toArray, List.getElem_cons_succ, List.getElem_cons_zero]
  refine wpAnyH_ready (rs := [5]) (by kernel_rfl) (by simp) ?_
  refine AllReadyH.cons rfl (fun K hK => ?_) AllReadyH.nil
  go_simp
  refine (qOf_any 0 _ (by omega) (by omega)).mono ?_
  rintro e w1 ⟨rfl, hb1⟩
  simp only [Ra.v]
  go_wp2_with fail
  refine hK.out _ _ ?_ (fun hHeld => ?_)
  ·exact HK.out _ _ (by assumption) hb1
  clear hK K
  try simp only [Act.put, List.setIfInBounds_toArray, List.set_cons_zero, List.set_cons_succ, List.getElem_toArray, List.getElem_cons_succ, List.getElem_cons_zero]
  refine wpAnyH_take (i := 6) (v := .bool dq) rfl (by kernel_rfl) (by kernel_rfl) (by kernel_rfl) (fun _ _ _ h => h) (Or.inl ⟨by kernel_rfl, ?_⟩) (by assumption) ?_
  ·intro w hSw; (try dsimp only at hSw); go_simp
   rw [← HDQ.out]; exact eqRa_if (fun t => Result.ok (Next.value (Value.bool t)) w) ⟨neg, num, den⟩ (ofI 0)
  try simp only [Act.put, List.setIfInBounds_toArray, List.set_cons_zero, List.set_cons_succ, List.getElem_toArray, List.getElem_cons_succ, List.getElem_cons_zero]
  refine wpAnyH_take (i := 7) (v := ?_) rfl (by kernel_rfl) (by kernel_rfl) (by kernel_rfl) (fun _ _ _ h => h) (Or.inl ⟨by kernel_rfl, ?_⟩) (by assumption) ?_
  rotate_left
  ·intro w hSw; (try dsimp only at hSw); go_simp
   all_goals with_reducible rfl
  try simp only [Act.put, List.setIfInBounds_toArray, List.set_cons_zero, List.set_cons_succ, List.getElem_toArray, List.getElem_cons_succ, List.getElem_cons_zero]
  refine wpAnyH_take (i := 8) (v := ?_) rfl (by kernel_rfl) (by kernel_rfl) (by kernel_rfl) (fun _ _ _ h => h) (Or.inl ⟨by kernel_rfl, ?_⟩) (by assumption) ?_
  rotate_left
  ·intro w hSw; (try dsimp only at hSw); go_simp
   all_goals with_reducible rfl
  try simp only [Act.put, List.setIfInBounds_toArray, List.set_cons_zero, List.set_cons_succ, List.getElem_toArray, List.getElem_cons_succ, List.getElem_cons_zero]
  refine wpAnyH_done (by kernel_rfl) ?_ _
  refine NoPanic.normal ?_
  obtain ⟨hd0, hd1, hd2, hd3⟩ := hHeld
  have HH := Lib.hid hd3
  clear hd3
  cases dq
  ·cases neg
   ·go_wp2
    go_ret
    exact ⟨by rw [HZ.out]; rfl, bstep hba HH.out⟩
   ·go_wp2
    go_ret
    exact ⟨by rw [HZ.out]; rfl, bstep hba HH.out⟩
  ·go_wp2
   go_ret
   exact ⟨by rw [HZ.out]; rfl, bstep hba HH.out⟩
end Go.Proofs.YtbicehdehiakgaaGreatDoor
namespace Go.Proofs.YtbicehdehiakgaaGreatDoor
open Go.RowKit
def textR (a : Ra) : ByteArray :=
 let s := if (valR a).neg then ⟨#[45]⟩ ++ decS (vbs (valR a).num) else decS (vbs (valR a).num)
 if (valR a).den = nbs 1 then s else s ++ (⟨#[47]⟩ ++ decS (vbs (valR a).den))
theorem beq_toList (a b : ByteArray) : (a.toList == b.toList) = decide (a = b) := by
 rw [Bool.eq_iff_iff, beq_iff_eq, decide_eq_true_iff]
 exact ⟨toList_inj, fun h => by rw [h]⟩
theorem decS_size (n K : Nat) (hK : 0 < K) (h : n < 256 ^ K) : (decS n).size ≤ 3 * K := dec_len_le n K hK h
theorem decS_small (s : ByteArray) (h : s.size ≤ 1048576) : (decS (vbs s)).size ≤ 3145728 := by
 obtain ⟨K, hK⟩ : ∃ K, K = 1048576 := ⟨_, rfl⟩
 rw [← hK] at h
 have := decS_size (vbs s) K (by omega) (vbs_le s K h)
 omega
theorem valR_size (a : Ra) (K : Nat) (hK : 0 < K) (hn : a.num.size ≤ K) (hd : a.den.size ≤ K) : (valR a).num.size ≤ K ∧ (valR a).den.size ≤ K := by
 unfold valR
 split
 ·exact ⟨hn, hd⟩
 ·exact ⟨Nat.zero_le _, hK⟩
set_option maxRecDepth 100000 in
set_option maxHeartbeats 1600000 in
theorem qText_any (a : Ra) (w : World) (hL : Laid w) (hn : a.num.size ≤ 1048576) (hd : a.den.size ≤ 1048576) :
  Calls Tryz.prog 95 #[a.v] w fun e w' => e = .returned (.string (textR a)) ∧ Below w.heap.size w w' := by
 obtain ⟨hvn, hvd⟩ := valR_size a 1048576 (by omega) hn hd
 have HR := Lib.hid (fun w => qvalue_any a w (by omega) (by omega))
 have HT : Hid (textR a = (let s := if (valR a).neg then ⟨#[45]⟩ ++ decS (vbs (valR a).num) else decS (vbs (valR a).num)
  if (valR a).den = nbs 1 then s else s ++ (⟨#[47]⟩ ++ decS (vbs (valR a).den)))) := rfl
 generalize textR a = tx at *
 obtain ⟨va, hva⟩ : ∃ va, valR a = va := ⟨_, rfl⟩
 rw [hva] at HR HT hvn hvd
 clear hva hn hd
 obtain ⟨vn, vu, vd⟩ := va
 have HTN := Lib.hid (fun w h => natText_any vu w h hvn)
 have HTD := Lib.hid (fun w h => natText_any vd w h hvd)
 have hs1 : (decS (vbs vu)).size ≤ 3145728 := decS_small vu hvn
 have hs2 : (decS (vbs vd)).size ≤ 3145728 := decS_small vd hvd
 obtain ⟨tn, htn⟩ : ∃ t, decS (vbs vu) = t := ⟨_, rfl⟩
 obtain ⟨td, htd⟩ : ∃ t, decS (vbs vd) = t := ⟨_, rfl⟩
 simp only at HT
 rw [htn] at hs1 HTN HT
 rw [htd] at hs2 HTD HT
 clear htn htd hvn hvd
 obtain ⟨de, hde⟩ : ∃ d, decide (vd = nbs 1) = d := ⟨_, rfl⟩
 have HDE := Lib.hid hde
 clear hde
 obtain ⟨neg, num, den⟩ := a
 unfold Ra.v at HR ⊢
 obtain ⟨W, hW⟩ : ∃ W, W = w.alloc (.cells #[.bool neg, .string num, .string den] 31) := ⟨_, rfl⟩
 have hba : Below w.heap.size w W := by rw [hW]; exact (Below.refl _ _).alloc (Nat.le_refl _) _
 have hblk : Blk W w.heap.size 31 [.bool neg, .string num, .string den] := by rw [hW]; exact Blk.new w _ _
 obtain ⟨B, hB⟩ : ∃ B, B = w.heap.size := ⟨_, rfl⟩
 have HB := Lib.hid hB
 rw [← hB] at hblk hba
 have hbs : B < W.heap.size := hblk.lt
 have HL := Lib.hid hL
 clear hL
 cases vn
 ·go_enter Tryz.func95, Tryz.ntmps95
  go_wp2_with fail
  simp only [← hW, ← hB]
  clear hW hB
  refine (HR.out _).mono ?_
  rintro e w1 ⟨rfl, hb1⟩
  have hk1 := hblk.below hb1 hbs
  have hc0 := hk1.cell (i := 0) (by simp)
  have hc1 := hk1.cell (i := 1) (by simp)
  have hc2 := hk1.cell (i := 2) (by simp)
  have hf0 := hk1.frozen 0
  have hf1 := hk1.frozen 1
  have hf2 := hk1.frozen 2
  simp only [List.getElem_cons_zero, List.getElem_cons_succ] at hc0 hc1 hc2
  go_wp2_with fail
  have hk2 := ((hk1.set 0 (.bool false)).set 1 (.string vu)).set 2 (.string vd)
  simp only [List.set_cons_zero, List.set_cons_succ] at hk2
  have hb2 := (((hba.trans (hb1.mono (by omega))).setCell (show B ≤ (⟨B, 0, none⟩ : Addr).block from Nat.le_refl _) (.bool false)).setCell (show B ≤ (⟨B, 1, none⟩ : Addr).block from Nat.le_refl _) (.string vu)).setCell (show B ≤ (⟨B, 2, none⟩ : Addr).block from Nat.le_refl _) (.string vd)
  generalize ((w1.setCell ⟨B, 0, none⟩ (.bool false)).setCell ⟨B, 1, none⟩ (.string vu)).setCell ⟨B, 2, none⟩ (.string vd) = w2 at *
  clear hc0 hc1 hc2 hf0 hf1 hf2 hk1 hb1
  have hl2 := HL.out.below (by rw [← HB.out]; exact hb2)
  refine (HTN.out _ hl2).mono ?_
  rintro e w3 ⟨rfl, hb3⟩
  have hk3 := hk2.below hb3 hk2.lt
  have hl3 := hl2.below hb3
  have hbw3 : Below B w w3 := hb2.trans (hb3.mono (Nat.le_of_lt hk2.lt))
  have hbs3 : B < w3.heap.size := hk3.lt
  have HL3 := Lib.hid hl3; have HBW := Lib.hid hbw3
  clear hk2 hb2 hl2 hb3 hl3 hbw3 hbs
  obtain ⟨hc0, hc1, hc2⟩ := RaAt.of_blk (a := ⟨false, vu, vd⟩) hk3
  simp only at hc0 hc1 hc2
  have HK : Hid (∀ w' w1 : World, (w'.cell? ⟨B, 0, none⟩ = some (.bool false) ∧ w'.cell? ⟨B, 1, none⟩ = some (.string vu) ∧ w'.cell? ⟨B, 2, none⟩ = some (.string vd) ∧ Below w3.heap.size w3 w') → Below w'.heap.size w' w1 →
    (w1.cell? ⟨B, 0, none⟩ = some (.bool false) ∧ w1.cell? ⟨B, 1, none⟩ = some (.string vu) ∧ w1.cell? ⟨B, 2, none⟩ = some (.string vd) ∧ Below w3.heap.size w3 w1)) := by
   rintro w' w1 ⟨h0, h1, h2, hb⟩ hb1
   have hlt : B < w'.heap.size := Nat.lt_of_lt_of_le hbs3 hb.size
   exact ⟨(hb1.cell hlt).trans h0, (hb1.cell hlt).trans h1, (hb1.cell hlt).trans h2, bstep hb hb1⟩
  have HS : Hid (w3.drew.cell? ⟨B, 0, none⟩ = some (.bool false) ∧ w3.drew.cell? ⟨B, 1, none⟩ = some (.string vu) ∧ w3.drew.cell? ⟨B, 2, none⟩ = some (.string vd) ∧ Below w3.heap.size w3 w3.drew) :=
   ⟨hc0, hc1, hc2, below_drewN (Below.refl _ _) 1⟩
  clear hk3
  go_wp2_with fail
  clear hc0 hc1 hc2
  refine wp_region_noPanic ?_
  refine wp_region_held_drew (S := fun w' => w'.cell? ⟨B, 0, none⟩ = some (.bool false) ∧ w'.cell? ⟨B, 1, none⟩ = some (.string vu) ∧ w'.cell? ⟨B, 2, none⟩ = some (.string vd) ∧ Below w3.heap.size w3 w') (by kernel_rfl) HS.out (fun hHeld => ?_)
  refine wpAnyH_take (i := 0) (v := ?_) rfl (by kernel_rfl) (by kernel_rfl) (by kernel_rfl) (fun _ _ _ h => h) (Or.inl ⟨by kernel_rfl, ?_⟩) (by assumption) ?_
  rotate_left
  ·intro w hSw; (try dsimp only at hSw); go_simp
   all_goals with_reducible rfl
  try simp only [Act.put, List.setIfInBounds_toArray, List.set_cons_zero, List.set_cons_succ, List.getElem_toArray, List.getElem_cons_succ, List.getElem_cons_zero]
  refine wpAnyH_take (i := 1) (v := ?_) rfl (by kernel_rfl) (by kernel_rfl) (by kernel_rfl) (fun _ _ _ h => h) (Or.inl ⟨by kernel_rfl, ?_⟩) (by assumption) ?_
  rotate_left
  ·intro w hSw; (try dsimp only at hSw); go_simp
   all_goals with_reducible rfl
  try simp only [Act.put, List.setIfInBounds_toArray, List.set_cons_zero, List.set_cons_succ, List.getElem_toArray, List.getElem_cons_succ, List.getElem_cons_zero]
  refine wpAnyH_ready (rs := [2]) (by kernel_rfl) (by simp) ?_
  refine AllReadyH.cons rfl (fun K hK => ?_) AllReadyH.nil
  go_simp
  refine (natOf_one _).mono ?_
  rintro e w1 ⟨rfl, hb1⟩
  go_wp2_with fail
  refine hK.out _ _ ?_ (fun hHeld => ?_)
  ·exact HK.out _ _ (by assumption) hb1
  clear hK K
  try simp only [Act.put, List.setIfInBounds_toArray, List.set_cons_zero, List.set_cons_succ, List.getElem_toArray, List.getElem_cons_succ, List.getElem_cons_zero]
  refine wpAnyH_take (i := 3) (v := .bool (!de)) rfl (by kernel_rfl) (by kernel_rfl) (by kernel_rfl) (fun _ _ _ h => h) (Or.inl ⟨by kernel_rfl, ?_⟩) (by assumption) ?_
  ·intro w hSw; (try dsimp only at hSw); go_simp
   rw [← HDE.out]; exact beq_toList _ _
  try simp only [Act.put, List.setIfInBounds_toArray, List.set_cons_zero, List.set_cons_succ, List.getElem_toArray, List.getElem_cons_succ, List.getElem_cons_zero]
  refine wpAnyH_done (by kernel_rfl) ?_ _
  refine NoPanic.normal ?_
  obtain ⟨hd0, hd1, hd2, hd3⟩ := hHeld
  have HH := Lib.hid hd3
  clear hd3
  cases de
  ·go_wp2_with fail
   refine (HTD.out _ (HL3.out.below HH.out)).mono ?_
   rintro e w5 ⟨rfl, hb5⟩
   go_wp2
   go_ret
   refine ⟨?_, ?_⟩
   ·have h := HT.out
    rw [if_neg (of_decide_eq_false HDE.out)] at h
    rw [h]; rfl
   ·have h := HBW.out.trans ((bstep HH.out hb5).mono (Nat.le_of_lt hbs3))
    rw [← HB.out]; exact h
  ·go_wp2
   go_ret
   refine ⟨?_, ?_⟩
   ·have h := HT.out
    rw [if_pos (of_decide_eq_true HDE.out)] at h
    rw [h]; rfl
   ·have h := HBW.out.trans (HH.out.mono (Nat.le_of_lt hbs3))
    rw [← HB.out]; exact h
 ·go_enter Tryz.func95, Tryz.ntmps95
  go_wp2_with fail
  simp only [← hW, ← hB]
  clear hW hB
  refine (HR.out _).mono ?_
  rintro e w1 ⟨rfl, hb1⟩
  have hk1 := hblk.below hb1 hbs
  have hc0 := hk1.cell (i := 0) (by simp)
  have hc1 := hk1.cell (i := 1) (by simp)
  have hc2 := hk1.cell (i := 2) (by simp)
  have hf0 := hk1.frozen 0
  have hf1 := hk1.frozen 1
  have hf2 := hk1.frozen 2
  simp only [List.getElem_cons_zero, List.getElem_cons_succ] at hc0 hc1 hc2
  go_wp2_with fail
  have hk2 := ((hk1.set 0 (.bool true)).set 1 (.string vu)).set 2 (.string vd)
  simp only [List.set_cons_zero, List.set_cons_succ] at hk2
  have hb2 := (((hba.trans (hb1.mono (by omega))).setCell (show B ≤ (⟨B, 0, none⟩ : Addr).block from Nat.le_refl _) (.bool true)).setCell (show B ≤ (⟨B, 1, none⟩ : Addr).block from Nat.le_refl _) (.string vu)).setCell (show B ≤ (⟨B, 2, none⟩ : Addr).block from Nat.le_refl _) (.string vd)
  generalize ((w1.setCell ⟨B, 0, none⟩ (.bool true)).setCell ⟨B, 1, none⟩ (.string vu)).setCell ⟨B, 2, none⟩ (.string vd) = w2 at *
  clear hc0 hc1 hc2 hf0 hf1 hf2 hk1 hb1
  have hl2 := HL.out.below (by rw [← HB.out]; exact hb2)
  refine (HTN.out _ hl2).mono ?_
  rintro e w3 ⟨rfl, hb3⟩
  have hk3 := hk2.below hb3 hk2.lt
  have hl3 := hl2.below hb3
  have hbw3 : Below B w w3 := hb2.trans (hb3.mono (Nat.le_of_lt hk2.lt))
  have hbs3 : B < w3.heap.size := hk3.lt
  have HL3 := Lib.hid hl3; have HBW := Lib.hid hbw3
  clear hk2 hb2 hl2 hb3 hl3 hbw3 hbs
  obtain ⟨hc0, hc1, hc2⟩ := RaAt.of_blk (a := ⟨true, vu, vd⟩) hk3
  simp only at hc0 hc1 hc2
  have HK : Hid (∀ w' w1 : World, (w'.cell? ⟨B, 0, none⟩ = some (.bool true) ∧ w'.cell? ⟨B, 1, none⟩ = some (.string vu) ∧ w'.cell? ⟨B, 2, none⟩ = some (.string vd) ∧ Below w3.heap.size w3 w') → Below w'.heap.size w' w1 →
    (w1.cell? ⟨B, 0, none⟩ = some (.bool true) ∧ w1.cell? ⟨B, 1, none⟩ = some (.string vu) ∧ w1.cell? ⟨B, 2, none⟩ = some (.string vd) ∧ Below w3.heap.size w3 w1)) := by
   rintro w' w1 ⟨h0, h1, h2, hb⟩ hb1
   have hlt : B < w'.heap.size := Nat.lt_of_lt_of_le hbs3 hb.size
   exact ⟨(hb1.cell hlt).trans h0, (hb1.cell hlt).trans h1, (hb1.cell hlt).trans h2, bstep hb hb1⟩
  have HS : Hid (w3.drew.cell? ⟨B, 0, none⟩ = some (.bool true) ∧ w3.drew.cell? ⟨B, 1, none⟩ = some (.string vu) ∧ w3.drew.cell? ⟨B, 2, none⟩ = some (.string vd) ∧ Below w3.heap.size w3 w3.drew) :=
   ⟨hc0, hc1, hc2, below_drewN (Below.refl _ _) 1⟩
  clear hk3
  go_wp2_with fail
  clear hc0 hc1 hc2
  refine wp_region_noPanic ?_
  refine wp_region_held_drew (S := fun w' => w'.cell? ⟨B, 0, none⟩ = some (.bool true) ∧ w'.cell? ⟨B, 1, none⟩ = some (.string vu) ∧ w'.cell? ⟨B, 2, none⟩ = some (.string vd) ∧ Below w3.heap.size w3 w') (by kernel_rfl) HS.out (fun hHeld => ?_)
  refine wpAnyH_take (i := 0) (v := ?_) rfl (by kernel_rfl) (by kernel_rfl) (by kernel_rfl) (fun _ _ _ h => h) (Or.inl ⟨by kernel_rfl, ?_⟩) (by assumption) ?_
  rotate_left
  ·intro w hSw; (try dsimp only at hSw); go_simp
   all_goals with_reducible rfl
  try simp only [Act.put, List.setIfInBounds_toArray, List.set_cons_zero, List.set_cons_succ, List.getElem_toArray, List.getElem_cons_succ, List.getElem_cons_zero]
  refine wpAnyH_take (i := 1) (v := ?_) rfl (by kernel_rfl) (by kernel_rfl) (by kernel_rfl) (fun _ _ _ h => h) (Or.inl ⟨by kernel_rfl, ?_⟩) (by assumption) ?_
  rotate_left
  ·intro w hSw; (try dsimp only at hSw); go_simp
   all_goals with_reducible rfl
  try simp only [Act.put, List.setIfInBounds_toArray, List.set_cons_zero, List.set_cons_succ, List.getElem_toArray, List.getElem_cons_succ, List.getElem_cons_zero]
  refine wpAnyH_ready (rs := [2]) (by kernel_rfl) (by simp) ?_
  refine AllReadyH.cons rfl (fun K hK => ?_) AllReadyH.nil
  go_simp
  refine (natOf_one _).mono ?_
  rintro e w1 ⟨rfl, hb1⟩
  go_wp2_with fail
  refine hK.out _ _ ?_ (fun hHeld => ?_)
  ·exact HK.out _ _ (by assumption) hb1
  clear hK K
  try simp only [Act.put, List.setIfInBounds_toArray, List.set_cons_zero, List.set_cons_succ, List.getElem_toArray, List.getElem_cons_succ, List.getElem_cons_zero]
  refine wpAnyH_take (i := 3) (v := .bool (!de)) rfl (by kernel_rfl) (by kernel_rfl) (by kernel_rfl) (fun _ _ _ h => h) (Or.inl ⟨by kernel_rfl, ?_⟩) (by assumption) ?_
  ·intro w hSw; (try dsimp only at hSw); go_simp
   rw [← HDE.out]; exact beq_toList _ _
  try simp only [Act.put, List.setIfInBounds_toArray, List.set_cons_zero, List.set_cons_succ, List.getElem_toArray, List.getElem_cons_succ, List.getElem_cons_zero]
  refine wpAnyH_done (by kernel_rfl) ?_ _
  refine NoPanic.normal ?_
  obtain ⟨hd0, hd1, hd2, hd3⟩ := hHeld
  have HH := Lib.hid hd3
  clear hd3
  cases de
  ·go_wp2_with fail
   refine (HTD.out _ (HL3.out.below HH.out)).mono ?_
   rintro e w5 ⟨rfl, hb5⟩
   go_wp2
   go_ret
   refine ⟨?_, ?_⟩
   ·have h := HT.out
    rw [if_neg (of_decide_eq_false HDE.out)] at h
    rw [h]; rfl
   ·have h := HBW.out.trans ((bstep HH.out hb5).mono (Nat.le_of_lt hbs3))
    rw [← HB.out]; exact h
  ·go_wp2
   go_ret
   refine ⟨?_, ?_⟩
   ·have h := HT.out
    rw [if_pos (of_decide_eq_true HDE.out)] at h
    rw [h]; rfl
   ·have h := HBW.out.trans (HH.out.mono (Nat.le_of_lt hbs3))
    rw [← HB.out]; exact h
end Go.Proofs.YtbicehdehiakgaaGreatDoor
namespace Go.Proofs.YtbicehdehiakgaaGreatDoor
open Go.RowKit
def cutR (s : List UInt8) : Bool × List UInt8 × List UInt8 :=
 let c := Lib.cut (Lib.trimPrefix s [45]) [47]
 (Lib.hasPrefix s [45], c.1, if c.2.2 then c.2.1 else [49])
def ratParse (s : ByteArray) : Ra × Bool :=
 let c := cutR s.data.toList
 let n := natParse c.2.1
 let d := natParse c.2.2
 let m := mkR c.1 n.1 d.1
 if n.2 && d.2 && m.2 && decide (textR m.1 = s) then (m.1, true) else (⟨false, ⟨#[]⟩, ⟨#[]⟩⟩, false)
theorem trimPrefix_len (s p : List UInt8) : (Lib.trimPrefix s p).length ≤ s.length := by
 unfold Lib.trimPrefix
 split
 ·simp
 ·exact Nat.le_refl _
theorem cut_len (s p : List UInt8) : (Lib.cut s p).1.length ≤ s.length ∧ (Lib.cut s p).2.1.length ≤ s.length := by
 unfold Lib.cut
 split <;> simp <;> omega
theorem natParse_size (l : List UInt8) : (natParse l).1.size ≤ l.length := by
 unfold natParse
 split
 ·next h =>
  simp only [parseOk, Bool.and_eq_true] at h
  refine nbs_size_le _ _ (Nat.lt_of_lt_of_le (decVal_lt l h.2) (Nat.pow_le_pow_left (by omega) _))
 ·show 0 ≤ _; omega
theorem low_size (neg : Bool) (n d K : Nat) (hn : n < 256 ^ K) (hd : d < 256 ^ K) : (low neg n d).num.size ≤ K ∧ (low neg n d).den.size ≤ K :=
 ⟨nbs_size_le _ _ (Nat.lt_of_le_of_lt (Nat.div_le_self _ _) hn), nbs_size_le _ _ (Nat.lt_of_le_of_lt (Nat.div_le_self _ _) hd)⟩
theorem mkR_size (neg : Bool) (n d : ByteArray) (K : Nat) (hn : n.size ≤ K) (hd : d.size ≤ K) : (mkR neg n d).1.num.size ≤ K ∧ (mkR neg n d).1.den.size ≤ K := by
 unfold mkR
 split
 ·exact low_size _ _ _ _ (Nat.lt_of_lt_of_le (vbs_lt n) (Nat.pow_le_pow_right (by omega) hn)) (Nat.lt_of_lt_of_le (vbs_lt d) (Nat.pow_le_pow_right (by omega) hd))
 ·exact ⟨Nat.zero_le _, Nat.zero_le _⟩
theorem Blk.cells {w : World} {b : Nat} {t : TypeId} {cs : List Value} (h : Blk w b t cs) : ∀ i, w.cell? ⟨b, i, none⟩ = cs[i]? := by
 intro i
 unfold Blk at h
 simp [World.cell?, h]
theorem Blk.froz {w : World} {b : Nat} {t : TypeId} {cs : List Value} (h : Blk w b t cs) : ∀ i, w.frozen? ⟨b, i, none⟩ = false := fun i => h.frozen i
theorem below_set3 {B : Nat} {w w' : World} (h : Below B w w') (x y z : Value) : Below B w (((w'.setCell ⟨B, 0, none⟩ x).setCell ⟨B, 1, none⟩ y).setCell ⟨B, 2, none⟩ z) :=
 ((h.setCell (p := ⟨B, 0, none⟩) (Nat.le_refl _) _).setCell (p := ⟨B, 1, none⟩) (Nat.le_refl _) _).setCell (p := ⟨B, 2, none⟩) (Nat.le_refl _) _
theorem Laid.drewN {w : World} (h : Laid w) (n : Nat) : Laid (w.drewN n) := h.below (drewN_below _ _ _)
set_option maxRecDepth 100000 in
set_option maxHeartbeats 1600000 in
theorem qParse_any (s : ByteArray) (w : World) (hL : Laid w) (hs : s.size ≤ 1048576) :
  Calls Tryz.prog 119 #[.string s] w fun e w' => e = .returned (.tuple #[(ratParse s).1.v, .bool (ratParse s).2]) ∧ Below w.heap.size w w' := by
 have hP : ∀ c, cutR s.data.toList = c → ∀ n, natParse c.2.1 = n → ∀ d, natParse c.2.2 = d → ∀ m, mkR c.1 n.1 d.1 = m →
   ratParse s = if n.2 && d.2 && m.2 && decide (textR m.1 = s) then (m.1, true) else (⟨false, ⟨#[]⟩, ⟨#[]⟩⟩, false) := by
  rintro c rfl n rfl d rfl m rfl; rfl
 unfold cutR at hP
 have HCP : ∀ w : World, Calls Tryz.prog 116 #[.string s, .string ⟨#[45]⟩] w fun e w' => e = .returned (.tuple #[.string ⟨(Lib.trimPrefix s.data.toList [45]).toArray⟩, .bool (Lib.hasPrefix s.data.toList [45])]) ∧ w' = w := fun w => Tryz.strings_CutPrefix s ⟨#[45]⟩ w
 have hrl := trimPrefix_len s.data.toList [45]
 generalize Lib.hasPrefix s.data.toList [45] = neg at *
 generalize Lib.trimPrefix s.data.toList [45] = rest at *
 have hrl' : rest.length ≤ 1048576 := Nat.le_trans hrl (by simpa using hs)
 have HC : ∀ (w : World) (m : Int), w.cell? ⟨1, 0, none⟩ = some (.int .i64 m) → Calls Tryz.prog 156 #[.string ⟨rest.toArray⟩, .string ⟨#[47]⟩] w fun e w' => e = .returned (.tuple #[.string ⟨(Lib.cut rest [47]).1.toArray⟩, .string ⟨(Lib.cut rest [47]).2.1.toArray⟩, .bool (Lib.cut rest [47]).2.2]) ∧ ∃ n, w' = w.drewN n :=
  fun w m h => Tryz.strings_Cut ⟨rest.toArray⟩ ⟨#[47]⟩ m w (by show rest.length < _; omega) h
 obtain ⟨hnl, hdl⟩ := cut_len rest [47]
 generalize Lib.cut rest [47] = ct at *
 obtain ⟨nu, de0, fnd⟩ := ct
 simp only at hP HC hnl hdl
 have HCP := Lib.hid HCP
 have HC := Lib.hid HC
 obtain ⟨de, hde⟩ : ∃ d, (if fnd then de0 else [49]) = d := ⟨_, rfl⟩
 have hdel : de.length ≤ 1048576 := by subst hde; cases fnd <;> simp <;> omega
 rw [hde] at hP
 obtain ⟨⟨pn, bn⟩, hpn⟩ : ∃ n, natParse nu = n := ⟨_, rfl⟩
 obtain ⟨⟨pd, bd⟩, hpd⟩ : ∃ n, natParse de = n := ⟨_, rfl⟩
 obtain ⟨⟨m, bm⟩, hm⟩ : ∃ n, mkR neg pn pd = n := ⟨_, rfl⟩
 have HP := Lib.hid (hP _ rfl _ hpn _ hpd _ hm)
 have hpns := natParse_size nu
 have hpds := natParse_size de
 have hms := mkR_size neg pn pd 1048576 (by rw [hpn] at hpns; simp only at hpns; omega) (by rw [hpd] at hpds; simp only at hpds; omega)
 rw [hpn] at hpns; rw [hpd] at hpds; rw [hm] at hms
 simp only at hpns hpds hms
 have HN : Hid (∀ W, Calls Tryz.prog 157 #[.string ⟨nu.toArray⟩] W fun e w' => e = .returned (.tuple #[.string pn, .bool bn]) ∧ Below W.heap.size W w') := fun W =>
  (natParse_any ⟨nu.toArray⟩ W (by show nu.length ≤ _; omega)).mono (by
    rintro e w' ⟨rfl, hb⟩
    exact ⟨by show Ending.returned (.tuple #[.string (natParse nu).1, .bool (natParse nu).2]) = _; rw [hpn], hb⟩)
 have HD : Hid (∀ W, Calls Tryz.prog 157 #[.string ⟨de.toArray⟩] W fun e w' => e = .returned (.tuple #[.string pd, .bool bd]) ∧ Below W.heap.size W w') := fun W =>
  (natParse_any ⟨de.toArray⟩ W (by show de.length ≤ _; omega)).mono (by
    rintro e w' ⟨rfl, hb⟩
    exact ⟨by show Ending.returned (.tuple #[.string (natParse de).1, .bool (natParse de).2]) = _; rw [hpd], hb⟩)
 have HM := Lib.hid (fun W => qMake_any neg pn pd W (by omega) (by omega))
 rw [hm] at HM
 have HT := Lib.hid (fun W hL => qText_any m W hL hms.1 hms.2)
 obtain ⟨d, hd⟩ : ∃ d, decide (textR m = s) = d := ⟨_, rfl⟩
 generalize textR m = tx at *
 rw [hd] at HP
 have e1 : (tx.toList == s.toList) = d := by rw [beq_toList, hd]
 have e2 : (tx.toList != s.toList) = !d := by rw [← e1]; rfl
 clear hP hpn hpd hm hpns hpds hms hrl hrl' hnl hdl hdel hs hd
 obtain ⟨mn, mu, md⟩ := m
 unfold Ra.v at HM HT
 simp only at HM HT HP
 obtain ⟨W, hW⟩ : ∃ W, W = w.alloc (.cells #[.bool false, .string ⟨#[]⟩, .string ⟨#[]⟩] 31) := ⟨_, rfl⟩
 have hba : Below w.heap.size w W := by rw [hW]; exact (Below.refl _ _).alloc (Nat.le_refl _) _
 have hblk : Blk W w.heap.size 31 [.bool false, .string ⟨#[]⟩, .string ⟨#[]⟩] := by rw [hW]; exact Blk.new w _ _
 obtain ⟨B, hB⟩ : ∃ B, B = w.heap.size := ⟨_, rfl⟩
 rw [← hB] at hblk
 have HB := Lib.hid hB
 have hLW := hL.below hba
 obtain ⟨ml, hml⟩ := hLW.cut.2
 have HLW := Lib.hid hLW; have HML := Lib.hid hml; have HBA := Lib.hid hba; have HBK := Lib.hid hblk
 clear hL hLW hml hba hblk
 cases fnd
 all_goals
  simp only [if_true, if_false, Bool.false_eq_true] at hde
  subst hde
  go_enter Tryz.func119, Tryz.ntmps119
  go_wp2_with fail
  simp only [← hW, ← hB]
  clear hW hB
  refine (HCP.out _).mono ?_
  rintro e w1 ⟨rfl, rfl⟩
  go_wp2_with fail
  refine (HC.out _ ml HML.out).mono ?_
  rintro e w2 ⟨rfl, nn, rfl⟩
  go_wp2_with fail
  refine (HN.out _).mono ?_
  rintro e w3 ⟨rfl, hb3⟩
  go_wp2_with fail
  refine (HD.out _).mono ?_
  rintro e w4 ⟨rfl, hb4⟩
  go_wp2_with fail
  refine (HM.out _).mono ?_
  rintro e w5 ⟨rfl, hb5⟩
  have hbw := bstep (bstep (bstep (drewN_below _ w1 nn) hb3) hb4) hb5
  have hk5 := HBK.out.below hbw HBK.out.lt
  have hl5 := HLW.out.below hbw
  have hkB := hk5.alloc (.cells #[.bool mn, .string mu, .string md] 31)
  have hc := hkB.cells
  have hf := hkB.froz
  have hl6 := hl5.below ((Below.refl _ _).alloc (Nat.le_refl _) (.cells #[.bool mn, .string mu, .string md] 31))
  have hkA := Blk.new w5 31 #[.bool mn, .string mu, .string md]
  have hB5 : Below B w (w5.alloc (.cells #[.bool mn, .string mu, .string md] 31)) := by rw [HB.out]; exact (bstep HBA.out hbw).alloc (by have := HBA.out.size; have := hbw.size; omega) _
  have HBB := Lib.hid hB5; have HAA := Lib.hid hkA; have HKB := Lib.hid hkB
  clear hbw hb3 hb4 hb5 hk5 hkA hB5 hkB hl5
  cases bn <;> cases bd <;> cases bm
  all_goals
   go_wp2_with fail
   first
   | (refine bodyPost_ret (v := .tuple #[.agg #[.bool false, .string ⟨#[]⟩, .string ⟨#[]⟩], .bool false]) (by simp [results, Tryz.results119, go_sem, hc]) rfl ⟨?_, ?_⟩
      ·rw [HP.out]; rfl
      ·rw [← HB.out]; exact below_set3 HBB.out _ _ _)
   | (refine (HT.out _ hl6).mono ?_
      rintro e w7 ⟨rfl, hb7⟩
      clear hc hf
      have hkB := HKB.out.below hb7 HKB.out.lt
      have hkA := HAA.out.below hb7 HAA.out.lt
      have hbw := HBB.out.trans (hb7.mono (Nat.le_of_lt HKB.out.lt))
      have hc := hkB.cells
      have hf := hkB.froz
      have hcA := hkA.cells
      have HBB := Lib.hid hbw
      clear hkA hkB hb7 hbw hl6
      cases d
      all_goals
       go_wp2_with fail
       refine bodyPost_ret (v := .tuple #[(ratParse s).1.v, .bool (ratParse s).2]) (by rw [HP.out]; simp [results, Tryz.results119, go_sem, hc, Ra.v]) rfl ⟨rfl, ?_⟩
       rw [← HB.out]; exact below_set3 HBB.out _ _ _)
end Go.Proofs.YtbicehdehiakgaaGreatDoor
namespace Go.Proofs.YtbicehdehiakgaaGreatDoor
open Go.RowKit
structure Sh where
 word : List UInt8
 ops : Nat
 lit : Bool
 nam : Bool
 stp : Bool
def sh0 : Sh := ⟨[], 0, false, false, false⟩
def shs : List Sh := [sh0, ⟨[36], 0, true, false, false⟩, ⟨[], 0, true, false, false⟩, ⟨[], 0, true, false, false⟩, ⟨[], 0, true, false, false⟩,
 ⟨[102, 97, 99, 116, 46], 0, false, true, false⟩, ⟨[111, 119, 110, 46], 0, false, true, false⟩, ⟨[112, 114, 105, 111, 114, 46], 0, false, true, false⟩, ⟨[115, 112, 111, 117, 115, 101, 46], 0, false, true, false⟩,
 ⟨[97, 100, 100], 2, false, false, false⟩, ⟨[115, 117, 98], 2, false, false, false⟩, ⟨[109, 117, 108], 2, false, false, false⟩, ⟨[100, 105, 118], 2, false, false, false⟩, ⟨[109, 105, 110], 2, false, false, false⟩, ⟨[109, 97, 120], 2, false, false, false⟩,
 ⟨[105, 102], 3, false, false, false⟩, ⟨[108, 101, 115, 115], 2, false, false, false⟩, ⟨[101, 113, 117, 97, 108], 2, false, false, false⟩, ⟨[97, 110, 100], 2, false, false, false⟩, ⟨[111, 114], 2, false, false, false⟩, ⟨[110, 111, 116], 1, false, false, false⟩,
 ⟨[100, 111, 119, 110], 1, false, false, true⟩, ⟨[117, 112], 1, false, false, true⟩, ⟨[110, 101, 97, 114], 1, false, false, true⟩, ⟨[114, 97, 116, 101, 46], 1, false, true, false⟩]
def shp (op : Int) : Sh := shs.getD op.toNat sh0
structure Nd where
 op : Int
 num : Ra
 name : ByteArray
deriving DecidableEq
def Nd.cells (n : Nd) : List Value := [.int .i64 n.op, .bool n.num.neg, .string n.num.num, .string n.num.den, .string n.name]
def Nd.v (n : Nd) : Value := .agg #[.int .i64 n.op, .bool n.num.neg, .string n.num.num, .string n.num.den, .string n.name]
def zR : Ra := ⟨false, ⟨#[]⟩, ⟨#[]⟩⟩
def letterC (c : UInt8) : Bool := decide (97 ≤ c.toNat) && decide (c.toNat ≤ 122)
def digitC (c : UInt8) : Bool := decide (48 ≤ c.toNat) && decide (c.toNat ≤ 57)
def nameC (c : UInt8) : Bool := letterC c || digitC c || decide (c.toNat = 95)
def nameB (l : List UInt8) : Bool := (match l with | [] => false | c :: _ => letterC c) && decide (l.length ≤ 20) && l.all nameC
def fitsR (a : Ra) : Bool := okR a && decide (bitsN (vbs a.num) ≤ 400) && decide (bitsN (vbs a.den) ≤ 400)
def numOk (n : Nd) : Bool :=
 if n.op = 4 then decide (n.num = ofI 0) || decide (n.num = ofI 1)
 else if (shp n.op).lit then fitsR n.num
 else if (shp n.op).stp then fitsR n.num && decide (0 < signR n.num)
 else decide (n.num = zR)
def wrongN (n : Nd) : Int :=
 if n.op < 1 ∨ 24 < n.op ∨ ((shp n.op).nam = false ∧ n.name ≠ ⟨#[]⟩) ∨ numOk n = false then 11
 else if (shp n.op).nam && !nameB n.name.data.toList then 12 else 0
def chk : List Nd → Nat → Int
 | [], d => if d = 1 then 0 else 11
 | n :: r, d => if wrongN n ≠ 0 then wrongN n else if d < (shp n.op).ops then 11 else chk r (d - (shp n.op).ops + 1)
def checkE (e : List Nd) : Int := if 60 < e.length then 2 else chk e 0
def Ex : Nat → List Nd → Prop
 | 0, _ => False
 | k + 1, e => ∃ (cs : List (List Nd)) (n : Nd), e = cs.flatten ++ [n] ∧ wrongN n = 0 ∧ cs.length = (shp n.op).ops ∧ ∀ a ∈ cs, Ex k a
theorem Ex.succ {k : Nat} : ∀ {e : List Nd}, Ex k e → Ex (k + 1) e := by
 induction k with
 | zero => intro e h; exact h.elim
 | succ k ih =>
  rintro e ⟨cs, n, he, hn, hl, ha⟩
  exact ⟨cs, n, he, hn, hl, fun a h => ih (ha a h)⟩
theorem Ex.mono {k k' : Nat} {e : List Nd} (h : Ex k e) (hk : k ≤ k') : Ex k' e := by
 induction hk with
 | refl => exact h
 | step _ ih => exact ih.succ
theorem chk_flat (k : Nat) (ih : ∀ e : List Nd, Ex k e → ∀ r d, chk (e ++ r) d = chk r (d + 1)) (cs : List (List Nd)) (ha : ∀ a ∈ cs, Ex k a) (r : List Nd) (d : Nat) :
  chk (cs.flatten ++ r) d = chk r (d + cs.length) := by
 induction cs generalizing d with
 | nil => rfl
 | cons a cs iha =>
  rw [List.flatten_cons, List.append_assoc, ih a (ha a (by simp)), iha (fun x hx => ha x (by simp [hx]))]
  rw [List.length_cons]; congr 1; omega
theorem chk_ex (k : Nat) : ∀ e : List Nd, Ex k e → ∀ r d, chk (e ++ r) d = chk r (d + 1) := by
 induction k with
 | zero => intro e h; exact h.elim
 | succ k ih =>
  rintro e ⟨cs, n, rfl, hn, hl, ha⟩ r d
  rw [List.append_assoc, chk_flat k ih cs ha]
  show chk (n :: r) _ = _
  rw [chk, if_neg (by rw [hn]; simp), if_neg (by omega)]
  congr 1; omega
theorem ex_chk (e : List Nd) : ∀ (K : Nat) (st : List (List Nd)), (∀ a ∈ st, Ex K a) → chk e st.length = 0 → ∃ k, Ex k (st.reverse.flatten ++ e) := by
 induction e with
 | nil =>
  intro K st hs h
  match st, h with
  | [a], _ => exact ⟨K, by simpa using hs a (by simp)⟩
  | [], h => simp [chk] at h
  | a :: b :: l, h => simp [chk] at h
 | cons n r ih =>
  intro K st hs h
  rw [chk] at h
  split at h
  ·next h1 => exact absurd h h1
  ·next h1 =>
   split at h
   ·cases h
   ·next h2 =>
    have hn : wrongN n = 0 := by simpa using h1
    have hE : Ex (K + 1) ((st.take (shp n.op).ops).reverse.flatten ++ [n]) :=
     ⟨(st.take (shp n.op).ops).reverse, n, rfl, hn, by simp; omega, fun a ha => hs a (List.mem_of_mem_take (by simpa using ha))⟩
    obtain ⟨k, hk⟩ := ih (K + 1) (((st.take (shp n.op).ops).reverse.flatten ++ [n]) :: st.drop (shp n.op).ops)
     (by intro a ha; rcases List.mem_cons.1 ha with rfl | ha
         ·exact hE
         ·exact (hs a (List.mem_of_mem_drop ha)).succ)
     (by rw [List.length_cons, List.length_drop]; exact h)
    refine ⟨k, ?_⟩
    have e1 : st.reverse.flatten = (st.drop (shp n.op).ops).reverse.flatten ++ (st.take (shp n.op).ops).reverse.flatten := by
     rw [← List.flatten_append, ← List.reverse_append, List.take_append_drop]
    rw [e1]
    simpa using hk
def IsE (e : List Nd) : Prop := ∃ k, Ex k e
theorem checkE_iff (e : List Nd) : checkE e = 0 ↔ e.length ≤ 60 ∧ IsE e := by
 unfold checkE
 constructor
 ·intro h
  split at h
  ·cases h
  ·next h1 =>
   obtain ⟨k, hk⟩ := ex_chk e 0 [] (by simp) h
   exact ⟨by omega, k, by simpa using hk⟩
 ·rintro ⟨h1, k, hk⟩
  rw [if_neg (by omega)]
  have := chk_ex k e hk [] 0
  rw [List.append_nil] at this
  rw [this]; rfl
def joinC : List (List UInt8) → List UInt8
 | [] => []
 | a :: l => if l.isEmpty then a else a ++ [44, 32] ++ joinC l
def txt (n : Nd) (ops : List (List UInt8)) : List UInt8 :=
 if n.op = 4 then (if n.num.num = ⟨#[]⟩ then [110, 111] else [121, 101, 115])
 else (shp n.op).word ++ n.name.data.toList ++ (if (shp n.op).lit then (textR n.num).data.toList else []) ++ (if n.op = 2 then [100] else [])
  ++ (if (shp n.op).stp then [91] ++ (textR n.num).data.toList ++ [93] else []) ++ (if (shp n.op).ops = 0 then [] else [40] ++ joinC ops ++ [41])
def pshT (st : List (List UInt8)) (n : Nd) : List (List UInt8) := txt n (st.take (shp n.op).ops).reverse :: st.drop (shp n.op).ops
def runT (e : List Nd) (st : List (List UInt8)) : List (List UInt8) := e.foldl pshT st
def textE (e : List Nd) : List UInt8 := (runT e []).headD []
theorem runT_append (a b : List Nd) (st : List (List UInt8)) : runT (a ++ b) st = runT b (runT a st) := List.foldl_append
theorem runT_flat (k : Nat) (ih : ∀ e : List Nd, Ex k e → ∀ st, runT e st = textE e :: st) (cs : List (List Nd)) (ha : ∀ a ∈ cs, Ex k a) (st : List (List UInt8)) :
  runT cs.flatten st = (cs.map textE).reverse ++ st := by
 induction cs generalizing st with
 | nil => rfl
 | cons a cs iha =>
  rw [List.flatten_cons, runT_append, ih a (ha a (by simp)), iha (fun x hx => ha x (by simp [hx]))]
  simp
theorem runT_node (cs : List (List Nd)) (n : Nd) (hl : cs.length = (shp n.op).ops) (h : ∀ st, runT cs.flatten st = (cs.map textE).reverse ++ st) (st : List (List UInt8)) :
  runT (cs.flatten ++ [n]) st = txt n (cs.map textE) :: st := by
 rw [runT_append, h]
 show pshT ((cs.map textE).reverse ++ st) n = _
 unfold pshT
 have h1 : ((cs.map textE).reverse).length = (shp n.op).ops := by simp [hl]
 rw [List.take_left' h1, List.drop_left' h1, List.reverse_reverse]
theorem textE_of {cs : List (List Nd)} {n : Nd} (h : runT (cs.flatten ++ [n]) [] = txt n (cs.map textE) :: []) : textE (cs.flatten ++ [n]) = txt n (cs.map textE) := by
 unfold textE at h ⊢; rw [h]; rfl
theorem runT_ex (k : Nat) : ∀ e : List Nd, Ex k e → ∀ st, runT e st = textE e :: st := by
 induction k with
 | zero => intro e h; exact h.elim
 | succ k ih =>
  rintro e ⟨cs, n, rfl, hn, hl, ha⟩ st
  have h1 := runT_node cs n hl (runT_flat k ih cs ha)
  rw [h1, textE_of (h1 [])]
theorem textE_node {k : Nat} {cs : List (List Nd)} {n : Nd} (hl : cs.length = (shp n.op).ops) (ha : ∀ a ∈ cs, Ex k a) : textE (cs.flatten ++ [n]) = txt n (cs.map textE) :=
 textE_of (runT_node cs n hl (runT_flat k (runT_ex k) cs ha) [])
def runA : List Nd → Nat → List Nat → List (List Nat)
 | [], _, _ => []
 | n :: r, k, st => (st.take (shp n.op).ops).reverse :: runA r (k + 1) (k :: st.drop (shp n.op).ops)
def argsE (e : List Nd) : List (List Nat) := runA e 0 []
theorem runA_length (e : List Nd) (o : Nat) (st : List Nat) : (runA e o st).length = e.length := by
 induction e generalizing o st with
 | nil => rfl
 | cons n r ih => rw [runA, List.length_cons, ih, List.length_cons]
def roots : Nat → List (List Nd) → List Nat
 | _, [] => []
 | o, a :: cs => (o + a.length - 1) :: roots (o + a.length) cs
def flatA : Nat → List (List Nd) → List (List Nat)
 | _, [] => []
 | o, a :: cs => runA a o [] ++ flatA (o + a.length) cs
theorem roots_length (o : Nat) (cs : List (List Nd)) : (roots o cs).length = cs.length := by
 induction cs generalizing o with
 | nil => rfl
 | cons a cs ih => rw [roots, List.length_cons, ih, List.length_cons]
theorem runA_flat (k : Nat) (ih : ∀ e : List Nd, Ex k e → ∀ o st r, runA (e ++ r) o st = runA e o [] ++ runA r (o + e.length) ((o + e.length - 1) :: st))
  (cs : List (List Nd)) (ha : ∀ a ∈ cs, Ex k a) (o : Nat) (st : List Nat) (r : List Nd) :
  runA (cs.flatten ++ r) o st = flatA o cs ++ runA r (o + cs.flatten.length) ((roots o cs).reverse ++ st) := by
 induction cs generalizing o st with
 | nil => rfl
 | cons a cs iha =>
  rw [List.flatten_cons, List.append_assoc, ih a (ha a (by simp)), iha (fun x hx => ha x (by simp [hx])), flatA, roots, List.append_assoc, List.length_append, Nat.add_assoc]
  simp
theorem runA_node {cs : List (List Nd)} {n : Nd} (hl : cs.length = (shp n.op).ops) (o : Nat)
  (h : ∀ st r, runA (cs.flatten ++ r) o st = flatA o cs ++ runA r (o + cs.flatten.length) ((roots o cs).reverse ++ st)) (st : List Nat) (r : List Nd) :
  runA (cs.flatten ++ [n] ++ r) o st = flatA o cs ++ [roots o cs] ++ runA r (o + (cs.flatten ++ [n]).length) ((o + (cs.flatten ++ [n]).length - 1) :: st) := by
 rw [List.append_assoc, h, List.append_assoc]
 congr 1
 show runA (n :: r) _ _ = _
 have h1 : ((roots o cs).reverse).length = (shp n.op).ops := by rw [List.length_reverse, roots_length, hl]
 rw [runA, List.take_left' h1, List.drop_left' h1, List.reverse_reverse]
 simp only [List.length_append, List.length_cons, List.length_nil, List.cons_append, List.nil_append]
 rfl
theorem runA_ex (k : Nat) : ∀ e : List Nd, Ex k e → ∀ o st r, runA (e ++ r) o st = runA e o [] ++ runA r (o + e.length) ((o + e.length - 1) :: st) := by
 induction k with
 | zero => intro e h; exact h.elim
 | succ k ih =>
  rintro e ⟨cs, n, rfl, hn, hl, ha⟩ o st r
  have h1 := runA_node hl o (runA_flat k ih cs ha o)
  have h2 := h1 [] []
  rw [List.append_nil] at h2
  rw [h1, h2]
  simp [runA]
theorem argsAt_node {k : Nat} {cs : List (List Nd)} {n : Nd} (hl : cs.length = (shp n.op).ops) (ha : ∀ a ∈ cs, Ex k a) (o : Nat) :
  runA (cs.flatten ++ [n]) o [] = flatA o cs ++ [roots o cs] := by
 have h2 := runA_node hl o (runA_flat k (runA_ex k) cs ha o) [] []
 rw [List.append_nil] at h2
 rw [h2]
 simp [runA]
end Go.Proofs.YtbicehdehiakgaaGreatDoor
