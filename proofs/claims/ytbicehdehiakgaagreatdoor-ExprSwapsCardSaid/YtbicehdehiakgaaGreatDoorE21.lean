/- A part of the proof: E8 G7. -/
import Derived.Test.YtbicehdehiakgaaGreatDoorE20
set_option linter.unusedVariables false
set_option linter.unusedSimpArgs false
namespace Go.Proofs.YtbicehdehiakgaaGreatDoor
open Go.RowKit
set_option maxRecDepth 100000 in
set_option maxHeartbeats 3200000 in
theorem eSubst_any (es bs : List Nd) (nm : ByteArray) (A1 A2 : Option Addr) (l1 c1 l2 c2 : Nat) (w : World) (hL : LaidE w) (h1 : Es w es A1 l1 c1) (h2 : Es w bs A2 l2 c2) (hf1 : ∀ n ∈ es, Fine n) (hf2 : ∀ n ∈ bs, Fine n) :
  Calls Tryz.prog 27 #[.slice A1 l1 c1, .string nm, .slice A2 l2 c2] w (RetEs (substE es nm bs) w) := by
 have HV : Hid (substE es nm bs = if checkE es ≠ 0 then ([], checkE es) else if checkE bs ≠ 0 then ([], checkE bs) else if 60 < (subL es nm bs).length then ([], 2) else (subL es nm bs, 0)) := rfl
 have HC1 : Hid (∀ W, Below w.heap.size w W → Calls Tryz.prog 18 #[.slice A1 l1 c1] W fun e w' => e = .returned (.int .i64 (checkE es)) ∧ Below W.heap.size W w') := fun W hb => check_any es A1 l1 c1 W (hL.below hb) h1.len h1.cap h1.max (h1.rd.below hb) hf1
 have HC2 : Hid (∀ W, Below w.heap.size w W → Calls Tryz.prog 18 #[.slice A2 l2 c2] W fun e w' => e = .returned (.int .i64 (checkE bs)) ∧ Below W.heap.size W w') := fun W hb => check_any bs A2 l2 c2 W (hL.below hb) h2.len h2.cap h2.max (h2.rd.below hb) hf2
 have hk1 : checkE es = 0 → l1 ≤ 60 := fun h => by rw [h1.len]; exact ((checkE_iff es).1 h).1
 have hk2 : checkE bs = 0 → l2 ≤ 60 := fun h => by rw [h2.len]; exact ((checkE_iff bs).1 h).1
 have H1 := Lib.hid h1; have H2 := Lib.hid h2
 generalize checkE es = z1 at *
 generalize checkE bs = z2 at *
 generalize substE es nm bs = r at *
 clear h1 h2 hf1 hf2 hL
 obtain ⟨W, hW⟩ : ∃ W, W = w.alloc (.cells #[.slice A1 l1 c1, .slice A2 l2 c2] 22) := ⟨_, rfl⟩
 have hba : Below w.heap.size w W := by rw [hW]; exact (Below.refl _ _).alloc (Nat.le_refl _) _
 have hblk : Blk W w.heap.size 22 [.slice A1 l1 c1, .slice A2 l2 c2] := by rw [hW]; exact Blk.new w _ _
 obtain ⟨B, hB⟩ : ∃ B, B = w.heap.size := ⟨_, rfl⟩
 have HB0 := Lib.hid hB
 rw [← hB] at hblk
 have hlt := hblk.lt
 go_enter Tryz.func27, Tryz.ntmps27
 go_wp2_with fail
 simp only [← hW, ← hB]
 clear hW hB
 go_loopg [18] 2 (fun g iv wr => ∃ j : Nat, j + g = 2 ∧ iv = .int .i64 j ∧ Hid (0 < j → z1 = 0) ∧ Hid (1 < j → z2 = 0) ∧ Below w.heap.size w wr ∧ Below W.heap.size W wr)
 case atStart => exact ⟨0, rfl, rfl, fun h => absurd h (by omega), fun h => absurd h (by omega), hba, Below.refl _ _⟩
 case round =>
  obtain ⟨j, hj, rfl, hj1, hj2, hbr, hbW⟩ := hrel
  clear hba
  have hk0 := hblk.below hbW hlt
  have hcc := hk0.cells
  have hjj : j = 0 ∨ j = 1 ∨ j = 2 := by omega
  rcases hjj with rfl | rfl | rfl
  ·obtain rfl : gk = 2 := by omega
   by_cases hz1 : z1 = 0
   ·subst hz1
    go_wp2_with fail
    refine (HC1.out _ hbr).mono ?_
    rintro e w1 ⟨rfl, hb1⟩
    go_wp2
    go_roundg 1
    case measure => omega
    case rel => exact ⟨1, by simp, by simp, fun _ => by trivial, fun h => absurd h (by omega), bstep hbr hb1, bstep hbW hb1⟩
   ·have e1 : (z1 != 0) = true := by simp [hz1]
    have HV2 : Hid (r = ([], z1)) := by
     have := HV.out
     rwa [if_pos hz1] at this
    go_wp2_with fail
    refine (HC1.out _ hbr).mono ?_
    rintro e w1 ⟨rfl, hb1⟩
    go_wp2
    go_ret2
    exact RetEs.bad HV2.out (bstep hbr hb1)
  ·obtain rfl : gk = 1 := by omega
   have hz1 : z1 = 0 := hj1.out (by omega)
   by_cases hz2 : z2 = 0
   ·subst hz2
    go_wp2_with fail
    refine (HC2.out _ hbr).mono ?_
    rintro e w1 ⟨rfl, hb1⟩
    go_wp2
    go_roundg 0
    case measure => omega
    case rel => exact ⟨2, by simp, by simp, fun _ => hz1, fun _ => by trivial, bstep hbr hb1, bstep hbW hb1⟩
   ·have e2 : (z2 != 0) = true := by simp [hz2]
    have HV2 : Hid (r = ([], z2)) := by
     have := HV.out
     rwa [if_neg (by simp [hz1]), if_pos hz2] at this
    clear hz1
    go_wp2_with fail
    refine (HC2.out _ hbr).mono ?_
    rintro e w1 ⟨rfl, hb1⟩
    go_wp2
    go_ret2
    exact RetEs.bad HV2.out (bstep hbr hb1)
  ·obtain rfl : gk = 0 := by omega
   obtain rfl : z1 = 0 := hj1.out (by omega)
   obtain rfl : z2 = 0 := hj2.out (by omega)
   have hk1 := hk1 rfl
   have hk2 := hk2 rfl
   have hbw := hbr
   have HV2 : Hid (r = if 60 < (subL es nm bs).length then ([], 2) else (subL es nm bs, 0)) := by
    have := HV.out
    rwa [if_neg (by simp), if_neg (by simp)] at this
   clear HV HC1 HC2 hbW hk0 hcc hblk hlt hj1 hj2 hbr
   go_wp2_with fail
   go_loopg [11, 30] l1 (fun g ov iv wr => ∃ (k : Nat) (os : List Nd), k + g = l1 ∧ iv = .int .i64 k ∧ Hid (wr.ownsRow w.heap.size 33 5 ov os.length (nds os)) ∧ Hid (os = subL (es.take k) nm bs) ∧ os.length ≤ 60 * k ∧ Below w.heap.size w wr)
   case atStart => exact ⟨0, [], by omega, rfl, World.ownsRow_nil _ _ _ _, rfl, by simp, hbw⟩
   case round =>
    obtain ⟨k, os, hk, rfl, hown, hos, hol, hbr⟩ := hrel
    clear hbw
    by_cases hlt : k < l1
    ·have hke : k < es.length := by rw [← H1.out.len]; exact hlt
     obtain ⟨b, off, hA, hb, hc0, hc1, hc2, hc3, hc4⟩ := (H1.out.rd.below hbr).nd hke
     subst hA
     have HT : Hid (subL (es.take (k + 1)) nm bs = os ++ (if es[k].op = 6 ∧ es[k].name = nm then bs else [es[k]])) := by
      show _ = _
      rw [List.take_succ_eq_append_getElem hke, hos.out]
      unfold subL
      rw [List.flatMap_append, List.flatMap_singleton]
     generalize es[k] = n at *
     obtain ⟨op, ⟨neg, num, den⟩, name⟩ := n
     simp only at hc0 hc1 hc2 hc3 hc4 HT
     have HBA : Hid (Below w.heap.size w (wr.alloc (.cells #[.int .i64 op, .bool neg, .string num, .string den, .string name] 33))) := hbr.alloc hbr.size _
     have HOA := Lib.hid (hown.out.alloc (.cells #[.int .i64 op, .bool neg, .string num, .string den, .string name] 33))
     obtain ⟨q, hq⟩ : ∃ q, (op == 6) = q := ⟨_, rfl⟩
     obtain ⟨p, hp⟩ : ∃ p, (name.toList == nm.toList) = p := ⟨_, rfl⟩
     have hp' : decide (name = nm) = p := by rw [← hp, beq_toList]
     have hm : (op = 6 ∧ name = nm) ↔ (q = true ∧ p = true) := by
      rw [← hq, beq_iff_eq, ← hp', decide_eq_true_eq]
     have HM := Lib.hid hm
     have hl2 := H2.out.len
     have HL2 := Lib.hid hl2
     clear hp' hm hl2 hos
     cases q
     ·have HT2 : Hid (subL (es.take (k + 1)) nm bs = os ++ [(⟨op, ⟨neg, num, den⟩, name⟩ : Nd)]) := by
       show _ = _
       rw [HT.out, if_neg (fun h => by have := HM.out.1 h; exact absurd this.1 (by decide))]
      clear HT HM hp
      go_wp2_with (at_builtin; go_must (refine wpList_push (wr.alloc (.cells #[.int .i64 op, .bool neg, .string num, .string den, .string name] 33)) #[.int .i64 op, .bool neg, .string num, .string den, .string name] rfl _ _ 22 rfl w.heap.size 33 _ 5 64 1 Tryz.underlying22 info_node rfl (by decide) u11 os.length (nds os) rfl HOA.out (by rw [World.size_alloc]; rfl) rfl ?_ ?_ ?_ ?_ ?_))
      any_goals first | (unfold maxLen; omega) | omega
      ·exact ⟨rfl, rfl, rfl, rfl, rfl⟩
      ·exact HBA.out.size
      intro v' w' hown' hb'
      have HOWN : Hid (w'.ownsRow w.heap.size 33 5 v' (os ++ [(⟨op, ⟨neg, num, den⟩, name⟩ : Nd)]).length (nds (os ++ [(⟨op, ⟨neg, num, den⟩, name⟩ : Nd)]))) := by
       rw [nds_append, List.length_append]; exact hown'
      have HB := Lib.hid (HBA.out.trans hb')
      clear hown' hb'
      go_wp2
      go_roundg (l1 - (k + 1))
      case measure => omega
      case rel =>
       exact ⟨k + 1, os ++ [(⟨op, ⟨neg, num, den⟩, name⟩ : Nd)], by omega, by go_num, HOWN, Lib.hid HT2.out.symm, by simp; omega, HB.out⟩
     ·cases p
      ·have HT2 : Hid (subL (es.take (k + 1)) nm bs = os ++ [(⟨op, ⟨neg, num, den⟩, name⟩ : Nd)]) := by
        show _ = _
        rw [HT.out, if_neg (fun h => by have := HM.out.1 h; exact absurd this.2 (by decide))]
       clear HT HM
       go_wp2_with (at_builtin; go_must (refine wpList_push (wr.alloc (.cells #[.int .i64 op, .bool neg, .string num, .string den, .string name] 33)) #[.int .i64 op, .bool neg, .string num, .string den, .string name] rfl _ _ 22 rfl w.heap.size 33 _ 5 64 1 Tryz.underlying22 info_node rfl (by decide) u11 os.length (nds os) rfl HOA.out (by rw [World.size_alloc]; rfl) rfl ?_ ?_ ?_ ?_ ?_))
       any_goals first | (unfold maxLen; omega) | omega
       ·exact ⟨rfl, rfl, rfl, rfl, rfl⟩
       ·exact HBA.out.size
       intro v' w' hown' hb'
       have HOWN : Hid (w'.ownsRow w.heap.size 33 5 v' (os ++ [(⟨op, ⟨neg, num, den⟩, name⟩ : Nd)]).length (nds (os ++ [(⟨op, ⟨neg, num, den⟩, name⟩ : Nd)]))) := by
        rw [nds_append, List.length_append]; exact hown'
       have HB := Lib.hid (HBA.out.trans hb')
       clear hown' hb'
       go_wp2
       go_roundg (l1 - (k + 1))
       case measure => omega
       case rel =>
        exact ⟨k + 1, os ++ [(⟨op, ⟨neg, num, den⟩, name⟩ : Nd)], by omega, by go_num, HOWN, Lib.hid HT2.out.symm, by simp; omega, HB.out⟩
      ·have HT2 : Hid (subL (es.take (k + 1)) nm bs = os ++ bs) := by
        show _ = _
        rw [HT.out, if_pos (HM.out.2 ⟨rfl, rfl⟩)]
       clear HT HM
       go_wp2_with (at_builtin; go_must (refine wpList_append_rd (wr.alloc (.cells #[.int .i64 op, .bool neg, .string num, .string den, .string name] 33)) rfl _ _ 22 rfl w.heap.size 33 _ 5 64 Tryz.underlying22 info_node rfl (by decide) u11 os.length (nds os) rfl HOA.out A2 l2 c2 (nds bs) rfl (H2.out.rd.below HBA.out) (by rw [nds_length, HL2.out]) (nds_one _) ?_ ?_ ?_ ?_))
       any_goals first | (unfold maxLen; omega) | omega
       ·exact HBA.out.size
       intro v' w' hown' hb'
       have HOWN : Hid (w'.ownsRow w.heap.size 33 5 v' (os ++ bs).length (nds (os ++ bs))) := by
        rw [nds_append, List.length_append, ← HL2.out]; exact hown'
       have HB := Lib.hid (HBA.out.trans hb')
       clear hown' hb'
       go_wp2
       go_roundg (l1 - (k + 1))
       case measure => omega
       case rel =>
        exact ⟨k + 1, os ++ bs, by omega, by go_num, HOWN, Lib.hid HT2.out.symm, by rw [List.length_append, ← HL2.out]; omega, HB.out⟩
    ·have hkl : k = l1 := by omega
     have hT : Hid (os = subL es nm bs) := by
      show _ = _
      rw [hos.out, hkl, H1.out.len, List.take_length]
     clear hos
     obtain ⟨A, cp, rfl, g1, g2, g3, g4⟩ := own_rd hown.out
     have HBR := Lib.hid hbr
     have G3 := Lib.hid g3
     clear hbr g3 g4 hown
     by_cases h60 : 60 < os.length
     ·have h60' : (60 : Int) < os.length := by omega
      go_wp2
      go_ret2
      refine RetEs.bad ?_ HBR.out
      rw [HV2.out, ← hT.out, if_pos h60]
     ·have h60' : ¬ (60 : Int) < os.length := by omega
      go_wp2
      go_ret2
      have e : r = (os, 0) := by rw [HV2.out, ← hT.out, if_neg h60]
      exact ⟨A, os.length, cp, by rw [e]; rfl, by rw [e]; exact ⟨rfl, g1, g2, G3.out⟩, HBR.out⟩
end Go.Proofs.YtbicehdehiakgaaGreatDoor
namespace Go.Proofs.YtbicehdehiakgaaGreatDoor
open Go.RowKit
theorem own_form {w : World} {base : Nat} {e : TypeId} {size : Nat} {v : Value} {n : Nat} {xs : List Value} (h : w.ownsRow base e size v n xs) (hn : 0 < n) : ∃ g cap, v = .slice (some ⟨g, 0, none⟩) n cap ∧ base ≤ g := by
 rcases h.2 with ⟨_, h0⟩ | ⟨g, cap, cur, hv, hb, _⟩
 ·omega
 ·exact ⟨g, cap, hv, hb⟩
def swL (es : List Nd) (k : Nat) (x : Ra) : List Nd := es.modify k fun n => ⟨n.op, x, n.name⟩
def swapE (es : List Nd) (i : Int) (x : Ra) : List Nd × Int :=
 if checkE es ≠ 0 then ([], checkE es) else if i < 0 ∨ (es.length : Int) ≤ i then ([], 1)
 else if (shp (es.getD i.toNat ⟨0, zR, ⟨#[]⟩⟩).op).lit = true ∨ (shp (es.getD i.toNat ⟨0, zR, ⟨#[]⟩⟩).op).stp = true then
  (if checkE (swL es i.toNat x) ≠ 0 then ([], checkE (swL es i.toNat x)) else (swL es i.toNat x, 0))
 else ([], 1)
theorem swapE_ways (es : List Nd) (i : Int) (x : Ra) : (checkE es ≠ 0 → swapE es i x = ([], checkE es)) ∧ (checkE es = 0 → (i < 0 ∨ (es.length : Int) ≤ i) → swapE es i x = ([], 1)) ∧
  (checkE es = 0 → ∀ (k : Nat) (n : Nd), es[k]? = some n → i = (k : Int) → (¬ ((shp n.op).lit = true ∨ (shp n.op).stp = true) → swapE es i x = ([], 1)) ∧
    ((shp n.op).lit = true ∨ (shp n.op).stp = true → swapE es i x = if checkE (swL es k x) ≠ 0 then ([], checkE (swL es k x)) else (swL es k x, 0))) := by
 refine ⟨fun h => by unfold swapE; rw [if_pos h], fun h h2 => by unfold swapE; rw [if_neg (by simp [h]), if_pos h2], ?_⟩
 rintro h k n hn rfl
 have hk : k < es.length := (List.getElem?_eq_some_iff.1 hn).1
 have e : es.getD (k : Int).toNat ⟨0, zR, ⟨#[]⟩⟩ = n := by
  rw [Int.toNat_natCast, List.getD_eq_getElem?_getD, hn]; rfl
 unfold swapE
 rw [if_neg (by simp [h]), if_neg (by omega), e, Int.toNat_natCast]
 exact ⟨fun hh => by rw [if_neg hh], fun hh => by rw [if_pos hh]⟩
theorem swL_length (es : List Nd) (k : Nat) (x : Ra) : (swL es k x).length = es.length := List.length_modify _ _ _
theorem swL_fine {es : List Nd} {k : Nat} {x : Ra} (h : ∀ n ∈ es, Fine n) (hx : x.num.size ≤ 1048576 ∧ x.den.size ≤ 1048576) : ∀ n ∈ swL es k x, Fine n := by
 induction es generalizing k with
 | nil => intro n hn; simp [swL] at hn
 | cons m es ih =>
  cases k with
  | zero =>
   intro n hn
   rcases List.mem_cons.1 (show n ∈ (⟨m.op, x, m.name⟩ : Nd) :: es from hn) with rfl | hn
   ·exact hx
   ·exact h n (List.mem_cons_of_mem _ hn)
  | succ k =>
   intro n hn
   rcases List.mem_cons.1 (show n ∈ m :: swL es k x from hn) with rfl | hn
   ·exact h n (List.mem_cons_self ..)
   ·exact ih (fun n hn => h n (List.mem_cons_of_mem _ hn)) n hn
theorem chk_op (e : List Nd) : ∀ d, chk e d = 0 → ∀ n ∈ e, wrongN n = 0 := by
 induction e with
 | nil => intro d _ n hn; cases hn
 | cons m r ih =>
  intro d h n hn
  rw [chk] at h
  split at h
  ·next h1 => exact absurd h h1
  ·next h1 =>
   split at h
   ·cases h
   ·rcases List.mem_cons.1 hn with rfl | hn
    ·simpa using h1
    ·exact ih _ h n hn
theorem checkE_wr {es : List Nd} (h : checkE es = 0) : ∀ n ∈ es, wrongN n = 0 := by
 unfold checkE at h
 split at h
 ·cases h
 ·exact chk_op es 0 h
theorem checkE_op {es : List Nd} (h : checkE es = 0) (k : Nat) (hk : k < es.length) : 1 ≤ es[k].op ∧ es[k].op ≤ 24 := wrongN_op (checkE_wr h _ (List.getElem_mem hk))
theorem nds_swL (es : List Nd) (k : Nat) (x : Ra) (hk : k < es.length) :
  (((nds es).set (k * 5 + 1) (.bool x.neg)).set (k * 5 + 2) (.string x.num)).set (k * 5 + 3) (.string x.den) = nds (swL es k x) := by
 induction es generalizing k with
 | nil => simp at hk
 | cons n es ih =>
  cases k with
  | zero => rfl
  | succ k =>
   have := ih k (by simpa using hk)
   show (((n.cells ++ nds es).set _ _).set _ _).set _ _ = n.cells ++ nds (swL es k x)
   rw [← this]
   have hl : n.cells.length = 5 := rfl
   rw [List.set_append_right _ _ (by rw [hl]; omega), List.set_append_right _ _ (by rw [hl]; omega), List.set_append_right _ _ (by rw [hl]; omega), hl]
   congr 1
   rw [show (k + 1) * 5 + 1 - 5 = k * 5 + 1 from by omega, show (k + 1) * 5 + 2 - 5 = k * 5 + 2 from by omega, show (k + 1) * 5 + 3 - 5 = k * 5 + 3 from by omega]
theorem clone_any {es : List Nd} {b off l c : Nat} {W : World} (h : Es W es (some ⟨b, off, none⟩) l c) (h0 : 0 < l) (h60 : l ≤ 60) :
  Calls Tryz.prog 71 #[.slice (some ⟨b, off, none⟩) l c] W fun e w' => ∃ v', e = .returned v' ∧ w'.ownsRow W.heap.size 33 5 v' l (nds es) ∧ Below W.heap.size W w' := by
 obtain ⟨i, hi, hzz⟩ := Option.map_eq_some_iff.1 info_node
 simp only [Prod.mk.injEq] at hzz
 obtain ⟨hz, hs1, hb⟩ := hzz
 have hl : (nds es).length = l * 5 := by rw [nds_length, h.len]
 obtain ⟨b', off', e, _, hc⟩ := h.rd.at_ (k := 0) (by omega)
 injection e with e; injection e with e1 e2
 subst e1 e2
 refine (AnyE.slices_Clone Tryz.cloneN i _ 5 64 hi hz hs1 hb rfl (by decide) Tryz.sizeOf33 b off l c (nds es) W hl (by unfold maxLen; omega) (by omega) ?_ (nds_one _)).mono ?_
 ·intro j u hu
  obtain ⟨hj, hu⟩ := List.getElem?_eq_some_iff.1 hu
  rw [hc j hj, hu]
 ·rintro e w' ⟨v', rfl, h1, _, h2⟩
  exact ⟨v', rfl, h1, h2⟩
set_option maxRecDepth 100000 in
set_option maxHeartbeats 3200000 in
theorem gSwap_any (es : List Nd) (i : Int) (x : Ra) (A1 : Option Addr) (l1 c1 : Nat) (w : World) (h1 : Es w es A1 l1 c1) (hf1 : ∀ n ∈ es, Fine n) (hx : x.num.size ≤ 1048576 ∧ x.den.size ≤ 1048576) :
  Calls Tryz.prog 34 #[.slice A1 l1 c1, .int .i64 i, x.v] w (RetEs (swapE es i x) w) := by
 have HV := Lib.hid (swapE_ways es i x)
 have HC1 : Hid (∀ W, Below w.heap.size w W → Calls Tryz.prog 42 #[.slice A1 l1 c1] W fun e w' => e = .returned (.int .i64 (checkE es)) ∧ Below W.heap.size W w') := fun W hb => gCheck_any es A1 l1 c1 W h1.len h1.cap h1.max (h1.rd.below hb) hf1
 have HC2 : Hid (∀ k A c W, k < es.length → Below w.heap.size w W → Es W (swL es k x) A l1 c → Calls Tryz.prog 42 #[.slice A l1 c] W fun e w' => e = .returned (.int .i64 (checkE (swL es k x))) ∧ Below W.heap.size W w') := fun k A c W _ hb h => gCheck_any (swL es k x) A l1 c W h.len h.cap h.max h.rd (swL_fine hf1 hx)
 have hk1 : checkE es = 0 → l1 ≤ 60 := fun h => by rw [h1.len]; exact ((checkE_iff es).1 h).1
 have H1 := Lib.hid h1
 have HOP : Hid (checkE es = 0 → ∀ k (h : k < es.length), 1 ≤ es[k].op ∧ es[k].op ≤ 24) := fun h k hk => checkE_op h k hk
 generalize swapE es i x = r at *
 clear h1 hf1 hx
 obtain ⟨xn, xu, xd⟩ := x
 unfold Ra.v
 simp only
 obtain ⟨W, hW⟩ : ∃ W, W = w.alloc (.cells #[.bool xn, .string xu, .string xd] 31) := ⟨_, rfl⟩
 have hba : Below w.heap.size w W := by rw [hW]; exact (Below.refl _ _).alloc (Nat.le_refl _) _
 have hk0 : Blk W w.heap.size 31 [.bool xn, .string xu, .string xd] := by rw [hW]; exact Blk.new w _ _
 have hsz : W.heap.size = w.heap.size + 1 := by rw [hW]; exact Array.size_push _
 obtain ⟨B, hB⟩ : ∃ B, B = w.heap.size := ⟨_, rfl⟩
 have HB := Lib.hid hB
 rw [← hB] at hba hsz hk0
 have hx0 := hk0.cells
 rw [HB.out] at hba
 by_cases hz1 : checkE es = 0
 ·have hk1 := hk1 hz1
  have HOP := Lib.hid (HOP.out hz1)
  have HZ := Lib.hid hz1
  by_cases hi : i < 0 ∨ (l1 : Int) ≤ i
  ·have HR : Hid (r = ([], 1)) := HV.out.2.1 hz1 (by rw [← H1.out.len]; exact hi)
   clear HV hz1
   have hi2 : (i < 0) ∨ (0 ≤ i ∧ (l1 : Int) ≤ i) := by omega
   clear hi
   rcases hi2 with hi | ⟨hi, hi2⟩
   all_goals
    go_enter Tryz.func34, Tryz.ntmps34
    go_wp2_with fail
    simp only [← hW, ← hB]
    clear hW hB
    refine (HC1.out _ hba).mono ?_
    rintro e w1 ⟨rfl, hb1⟩
    rw [HZ.out]
    go_wp2
    go_ret2
    exact RetEs.bad HR.out (bstep hba hb1)
  ·obtain ⟨k, rfl⟩ : ∃ k : Nat, i = k := ⟨i.toNat, by omega⟩
   have hkl : k < l1 := by omega
   have hke : k < es.length := by rw [← H1.out.len]; exact hkl
   have hki : 0 ≤ (k : Int) := by omega
   have hki2 : ¬ l1 ≤ k := by omega
   have hki3 : decide (l1 ≤ k) = false := decide_eq_false hki2
   obtain ⟨b, off, hA, _, _⟩ := H1.out.rd.nd hke
   subst hA
   obtain ⟨n, hn0⟩ : ∃ n, es[k]? = some n := ⟨_, List.getElem?_eq_getElem hke⟩
   have hn1 : es[k] = n := (List.getElem?_eq_some_iff.1 hn0).2
   have HND : Hid (∀ W, Below w.heap.size w W → NdAt W b (off + k * 5) n) := fun W hb => by
    obtain ⟨b', off', e, _, h⟩ := (H1.out.rd.below hb).nd hke
    injection e with e; injection e with e1 e2
    subst e1 e2; rw [← hn1]; exact h
   have hway := HV.out.2.2 hz1 k n hn0 rfl
   obtain ⟨o1, o2⟩ := HOP.out k hke
   rw [hn1] at o1 o2
   clear hn0 hn1
   have HK := Lib.hid hke
   clear HV hz1 hi HOP
   obtain ⟨op, hop⟩ : ∃ op, n.op = op := ⟨_, rfl⟩
   rw [hop] at hway o1 o2
   have HLI := Lib.hid (fun W => gLiteral_any op W)
   have HST := Lib.hid (fun W => gStepped_any op W)
   generalize (shp op).lit = li at *
   generalize (shp op).stp = st at *
   have HNC : Hid (∀ W, Below w.heap.size w W → W.cell? ⟨b, off + k * 5, none⟩ = some (.int .i64 op)) := fun W hb => by
    have := (HND.out W hb).1
    rwa [hop] at this
   clear hop
   by_cases hls : li = true ∨ st = true
   ·have HW := Lib.hid (hway.2 hls)
    have hls2 : li = true ∨ (li = false ∧ st = true) := by
     cases li
     ·exact .inr ⟨rfl, by simpa using hls⟩
     ·exact .inl rfl
    clear hway hls
    rcases hls2 with rfl | ⟨rfl, rfl⟩
    ·go_enter Tryz.func34, Tryz.ntmps34
     go_wp2_with fail
     simp only [← hW, ← hB]
     clear hW hB
     refine (HC1.out _ hba).mono ?_
     rintro e w1 ⟨rfl, hb1⟩
     rw [HZ.out]
     have hk2 := hk0.below hb1 hk0.lt
     have hx1 := hk2.cells
     have hB1 := bstep hba hb1
     have hn := HNC.out _ hB1
     go_wp2_with fail
     refine (HLI.out _).mono ?_
     rintro e w' ⟨rfl, rfl⟩
     have hE : Es w1 es (some ⟨b, off, none⟩) l1 c1 := H1.out.below hB1
     have hEL := hE.len
     have hw0 := (World.ownsRow_lit (base := w1.heap.size) (e := 33) (size := 5) w1 #[] 0 (Nat.le_refl _) (by unfold maxLen; omega) rfl)
     have hb0 : Below w.heap.size w (w1.alloc (.cells #[] 33)) := hB1.alloc hB1.size _
     have hE0 := hE.below ((Below.refl _ _).alloc (Nat.le_refl _) (.cells #[] 33))
     have HE0 := Lib.hid hE0; have HW0 := Lib.hid hw0; have HEL := Lib.hid hEL; have HB0 := Lib.hid hb0; have HK2 := Lib.hid (hk2.alloc (.cells #[] 33))
     have HLT : Hid (B < w1.heap.size) := hk2.lt
     have HW1 : Hid (w.heap.size ≤ w1.heap.size) := hB1.size
     clear hE0 hw0 hE hEL hb0 hb1 hn hx1 hk2 hx0
     go_wp2_with (at_builtin; go_must (refine wpList_append_rd (w1.alloc (.cells #[] 33)) rfl _ _ 22 rfl w1.heap.size 33 _ 5 64 Tryz.underlying22 info_node rfl (by decide) (.slice (some ⟨w1.heap.size, 0, none⟩) 0 0) 0 _ rfl HW0.out (some ⟨b, off, none⟩) l1 c1 (nds es) rfl HE0.out.rd (by rw [nds_length, HEL.out]) (nds_one _) ?_ ?_ ?_ ?_))
     any_goals first | (unfold maxLen; omega) | omega
     ·rw [World.size_alloc]; omega
     intro v' w2 hown hb2
     have hown : w2.ownsRow w1.heap.size 33 5 v' l1 (nds es) := by simpa using hown
     have hkx := HK2.out.below hb2 HLT.out
     have hB2 := HB0.out.trans (hb2.mono HW1.out)
     obtain ⟨g, cp, rfl, hge⟩ := own_form hown (by omega)
     have hgB : B ≠ g := by have := HLT.out; omega
     have hgw : w.heap.size ≤ g := Nat.le_trans HW1.out hge
     have hcx := hkx.cells
     obtain ⟨y, hy⟩ : ∃ y, es[k]? = some y := ⟨_, List.getElem?_eq_getElem HK.out⟩
     have hy2 : es[k]'HK.out = y := (List.getElem?_eq_some_iff.1 hy).2
     have s1 := (hown.cellAt (k * 5 + 1) (by omega)).trans (nds_get es k 1 HK.out (by omega))
     have s2 := (hown.cellAt (k * 5 + 2) (by omega)).trans (nds_get es k 2 HK.out (by omega))
     have s3 := (hown.cellAt (k * 5 + 3) (by omega)).trans (nds_get es k 3 HK.out (by omega))
     rw [hy2] at s1 s2 s3
     simp only [Nd.cells, List.getElem?_cons_succ, List.getElem?_cons_zero] at s1 s2 s3
     have q1 := hown.frozenAt (k * 5 + 1)
     have q2 := hown.frozenAt (k * 5 + 2)
     have q3 := hown.frozenAt (k * 5 + 3)
     have ho3 := (((hown.stored (k * 5 + 1) (.bool xn)).1.stored (k * 5 + 2) (.string xu)).1.stored (k * 5 + 3) (.string xd)).1
     rw [nds_swL es k ⟨xn, xu, xd⟩ HK.out] at ho3
     have hB3 := ((hB2.setCell (p := ⟨g, k * 5 + 1, none⟩) hgw (.bool xn)).setCell (p := ⟨g, k * 5 + 2, none⟩) hgw (.string xu)).setCell (p := ⟨g, k * 5 + 3, none⟩) hgw (.string xd)
     obtain ⟨w3, hw3⟩ : ∃ x, x = (((w2.setCell ⟨g, k * 5 + 1, none⟩ (.bool xn)).setCell ⟨g, k * 5 + 2, none⟩ (.string xu)).setCell ⟨g, k * 5 + 3, none⟩ (.string xd)) := ⟨_, rfl⟩
     rw [← hw3] at ho3 hB3
     obtain ⟨A3, c3, hv3, g1, g2, g3, g4⟩ := own_rd ho3
     injection hv3 with e1 e2 e3
     subst e1 e3
     have hE3 : Es w3 (swL es k ⟨xn, xu, xd⟩) (some ⟨g, 0, none⟩) l1 cp := ⟨by rw [swL_length]; exact H1.out.len, g1, g2, g3⟩
     have HE3 := Lib.hid hE3; have HB3 := Lib.hid hB3
     clear hown hkx hB2 hy hy2 ho3 hB3 hE3 g1 g2 g3 g4 hge
     go_wp2_with fail
     simp only [← hw3]
     clear hcx s1 s2 s3 q1 q2 q3 hw3
     refine (HC2.out k _ _ _ HK.out HB3.out HE3.out).mono ?_
     rintro e w4 ⟨rfl, hb4⟩
     have HE4 := Lib.hid (HE3.out.below hb4)
     have HB4 := Lib.hid (bstep HB3.out hb4)
     clear hb4
     by_cases hz : checkE (swL es k ⟨xn, xu, xd⟩) = 0
     ·have HR : Hid (r = (swL es k ⟨xn, xu, xd⟩, 0)) := by
       have := HW.out
       rwa [if_neg (by simp [hz])] at this
      rw [hz]
      clear hz
      go_wp2
      go_ret2
      exact ⟨some ⟨g, 0, none⟩, l1, cp, by rw [HR.out]; rfl, by rw [HR.out]; exact HE4.out, HB4.out⟩
     ·have HR : Hid (r = ([], checkE (swL es k ⟨xn, xu, xd⟩))) := by
       have := HW.out
       rwa [if_pos hz] at this
      obtain ⟨zz, hzz⟩ : ∃ zz, checkE (swL es k ⟨xn, xu, xd⟩) = zz := ⟨_, rfl⟩
      rw [hzz] at hz HR ⊢
      have e1 : (zz != 0) = true := by simp [hz]
      clear hz hzz
      go_wp2
      go_ret2
      exact RetEs.bad HR.out HB4.out
    ·go_enter Tryz.func34, Tryz.ntmps34
     go_wp2_with fail
     simp only [← hW, ← hB]
     clear hW hB
     refine (HC1.out _ hba).mono ?_
     rintro e w1 ⟨rfl, hb1⟩
     rw [HZ.out]
     have hk2 := hk0.below hb1 hk0.lt
     have hx1 := hk2.cells
     have hB1 := bstep hba hb1
     have hn := HNC.out _ hB1
     go_wp2_with fail
     refine (HLI.out _).mono ?_
     rintro e w' ⟨rfl, rfl⟩
     go_wp2_with fail
     refine (HST.out _).mono ?_
     rintro e w' ⟨rfl, rfl⟩
     have hE : Es w1 es (some ⟨b, off, none⟩) l1 c1 := H1.out.below hB1
     have hEL := hE.len
     have hw0 := (World.ownsRow_lit (base := w1.heap.size) (e := 33) (size := 5) w1 #[] 0 (Nat.le_refl _) (by unfold maxLen; omega) rfl)
     have hb0 : Below w.heap.size w (w1.alloc (.cells #[] 33)) := hB1.alloc hB1.size _
     have hE0 := hE.below ((Below.refl _ _).alloc (Nat.le_refl _) (.cells #[] 33))
     have HE0 := Lib.hid hE0; have HW0 := Lib.hid hw0; have HEL := Lib.hid hEL; have HB0 := Lib.hid hb0; have HK2 := Lib.hid (hk2.alloc (.cells #[] 33))
     have HLT : Hid (B < w1.heap.size) := hk2.lt
     have HW1 : Hid (w.heap.size ≤ w1.heap.size) := hB1.size
     clear hE0 hw0 hE hEL hb0 hb1 hn hx1 hk2 hx0
     go_wp2_with (at_builtin; go_must (refine wpList_append_rd (w1.alloc (.cells #[] 33)) rfl _ _ 22 rfl w1.heap.size 33 _ 5 64 Tryz.underlying22 info_node rfl (by decide) (.slice (some ⟨w1.heap.size, 0, none⟩) 0 0) 0 _ rfl HW0.out (some ⟨b, off, none⟩) l1 c1 (nds es) rfl HE0.out.rd (by rw [nds_length, HEL.out]) (nds_one _) ?_ ?_ ?_ ?_))
     any_goals first | (unfold maxLen; omega) | omega
     ·rw [World.size_alloc]; omega
     intro v' w2 hown hb2
     have hown : w2.ownsRow w1.heap.size 33 5 v' l1 (nds es) := by simpa using hown
     have hkx := HK2.out.below hb2 HLT.out
     have hB2 := HB0.out.trans (hb2.mono HW1.out)
     obtain ⟨g, cp, rfl, hge⟩ := own_form hown (by omega)
     have hgB : B ≠ g := by have := HLT.out; omega
     have hgw : w.heap.size ≤ g := Nat.le_trans HW1.out hge
     have hcx := hkx.cells
     obtain ⟨y, hy⟩ : ∃ y, es[k]? = some y := ⟨_, List.getElem?_eq_getElem HK.out⟩
     have hy2 : es[k]'HK.out = y := (List.getElem?_eq_some_iff.1 hy).2
     have s1 := (hown.cellAt (k * 5 + 1) (by omega)).trans (nds_get es k 1 HK.out (by omega))
     have s2 := (hown.cellAt (k * 5 + 2) (by omega)).trans (nds_get es k 2 HK.out (by omega))
     have s3 := (hown.cellAt (k * 5 + 3) (by omega)).trans (nds_get es k 3 HK.out (by omega))
     rw [hy2] at s1 s2 s3
     simp only [Nd.cells, List.getElem?_cons_succ, List.getElem?_cons_zero] at s1 s2 s3
     have q1 := hown.frozenAt (k * 5 + 1)
     have q2 := hown.frozenAt (k * 5 + 2)
     have q3 := hown.frozenAt (k * 5 + 3)
     have ho3 := (((hown.stored (k * 5 + 1) (.bool xn)).1.stored (k * 5 + 2) (.string xu)).1.stored (k * 5 + 3) (.string xd)).1
     rw [nds_swL es k ⟨xn, xu, xd⟩ HK.out] at ho3
     have hB3 := ((hB2.setCell (p := ⟨g, k * 5 + 1, none⟩) hgw (.bool xn)).setCell (p := ⟨g, k * 5 + 2, none⟩) hgw (.string xu)).setCell (p := ⟨g, k * 5 + 3, none⟩) hgw (.string xd)
     obtain ⟨w3, hw3⟩ : ∃ x, x = (((w2.setCell ⟨g, k * 5 + 1, none⟩ (.bool xn)).setCell ⟨g, k * 5 + 2, none⟩ (.string xu)).setCell ⟨g, k * 5 + 3, none⟩ (.string xd)) := ⟨_, rfl⟩
     rw [← hw3] at ho3 hB3
     obtain ⟨A3, c3, hv3, g1, g2, g3, g4⟩ := own_rd ho3
     injection hv3 with e1 e2 e3
     subst e1 e3
     have hE3 : Es w3 (swL es k ⟨xn, xu, xd⟩) (some ⟨g, 0, none⟩) l1 cp := ⟨by rw [swL_length]; exact H1.out.len, g1, g2, g3⟩
     have HE3 := Lib.hid hE3; have HB3 := Lib.hid hB3
     clear hown hkx hB2 hy hy2 ho3 hB3 hE3 g1 g2 g3 g4 hge
     go_wp2_with fail
     simp only [← hw3]
     clear hcx s1 s2 s3 q1 q2 q3 hw3
     refine (HC2.out k _ _ _ HK.out HB3.out HE3.out).mono ?_
     rintro e w4 ⟨rfl, hb4⟩
     have HE4 := Lib.hid (HE3.out.below hb4)
     have HB4 := Lib.hid (bstep HB3.out hb4)
     clear hb4
     by_cases hz : checkE (swL es k ⟨xn, xu, xd⟩) = 0
     ·have HR : Hid (r = (swL es k ⟨xn, xu, xd⟩, 0)) := by
       have := HW.out
       rwa [if_neg (by simp [hz])] at this
      rw [hz]
      clear hz
      go_wp2
      go_ret2
      exact ⟨some ⟨g, 0, none⟩, l1, cp, by rw [HR.out]; rfl, by rw [HR.out]; exact HE4.out, HB4.out⟩
     ·have HR : Hid (r = ([], checkE (swL es k ⟨xn, xu, xd⟩))) := by
       have := HW.out
       rwa [if_pos hz] at this
      obtain ⟨zz, hzz⟩ : ∃ zz, checkE (swL es k ⟨xn, xu, xd⟩) = zz := ⟨_, rfl⟩
      rw [hzz] at hz HR ⊢
      have e1 : (zz != 0) = true := by simp [hz]
      clear hz hzz
      go_wp2
      go_ret2
      exact RetEs.bad HR.out HB4.out
   ·have HR : Hid (r = ([], 1)) := hway.1 hls
    obtain ⟨rfl, rfl⟩ : li = false ∧ st = false := by
     cases li <;> cases st <;> simp_all
    clear hway hls
    go_enter Tryz.func34, Tryz.ntmps34
    go_wp2_with fail
    simp only [← hW, ← hB]
    clear hW hB
    refine (HC1.out _ hba).mono ?_
    rintro e w1 ⟨rfl, hb1⟩
    rw [HZ.out]
    have hB1 := bstep hba hb1
    have hn := HNC.out _ hB1
    go_wp2_with fail
    refine (HLI.out _).mono ?_
    rintro e w' ⟨rfl, rfl⟩
    go_wp2_with fail
    refine (HST.out _).mono ?_
    rintro e w' ⟨rfl, rfl⟩
    go_wp2
    go_ret2
    exact RetEs.bad HR.out hB1
 ·have HR : Hid (r = ([], checkE es)) := HV.out.1 hz1
  obtain ⟨zz, hzz⟩ : ∃ zz, checkE es = zz := ⟨_, rfl⟩
  rw [hzz] at hz1 HR HC1
  have e1 : (zz != 0) = true := by simp [hz1]
  clear HV hz1 hzz hk1 HOP
  go_enter Tryz.func34, Tryz.ntmps34
  go_wp2_with fail
  simp only [← hW, ← hB]
  clear hW hB
  refine (HC1.out _ hba).mono ?_
  rintro e w1 ⟨rfl, hb1⟩
  go_wp2
  go_ret2
  exact RetEs.bad HR.out (bstep hba hb1)
set_option maxRecDepth 100000 in
set_option maxHeartbeats 3200000 in
theorem eSwap_any (es : List Nd) (i : Int) (x : Ra) (A1 : Option Addr) (l1 c1 : Nat) (w : World) (hL : LaidE w) (h1 : Es w es A1 l1 c1) (hf1 : ∀ n ∈ es, Fine n) (hx : x.num.size ≤ 1048576 ∧ x.den.size ≤ 1048576) :
  Calls Tryz.prog 33 #[.slice A1 l1 c1, .int .i64 i, x.v] w (RetEs (swapE es i x) w) := by
 have HV := Lib.hid (swapE_ways es i x)
 have HC1 : Hid (∀ W, Below w.heap.size w W → Calls Tryz.prog 18 #[.slice A1 l1 c1] W fun e w' => e = .returned (.int .i64 (checkE es)) ∧ Below W.heap.size W w') := fun W hb => check_any es A1 l1 c1 W (hL.below hb) h1.len h1.cap h1.max (h1.rd.below hb) hf1
 have HC2 : Hid (∀ k A c W, k < es.length → Below w.heap.size w W → Es W (swL es k x) A l1 c → Calls Tryz.prog 18 #[.slice A l1 c] W fun e w' => e = .returned (.int .i64 (checkE (swL es k x))) ∧ Below W.heap.size W w') := fun k A c W _ hb h => check_any (swL es k x) A l1 c W (hL.below hb) h.len h.cap h.max h.rd (swL_fine hf1 hx)
 have hk1 : checkE es = 0 → l1 ≤ 60 := fun h => by rw [h1.len]; exact ((checkE_iff es).1 h).1
 have H1 := Lib.hid h1
 have HOP : Hid (checkE es = 0 → ∀ k (h : k < es.length), 1 ≤ es[k].op ∧ es[k].op ≤ 24) := fun h k hk => checkE_op h k hk
 generalize swapE es i x = r at *
 have HL := Lib.hid hL
 clear h1 hf1 hx hL
 obtain ⟨xn, xu, xd⟩ := x
 unfold Ra.v
 simp only
 obtain ⟨W, hW⟩ : ∃ W, W = w.alloc (.cells #[.bool xn, .string xu, .string xd] 31) := ⟨_, rfl⟩
 have hba : Below w.heap.size w W := by rw [hW]; exact (Below.refl _ _).alloc (Nat.le_refl _) _
 have hk0 : Blk W w.heap.size 31 [.bool xn, .string xu, .string xd] := by rw [hW]; exact Blk.new w _ _
 have hsz : W.heap.size = w.heap.size + 1 := by rw [hW]; exact Array.size_push _
 obtain ⟨B, hB⟩ : ∃ B, B = w.heap.size := ⟨_, rfl⟩
 have HB := Lib.hid hB
 rw [← hB] at hba hsz hk0
 have hx0 := hk0.cells
 rw [HB.out] at hba
 by_cases hz1 : checkE es = 0
 ·have hk1 := hk1 hz1
  have HOP := Lib.hid (HOP.out hz1)
  have HZ := Lib.hid hz1
  by_cases hi : i < 0 ∨ (l1 : Int) ≤ i
  ·have HR : Hid (r = ([], 1)) := HV.out.2.1 hz1 (by rw [← H1.out.len]; exact hi)
   clear HV hz1
   have hi2 : (i < 0) ∨ (0 ≤ i ∧ (l1 : Int) ≤ i) := by omega
   clear hi
   rcases hi2 with hi | ⟨hi, hi2⟩
   all_goals
    go_enter Tryz.func33, Tryz.ntmps33
    go_wp2_with fail
    simp only [← hW, ← hB]
    clear hW hB
    refine (HC1.out _ hba).mono ?_
    rintro e w1 ⟨rfl, hb1⟩
    rw [HZ.out]
    go_wp2
    go_ret2
    exact RetEs.bad HR.out (bstep hba hb1)
  ·obtain ⟨k, rfl⟩ : ∃ k : Nat, i = k := ⟨i.toNat, by omega⟩
   have hkl : k < l1 := by omega
   have hke : k < es.length := by rw [← H1.out.len]; exact hkl
   have hki : 0 ≤ (k : Int) := by omega
   have hki2 : ¬ l1 ≤ k := by omega
   have hki3 : decide (l1 ≤ k) = false := decide_eq_false hki2
   obtain ⟨b, off, hA, _, _⟩ := H1.out.rd.nd hke
   subst hA
   obtain ⟨n, hn0⟩ : ∃ n, es[k]? = some n := ⟨_, List.getElem?_eq_getElem hke⟩
   have hn1 : es[k] = n := (List.getElem?_eq_some_iff.1 hn0).2
   have HND : Hid (∀ W, Below w.heap.size w W → NdAt W b (off + k * 5) n) := fun W hb => by
    obtain ⟨b', off', e, _, h⟩ := (H1.out.rd.below hb).nd hke
    injection e with e; injection e with e1 e2
    subst e1 e2; rw [← hn1]; exact h
   have hway := HV.out.2.2 hz1 k n hn0 rfl
   obtain ⟨o1, o2⟩ := HOP.out k hke
   rw [hn1] at o1 o2
   clear hn0 hn1
   have HK := Lib.hid hke
   clear HV hz1 hi HOP
   obtain ⟨op, hop⟩ : ∃ op, n.op = op := ⟨_, rfl⟩
   rw [hop] at hway o1 o2
   obtain ⟨p, rfl⟩ : ∃ p : Nat, op = p := ⟨op.toNat, by omega⟩
   have HCL : Hid (∀ W, Below w.heap.size w W → Calls Tryz.prog 71 #[.slice (some ⟨b, off, none⟩) l1 c1] W fun e w' => ∃ v', e = .returned v' ∧ w'.ownsRow W.heap.size 33 5 v' l1 (nds es) ∧ Below W.heap.size W w') := fun W hb => clone_any (H1.out.below hb) (by omega) (by omega)
   have HTB : Hid (∀ W, Below w.heap.size w W → W.cell? ⟨0, p * 5 + 2, none⟩ = some (.bool (shp (p : Int)).lit) ∧ W.cell? ⟨0, p * 5 + 4, none⟩ = some (.bool (shp (p : Int)).stp)) := fun W hb =>
    ⟨(HL.out.below hb).cell p 2 (by omega) (by omega), (HL.out.below hb).cell p 4 (by omega) (by omega)⟩
   generalize (shp (p : Int)).lit = li at *
   generalize (shp (p : Int)).stp = st at *
   have HNC : Hid (∀ W, Below w.heap.size w W → W.cell? ⟨b, off + k * 5, none⟩ = some (.int .i64 (p : Int))) := fun W hb => by
    have := (HND.out W hb).1
    rwa [hop] at this
   clear hop
   by_cases hls : li = true ∨ st = true
   ·have HW := Lib.hid (hway.2 hls)
    have hls2 : li = true ∨ (li = false ∧ st = true) := by
     cases li
     ·exact .inr ⟨rfl, by simpa using hls⟩
     ·exact .inl rfl
    clear hway hls
    rcases hls2 with rfl | ⟨rfl, rfl⟩
    all_goals
     go_enter Tryz.func33, Tryz.ntmps33
     go_wp2_with fail
     simp only [← hW, ← hB]
     clear hW hB
     refine (HC1.out _ hba).mono ?_
     rintro e w1 ⟨rfl, hb1⟩
     rw [HZ.out]
     have hk2 := hk0.below hb1 hk0.lt
     have hx1 := hk2.cells
     have hB1 := bstep hba hb1
     have hn := HNC.out _ hB1
     obtain ⟨t2, t4⟩ := HTB.out _ hB1
     have HLT : Hid (B < w1.heap.size) := hk2.lt
     have HW1 : Hid (w.heap.size ≤ w1.heap.size) := hB1.size
     go_wp2_with fail
     clear t2 t4 hn hx1 hx0
     refine (HCL.out _ hB1).mono ?_
     rintro e w2 ⟨v', rfl, hown, hb2⟩
     have hkx := hk2.below hb2 hk2.lt
     have hB2 := bstep hB1 hb2
     clear hk2 hb2 hB1 hb1
     obtain ⟨g, cp, rfl, hge⟩ := own_form hown (by omega)
     have hgB : B ≠ g := by have := HLT.out; omega
     have hgw : w.heap.size ≤ g := Nat.le_trans HW1.out hge
     have hcx := hkx.cells
     obtain ⟨y, hy⟩ : ∃ y, es[k]? = some y := ⟨_, List.getElem?_eq_getElem HK.out⟩
     have hy2 : es[k]'HK.out = y := (List.getElem?_eq_some_iff.1 hy).2
     have s1 := (hown.cellAt (k * 5 + 1) (by omega)).trans (nds_get es k 1 HK.out (by omega))
     have s2 := (hown.cellAt (k * 5 + 2) (by omega)).trans (nds_get es k 2 HK.out (by omega))
     have s3 := (hown.cellAt (k * 5 + 3) (by omega)).trans (nds_get es k 3 HK.out (by omega))
     rw [hy2] at s1 s2 s3
     simp only [Nd.cells, List.getElem?_cons_succ, List.getElem?_cons_zero] at s1 s2 s3
     have q1 := hown.frozenAt (k * 5 + 1)
     have q2 := hown.frozenAt (k * 5 + 2)
     have q3 := hown.frozenAt (k * 5 + 3)
     have ho3 := (((hown.stored (k * 5 + 1) (.bool xn)).1.stored (k * 5 + 2) (.string xu)).1.stored (k * 5 + 3) (.string xd)).1
     rw [nds_swL es k ⟨xn, xu, xd⟩ HK.out] at ho3
     have hB3 := ((hB2.setCell (p := ⟨g, k * 5 + 1, none⟩) hgw (.bool xn)).setCell (p := ⟨g, k * 5 + 2, none⟩) hgw (.string xu)).setCell (p := ⟨g, k * 5 + 3, none⟩) hgw (.string xd)
     obtain ⟨w3, hw3⟩ : ∃ x, x = (((w2.setCell ⟨g, k * 5 + 1, none⟩ (.bool xn)).setCell ⟨g, k * 5 + 2, none⟩ (.string xu)).setCell ⟨g, k * 5 + 3, none⟩ (.string xd)) := ⟨_, rfl⟩
     rw [← hw3] at ho3 hB3
     obtain ⟨A3, c3, hv3, g1, g2, g3, g4⟩ := own_rd ho3
     injection hv3 with e1 e2 e3
     subst e1 e3
     have hE3 : Es w3 (swL es k ⟨xn, xu, xd⟩) (some ⟨g, 0, none⟩) l1 cp := ⟨by rw [swL_length]; exact H1.out.len, g1, g2, g3⟩
     have HE3 := Lib.hid hE3; have HB3 := Lib.hid hB3
     clear hown hkx hB2 hy hy2 ho3 hB3 hE3 g1 g2 g3 g4 hge
     go_wp2_with fail
     simp only [← hw3]
     clear hcx s1 s2 s3 q1 q2 q3 hw3
     refine (HC2.out k _ _ _ HK.out HB3.out HE3.out).mono ?_
     rintro e w4 ⟨rfl, hb4⟩
     have HE4 := Lib.hid (HE3.out.below hb4)
     have HB4 := Lib.hid (bstep HB3.out hb4)
     clear hb4
     by_cases hz : checkE (swL es k ⟨xn, xu, xd⟩) = 0
     ·have HR : Hid (r = (swL es k ⟨xn, xu, xd⟩, 0)) := by
       have := HW.out
       rwa [if_neg (by simp [hz])] at this
      rw [hz]
      clear hz
      go_wp2
      go_ret2
      exact ⟨some ⟨g, 0, none⟩, l1, cp, by rw [HR.out]; rfl, by rw [HR.out]; exact HE4.out, HB4.out⟩
     ·have HR : Hid (r = ([], checkE (swL es k ⟨xn, xu, xd⟩))) := by
       have := HW.out
       rwa [if_pos hz] at this
      obtain ⟨zz, hzz⟩ : ∃ zz, checkE (swL es k ⟨xn, xu, xd⟩) = zz := ⟨_, rfl⟩
      rw [hzz] at hz HR ⊢
      have e1 : (zz != 0) = true := by simp [hz]
      clear hz hzz
      go_wp2
      go_ret2
      exact RetEs.bad HR.out HB4.out
   ·have HR : Hid (r = ([], 1)) := hway.1 hls
    obtain ⟨rfl, rfl⟩ : li = false ∧ st = false := by
     cases li <;> cases st <;> simp_all
    clear hway hls
    go_enter Tryz.func33, Tryz.ntmps33
    go_wp2_with fail
    simp only [← hW, ← hB]
    clear hW hB
    refine (HC1.out _ hba).mono ?_
    rintro e w1 ⟨rfl, hb1⟩
    rw [HZ.out]
    have hB1 := bstep hba hb1
    have hn := HNC.out _ hB1
    obtain ⟨t2, t4⟩ := HTB.out _ hB1
    go_wp2
    go_ret2
    exact RetEs.bad HR.out hB1
 ·have HR : Hid (r = ([], checkE es)) := HV.out.1 hz1
  obtain ⟨zz, hzz⟩ : ∃ zz, checkE es = zz := ⟨_, rfl⟩
  rw [hzz] at hz1 HR HC1
  have e1 : (zz != 0) = true := by simp [hz1]
  clear HV hz1 hzz hk1 HOP
  go_enter Tryz.func33, Tryz.ntmps33
  go_wp2_with fail
  simp only [← hW, ← hB]
  clear hW hB
  refine (HC1.out _ hba).mono ?_
  rintro e w1 ⟨rfl, hb1⟩
  go_wp2
  go_ret2
  exact RetEs.bad HR.out (bstep hba hb1)
end Go.Proofs.YtbicehdehiakgaaGreatDoor
