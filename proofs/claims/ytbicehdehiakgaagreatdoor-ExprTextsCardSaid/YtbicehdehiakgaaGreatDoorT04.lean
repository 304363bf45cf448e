/- For every two lists of ints tithinglaw07.ExprTexts returns true, and its arguments read afterwards as they did. Conditions: the package-level variables that the row lists hold what the program's own text lays in them. -/
import Derived.SevenTiedAt
import Derived.Test.YtbicehdehiakgaaGreatDoorTie
import Derived.Test.YtbicehdehiakgaaGreatDoorCards
import Derived.Test.YtbicehdehiakgaaGreatDoorC31
import Derived.Test.YtbicehdehiakgaaGreatDoorC47
import Derived.Test.YtbicehdehiakgaaGreatDoorT00
import Derived.Test.YtbicehdehiakgaaGreatDoorT01
import Derived.Test.YtbicehdehiakgaaGreatDoorT02
import Derived.Test.YtbicehdehiakgaaGreatDoorT03
set_option linter.unusedVariables false
set_option linter.unusedSimpArgs false
namespace Go.Proofs.YtbicehdehiakgaaGreatDoor
open Go.RowKit
structure Zz (w : World) (l : List Int) (A : Option Addr) (n c : Nat) : Prop where
  len : n = l.length
  max : n ≤ maxLen
  rd : Rd w A (Zs l)
  rng : ∀ x ∈ l, -9223372036854775808 ≤ x ∧ x ≤ 9223372036854775807
theorem Zz.below {w w' : World} {l : List Int} {A : Option Addr} {n c : Nat} (h : Zz w l A n c) (hb : Below w.heap.size w w') : Zz w' l A n c := ⟨h.len, h.max, h.rd.below hb, h.rng⟩
theorem made_es {w : World} {l : List Int} {A : Option Addr} {n c : Nat} (h : Zz w l A n c) : Calls Tryz.prog 17 #[.slice A n c] w fun e w' => ∃ A n c, e = .returned (.slice A n c) ∧ Es w' (madeE l) A n c ∧ Below w.heap.size w w' := gMade_any l A n c w h.len h.max h.rd h.rng
set_option maxRecDepth 100000 in
set_option maxHeartbeats 3200000 in
theorem exprTexts_core (l m : List Int) (A1 A2 : Option Addr) (l1 c1 l2 c2 : Nat) (w : World) (hL : LaidE w) (h1 : Zz w l A1 l1 c1) (h2 : Zz w m A2 l2 c2) :
    Calls Tryz.prog 6 #[.slice A1 l1 c1, .slice A2 l2 c2] w fun e w' => e = .returned (.bool true) ∧ Below w.heap.size w w' := by
  have HL : Hid (∀ W, Below w.heap.size w W → LaidE W) := fun W hb => hL.below hb
  have H1 := Lib.hid h1; have H2 := Lib.hid h2
  have HCA := Lib.hid (madeE_check l); have HCB := Lib.hid (madeE_check m)
  have HFA := Lib.hid (madeE_fine l); have HFB := Lib.hid (madeE_fine m)
  have HLN := Lib.hid (madeE_len l).1
  clear h1 h2
  go_enter Tryz.func6, Tryz.ntmps6
  go_wp2_with fail
  refine (lsanity_any _ hL).mono ?_
  rintro e w1 ⟨rfl, hb1⟩
  go_wp2_with fail
  refine (made_es (H1.out.below hb1)).mono ?_
  rintro e w2 ⟨Aa, na, ca, rfl, ha, hb2⟩
  have hb2 := bstep hb1 hb2
  clear hb1
  go_wp2_with fail
  refine (made_es (H2.out.below hb2)).mono ?_
  rintro e w3 ⟨Ab, nb, cb, rfl, hb, hb3⟩
  have ha := ha.below hb3
  have hb3 := bstep hb2 hb3
  clear hb2
  generalize madeE l = xs at *
  generalize madeE m = ys at *
  have HIJ : Hid (textE xs = textE ys ↔ xs = ys) := ⟨fun h => textE_inj HCA.out HCB.out h, fun h => by rw [h]⟩
  have HPA : Hid (parseE (textE xs) = (xs, 0)) := by
    have h := (parseA_iff (textE xs) xs).2 ⟨HCA.out, rfl⟩
    show _ = _
    unfold parseE; rw [h]
  have HTL : Hid ((textE xs).length ≤ 1048576) := Nat.le_trans (textE_len60 HCA.out) (by omega)
  have HTA : Hid (∀ W, LaidE W → Es W xs Aa na ca → Calls Tryz.prog 22 #[.slice Aa na ca] W fun e w' => e = .returned (.tuple #[.string ⟨(textE xs).toArray⟩, .int .i64 0]) ∧ Below W.heap.size W w') := fun W h1 h2 => text_es h1 h2 HFA.out HCA.out _ rfl
  have HTB : Hid (∀ W, LaidE W → Es W ys Ab nb cb → Calls Tryz.prog 22 #[.slice Ab nb cb] W fun e w' => e = .returned (.tuple #[.string ⟨(textE ys).toArray⟩, .int .i64 0]) ∧ Below W.heap.size W w') := fun W h1 h2 => text_es h1 h2 HFB.out HCB.out _ rfl
  have HPR : Hid (∀ W, LaidE W → Calls Tryz.prog 20 #[.string ⟨(textE xs).toArray⟩] W fun e w' => ∃ A n c, e = .returned (.tuple #[.slice A n c, .int .i64 0]) ∧ Es w' xs A n c ∧ Below W.heap.size W w') := fun W h => ret_es HPA.out (eParse_any (textE xs) W h HTL.out)
  obtain ⟨q, hq⟩ : ∃ q, decide (xs = ys) = q := ⟨_, rfl⟩
  have hq2 : ((⟨(textE xs).toArray⟩ : ByteArray).toList == (⟨(textE ys).toArray⟩ : ByteArray).toList) = q := by
    rw [beq_toList, ← hq, decide_eq_decide]
    constructor
    · intro h
      exact HIJ.out.1 (by have := congrArg (fun b : ByteArray => b.data.toList) h; simpa using this)
    · intro h; rw [h]
  generalize (⟨(textE xs).toArray⟩ : ByteArray) = sa at *
  generalize (⟨(textE ys).toArray⟩ : ByteArray) = sb at *
  have HQ := Lib.hid hq
  clear HIJ HPA HTL HCA HCB HFA HFB hq
  have HA := Lib.hid ha; have HBE := Lib.hid hb; have HB := Lib.hid hb3
  clear ha hb hb3
  go_wp2_with fail
  refine (HTA.out _ (HL.out _ HB.out) HA.out).mono ?_
  rintro e w4 ⟨rfl, hb⟩
  replace HB := Lib.hid (bstep HB.out hb)
  replace HA := Lib.hid (HA.out.below hb)
  replace HBE := Lib.hid (HBE.out.below hb)
  clear hb
  go_wp2_with fail
  refine (HTB.out _ (HL.out _ HB.out) HBE.out).mono ?_
  rintro e w5 ⟨rfl, hb⟩
  replace HB := Lib.hid (bstep HB.out hb)
  replace HA := Lib.hid (HA.out.below hb)
  replace HBE := Lib.hid (HBE.out.below hb)
  clear hb
  go_wp2_with fail
  refine (HPR.out _ (HL.out _ HB.out)).mono ?_
  rintro e w6 ⟨Ad, nd, cd, rfl, hd, hb⟩
  replace HB := Lib.hid (bstep HB.out hb)
  replace HA := Lib.hid (HA.out.below hb)
  replace HBE := Lib.hid (HBE.out.below hb)
  clear hb
  go_wp2_with fail
  refine (eSame_es hd HA.out true (decide_eq_true rfl)).mono ?_
  rintro e w7 ⟨rfl, hb⟩
  replace HB := Lib.hid (bstep HB.out hb)
  replace HA := Lib.hid (HA.out.below hb)
  replace HBE := Lib.hid (HBE.out.below hb)
  clear hb hd
  go_wp2_with fail
  refine (gSame_es HA.out HBE.out q HQ.out).mono ?_
  rintro e w8 ⟨rfl, hb⟩
  replace HB := Lib.hid (bstep HB.out hb)
  clear hb HA HBE HQ
  cases q
  all_goals
    go_wp2
    go_ret
    exact ⟨rfl, HB.out⟩
end Go.Proofs.YtbicehdehiakgaaGreatDoor
namespace Go.Proofs.YtbicehdehiakgaaGreatDoor
open Go.ChangeShapes Go.WideShapes Go.ChangeAt Go.RowKit
theorem i64_in64 {x : Int} (h : (Lit.int .i64 x).wf = true) : -9223372036854775808 ≤ x ∧ x ≤ 9223372036854775807 := by
  simp only [Lit.wf, Bool.and_eq_true, decide_eq_true_eq] at h
  exact ⟨h.1, h.2⟩
theorem add_nn (b off m : Nat) : (⟨b, off, none⟩ : Addr).add m = ⟨b, off + m, none⟩ := by unfold Addr.add; split <;> simp_all
set_option maxRecDepth 100000 in
theorem zz_of_trod {H : Type} {enc : TypeId × Value → H} {W : World} {base : Nat} {spare : Nat → Bool} {held : Bool} {r : Reach} {b0 : Nat} {v : Value} {d : DataW H} {p : List MemPlace} (hv : Value.okWide Tryz.prog W r b0 27 v) (h : DataW.Trod enc Tryz.prog W base spare held 27 v d p) :
    ∃ l A n c, v = .slice A n c ∧ Zz W l A n c := by
  obtain ⟨fuel, hf⟩ := h
  have k1 : Tryz.prog.cellsOf 3 = 1 := by kernel_rfl
  obtain ⟨A, n, c, rfl⟩ := okWide_slice Tryz.underlying27 hv
  rcases open_ints Tryz.underlying27 Tryz.underlying3 k1 hf with ⟨hcs, _⟩ | ⟨a, len, cap, zs, hcs, hb, hl, hm, hzl, hx, hi, hw⟩
  · have hcs : [Value.slice A n c] = [.slice none 0 0] := hcs
    injection hcs with hcs _
    injection hcs with h1 h2 h3
    subst h1 h2 h3
    exact ⟨[], none, 0, 0, rfl, rfl, Nat.zero_le _, .inl rfl, fun x hx => by cases hx⟩
  · have hcs : [Value.slice A n c] = [.slice (some a) len cap] := hcs
    injection hcs with hcs _
    injection hcs with h1 h2 h3
    subst h1 h2 h3
    have hlz : n ≤ zs.length := by rw [hzl]; split <;> omega
    refine ⟨zs.take n, some a, n, c, rfl, by rw [List.length_take]; omega, Nat.le_trans hl hm, ?_, fun x hx => i64_in64 (hw x (List.mem_of_mem_take hx))⟩
    by_cases hn : n = 0
    · subst hn; exact .inl rfl
    · have h00 := hi 0 (by omega)
      obtain ⟨b, off, spot⟩ := a
      have hspot : spot = none := by
        have := World.cell?_spot h00
        simpa [Addr.add] using this
      subst hspot
      refine .inr ⟨b, off, rfl, ?_, fun i hil => ?_⟩
      · rw [add_nn] at h00
        exact cell_lt h00
      · rw [Zs_length, List.length_take] at hil
        have h1 := hi i (by omega)
        rw [add_nn] at h1
        rw [h1]
        have : (Zs (zs.take n))[i]'(by rw [Zs_length, List.length_take]; exact hil) = .int .i64 (zs.getD i 0) := by
          simp only [Zs, List.getElem_map, List.getElem_take]
          rw [List.getD_eq_getElem?_getD, List.getElem?_eq_getElem (by omega)]; rfl
        rw [this]
end Go.Proofs.YtbicehdehiakgaaGreatDoor
namespace Go.Proofs.YtbicehdehiakgaaGreatDoor
open Go.ChangeShapes Go.WideShapes Go.ChangeAt Go.RowKit
theorem exprTexts_types : ∀ t ∈ Tryz.f6.params.toList, Tryz.prog.readableRec t = true ∧ t < Tryz.prog.types.size := by
  have hall : ([27].all fun t => Tryz.prog.readableRec t && decide (t < Tryz.prog.types.size)) = true := by kernel_rfl
  rw [Tryz.params6]
  intro t ht
  have hm : t ∈ [27] := by simpa using ht
  simpa using List.all_eq_true.1 hall t hm
set_option maxRecDepth 100000 in
theorem exprTexts_lifted (os : Os) (started : os.Started) (H : Type) (enc : TypeId × Value → H) :
    ReturnsInHanded {} Tryz.checked os 6 .any (fun w args => (Rows.exprTextsSpec.pre enc Tryz.prog Tryz.f6 [] false w args ∧ laidMetH Tryz.prog lds w) ∧ sizedMet enc Tryz.prog Tryz.f6 (OpenSpec.ofChange Rows.exprTextsSpec) false w args)
      (Rows.exprTextsSpec.post enc Tryz.prog Tryz.f6 false true false false) := by
  refine returns_shaped (C := Tryz.checked) (X := fun w _ => laidMetH Tryz.prog lds w) (fun _ _ _ hh h => h.of_heap hh) Tryz.own started (by kernel_rfl) Tryz.func6
    (ChangeSpec.witness_shaped (enc := enc) (C := Tryz.checked) (os := os) (X := fun w _ => laidMetH Tryz.prog lds w) false (World.laidAll Tryz.prog os lds) #[.slice none 0 0, .slice none 0 0] 8 (World.laidAll_os _ _ _)
      (World.shaped_of_ZipB (by kernel_rfl) (by kernel_rfl)) (by kernel_rfl) (by kernel_rfl) (by kernel_rfl) (world_met os _)) ?_
  intro W base args ds gs before hval0 hW hL hsh
  have hval : ∀ (j : Nat) t v, Tryz.f6.params[j]? = some t → args[j]? = some v → Value.okWide Tryz.prog W .any base t v := hval0
  have hW' : DataW.Whole enc Tryz.prog Tryz.f6.params.toList Rows.exprTextsSpec.vars false W args.toList ds gs before := hW
  obtain ⟨p, q, hA0, hV, rfl, _, _⟩ := hW
  have hA : DataW.TrodAll enc Tryz.prog W 0 (fun _ => true) true Tryz.f6.params.toList args.toList ds p := hA0
  rw [Tryz.params6] at hA hval
  obtain ⟨v0, v1, d0, d1, p0, p1, rfl, rfl, rfl, h0, h1⟩ := trodAll_two hA
  obtain ⟨rfl, rfl⟩ := trodVars_none hV
  obtain ⟨l, A1, n1, c1, rfl, hE1⟩ := zz_of_trod (hval 0 27 v0 rfl rfl) h0
  obtain ⟨m, A2, n2, c2, rfl, hE2⟩ := zz_of_trod (hval 1 27 v1 rfl rfl) h1
  refine (exprTexts_core l m A1 A2 n1 c1 n2 c2 W (laidE_of hL hsh) hE1 hE2).mono fun e W' ⟨he, hb⟩ => ?_
  subst he
  exact ⟨_, rfl, post_true (H := H) (enc := enc) (P := Tryz.prog) (f := Tryz.f6) (s := Rows.exprTextsSpec) (tb := 4) Tryz.laidOut rfl rfl rfl Tryz.underlying4 exprTexts_types hW' hb⟩
theorem exprTexts_holds : Rows.ExprTextsSaid :=
  OpenClaim.holds_of_wide 6 Tryz.f6 rfl rfl rfl rfl rfl rfl rfl ⟨rfl, rfl, rfl, rfl, rfl⟩ rfl rfl rfl rfl rfl (by kernel_rfl) Tryz.func6 (by kernel_rfl)
    (of_decide_eq_true (by kernel_rfl)) (by unfold Func.isWrapper; first | (rw [if_pos (by decide +kernel)]; kernel_rfl) | (rw [if_neg (by decide +kernel)]; exact ⟨rfl, rfl⟩))
    (fun os started H enc _ => exprTexts_lifted os started H enc)
theorem exprTexts_card : Rows.ExprTextsCardSaid :=
  Claim7.holds_tied_plain_at .later [] [.data, .data, .data, .data, .sentinel, .sentinel, .widerDeep, .pinned] true Rows.exprTextsCard.stood.harness true
    exprTexts_holds (fun _ h => by cases h) (by kernel_rfl) (fun _ h => by cases h) exprTexts_row_tie rfl ⟨rfl, rfl⟩ (by kernel_rfl) rfl
    (fun f fn hf hfn => by
      obtain rfl : f = 6 := Option.some.inj ((show Tryz.prog.funcNamed "tithing/tithinglaw07.ExprTexts" = some 6 by kernel_rfl).symm.trans hf) |>.symm
      obtain rfl : fn = Tryz.f6 := (Option.some.inj (Tryz.func6.symm.trans hfn)).symm
      exact ⟨by kernel_rfl, fun j t ht => by
        rw [Tryz.params6] at ht
        have hm : t ∈ [27] := by simpa using Array.mem_of_getElem? ht
        have hall : ([27].all fun u => !Tryz.prog.wantsStandIn u) = true := by kernel_rfl
        exact (show Tryz.prog.wantsStandIn t = false by simpa using List.all_eq_true.1 hall t hm)⟩)
    (by kernel_rfl)
#print axioms exprTexts_card
end Go.Proofs.YtbicehdehiakgaaGreatDoor
