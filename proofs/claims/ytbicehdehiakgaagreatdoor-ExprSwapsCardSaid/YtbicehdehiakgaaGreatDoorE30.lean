/- A part of the proof: Ep Eq. -/
import Derived.Test.YtbicehdehiakgaaGreatDoorE29
set_option linter.unusedVariables false
set_option linter.unusedSimpArgs false
namespace Go.Proofs.YtbicehdehiakgaaGreatDoor
open Go.RowKit
theorem under_of {w0 w : World} (hL : LaidE w0) {R : Nat} (hR0 : w0.heap.size ≤ R) (h : Below w0.heap.size w0 w) : Under R w := ⟨w0, hL.base, h, hR0⟩
theorem PF.push {R : Nat} {W w5 : World} {v v5 : Value} (hg : W.grownBy w5 v.ownBlock) (hv : ∀ g, v5.ownBlock = some g → v.ownBlock = some g ∨ W.heap.size ≤ g) (i : Nat) (u : Value) : PF R W v (w5.setCell ⟨R, i, none⟩ u) v5 :=
 ⟨hg.os, hg.tape, hg.output, by simpa [World.setCell] using hg.size, fun k hk hR hne => (Below.heap_setCell w5 _ u k (by show k ≠ R; exact hR)).trans (hg.block k hk (fun h => hne h.symm)), hv⟩
theorem own_set {w : World} {R : Nat} {e : TypeId} {sz : Nat} {v : Value} {n : Nat} {xs : List Value} (h : w.ownsRow (R + 1) e sz v n xs) (i : Nat) (u : Value) : (w.setCell ⟨R, i, none⟩ u).ownsRow (R + 1) e sz v n xs :=
 h.kept (grown_set w R i u) (by
  cases hv : v.ownBlock with
  | none => exact .inl rfl
  | some g => exact .inr (by intro h'; injection h' with h'; have := (h.lt g hv).1; omega))
theorem nds_snoc (ns : List Nd) (n : Nd) : nds (ns ++ [n]) = nds ns ++ n.cells := by rw [nds_append]; simp [nds]
set_option maxRecDepth 100000 in
set_option maxHeartbeats 3200000 in
theorem ex_over (w0 : World) (hL : LaidE w0) (R : Nat) (hR0 : w0.heap.size ≤ R) (s : List UInt8) (ns : List Nd) (b : Nat) (v : Value) (w : World) (hw0 : Below w0.heap.size w0 w)
  (hR : Blk w R 84 [.string ⟨s.toArray⟩, v, .int .i64 (b : Int)]) (hown : w.ownsRow (R + 1) 33 5 v ns.length (nds ns)) (hs : s.length ≤ 1048576) (hb : b = 60) :
  Calls Tryz.prog 53 #[.pointer (some ⟨R, 0, none⟩)] w (ExPost none R v w) := by
 have hc := hR.cells
 have hf := hR.froz
 have HB : Hid (Below R w (w.setCell ⟨R, 2, none⟩ (.int .i64 61))) := (Below.refl R w).setCell (p := ⟨R, 2, none⟩) (Nat.le_refl _) _
 subst hb
 clear hL hR0 hw0 hR hown hs
 go_enter Tryz.func53, Tryz.ntmps53
 go_wp2
 exact ⟨rfl, rfl, HB.out⟩
set_option maxRecDepth 100000 in
set_option maxHeartbeats 3200000 in
theorem ex_lit_no (w0 : World) (hL : LaidE w0) (R : Nat) (hR0 : w0.heap.size ≤ R) (s : List UInt8) (ns : List Nd) (b : Nat) (v : Value) (w : World) (hw0 : Below w0.heap.size w0 w)
  (hR : Blk w R 84 [.string ⟨s.toArray⟩, v, .int .i64 (b : Int)]) (hown : w.ownsRow (R + 1) 33 5 v ns.length (nds ns)) (hs : s.length ≤ 1048576) (hb : b ≤ 59) (hq : litA s = none) :
  Calls Tryz.prog 53 #[.pointer (some ⟨R, 0, none⟩)] w (ExPost none R v w) := by
 have hc := hR.cells
 have hf := hR.froz
 have hb1 : ((b : Int) + 1) ≤ 60 := by omega
 have HO1 : Hid (Onl R w (w.setCell ⟨R, 2, none⟩ (.int .i64 ((b : Int) + 1)))) := (Onl.refl R w).set 2 _
 have HR1 : Hid (Blk (w.setCell ⟨R, 2, none⟩ (.int .i64 ((b : Int) + 1))) R 84 [.string ⟨s.toArray⟩, v, .int .i64 ((b : Int) + 1)]) := hR.set 2 _
 have HU1 : Hid (Under R (w.setCell ⟨R, 2, none⟩ (.int .i64 ((b : Int) + 1)))) := (under_of hL hR0 hw0).onl HO1.out
 have HOWN := Lib.hid hown
 obtain ⟨W1, hW1⟩ : ∃ W1, W1 = w.setCell ⟨R, 2, none⟩ (.int .i64 ((b : Int) + 1)) := ⟨_, rfl⟩
 rw [← hW1] at HO1 HR1 HU1
 have HLA := Lib.hid (lit_any s R 84 [v, .int .i64 ((b : Int) + 1)] W1 HR1.out HU1.out hs)
 go_enter Tryz.func53, Tryz.ntmps53
 go_wp2_with fail
 simp only [← hW1]
 clear hW1 hc hf
 refine HLA.out.mono ?_
 rw [hq]
 rintro e w2 ⟨rfl, ho2⟩
 have HB : Hid (Below R w w2) := (HO1.out.trans ho2).below (Nat.le_refl _) (Nat.le_of_lt hR.lt)
 go_wp2
 exact ⟨rfl, rfl, HB.out⟩
set_option maxRecDepth 100000 in
set_option maxHeartbeats 3200000 in
theorem ex_lit (w0 : World) (hL : LaidE w0) (R : Nat) (hR0 : w0.heap.size ≤ R) (s : List UInt8) (ns : List Nd) (b : Nat) (v : Value) (w : World) (hw0 : Below w0.heap.size w0 w)
  (hR : Blk w R 84 [.string ⟨s.toArray⟩, v, .int .i64 (b : Int)]) (hown : w.ownsRow (R + 1) 33 5 v ns.length (nds ns)) (hs : s.length ≤ 1048576) (hb : b ≤ 59) (hns : ns.length ≤ 60) (q : Nd × List UInt8) (hq : litA s = some (some q)) :
  Calls Tryz.prog 53 #[.pointer (some ⟨R, 0, none⟩)] w (ExPost (some (q.2, ns ++ [q.1], b + 1)) R v w) := by
 have hc := hR.cells
 have hf := hR.froz
 have hb1 : ((b : Int) + 1) ≤ 60 := by omega
 have HO1 : Hid (Onl R w (w.setCell ⟨R, 2, none⟩ (.int .i64 ((b : Int) + 1)))) := (Onl.refl R w).set 2 _
 have HR1 : Hid (Blk (w.setCell ⟨R, 2, none⟩ (.int .i64 ((b : Int) + 1))) R 84 [.string ⟨s.toArray⟩, v, .int .i64 ((b : Int) + 1)]) := hR.set 2 _
 have HU1 : Hid (Under R (w.setCell ⟨R, 2, none⟩ (.int .i64 ((b : Int) + 1)))) := (under_of hL hR0 hw0).onl HO1.out
 have HOWN := Lib.hid hown
 obtain ⟨W1, hW1⟩ : ∃ W1, W1 = w.setCell ⟨R, 2, none⟩ (.int .i64 ((b : Int) + 1)) := ⟨_, rfl⟩
 rw [← hW1] at HO1 HR1 HU1
 have HLA := Lib.hid (lit_any s R 84 [v, .int .i64 ((b : Int) + 1)] W1 HR1.out HU1.out hs)
 go_enter Tryz.func53, Tryz.ntmps53
 go_wp2_with fail
 simp only [← hW1]
 clear hW1 hc hf
 refine HLA.out.mono ?_
 rw [hq]
 rintro e w2 ⟨⟨rfl, hk2⟩, ho2⟩
 obtain ⟨⟨op, ⟨neg, num, den⟩, nm⟩, r⟩ := q
 unfold Nd.v
 simp only at hk2 ⊢
 obtain ⟨W2, hW2⟩ : ∃ W2, W2 = w2.alloc (.cells #[.int .i64 op, .bool neg, .string num, .string den, .string nm] 33) := ⟨_, rfl⟩
 obtain ⟨N, hN⟩ : ∃ N, N = w2.heap.size := ⟨_, rfl⟩
 have hRN : R < N := by rw [hN]; exact hk2.lt
 have hkN : Blk W2 N 33 [.int .i64 op, .bool neg, .string num, .string den, .string nm] := by rw [hW2, hN]; exact Blk.new w2 _ _
 have hkR : Blk W2 R 84 [.string ⟨r.toArray⟩, v, .int .i64 ((b : Int) + 1)] := by rw [hW2]; exact hk2.alloc _
 have HO2 : Hid (Onl R w W2) := by show Onl _ _ _; rw [hW2]; exact (HO1.out.trans ho2).trans (Onl.of_below ((Below.refl _ _).alloc (Nat.le_refl _) _))
 have hown2 : W2.ownsRow (R + 1) 33 5 v ns.length (nds ns) := HOWN.out.kept (row := some R) ⟨HO2.out.os, HO2.out.tape, HO2.out.output, HO2.out.size, fun k hk hne => HO2.out.block k hk (fun h => hne (by rw [h]))⟩ (by
  cases hv : v.ownBlock with
  | none => exact .inl rfl
  | some g => exact .inr (by intro h; injection h with h; have := (HOWN.out.lt g hv).1; omega))
 have hvN : v.ownBlock ≠ some N := fun h => by have := (HOWN.out.lt N h).2; have := HO2.out.size; have h3 : w.heap.size ≤ w2.heap.size := (HO1.out.trans ho2).size; omega
 go_wp2_with fail
 simp only [← hW2, ← hN]
 clear hW2 hN
 have hcR := hkR.drew.cells
 have hfR := hkR.drew.froz
 have hcN := hkN.drew.cells
 have hcR2 := (hkR.alloc (.cells #[.int .i64 op, .bool neg, .string num, .string den, .string nm] 33)).cells
 have hcN2 := (hkN.alloc (.cells #[.int .i64 op, .bool neg, .string num, .string den, .string nm] 33)).cells
 have HVN := Lib.hid hvN
 have HKR := Lib.hid hkR
 have hszW : R + 1 ≤ W2.heap.size := hkR.lt
 have HOWN2 := Lib.hid hown2
 clear hkR hkN hown2 hvN
 go_region_law ((refine step_push_at W2.drew #[.int .i64 op, .bool neg, .string num, .string den, .string nm] (by rfl) _ _ 22 (by rfl) (R + 1) 33 (.agg #[.int .i64 0, .bool false, .string ⟨#[]⟩, .string ⟨#[]⟩, .string ⟨#[]⟩]) 5 64 1 Tryz.underlying22 info_node rfl (by decide) v ns.length (nds ns) (by rfl) HOWN2.out (by rfl) (by rfl) (by simp [Value.oneCell']) (by unfold maxLen; omega) (by omega) hszW ?_; intro v5 w5 hown5 hg5 hv5; obtain ⟨g5, cap5, rfl, hgR⟩ := own_form hown5 (by omega); have hk5 := HKR.out.of_block (hg5.block R HKR.out.lt (fun h => by have := (HOWN2.out.lt R h.symm).1; omega)); have HK5 := Lib.hid hk5; have hc5 := hk5.cells; have hf5 := hk5.froz; have HOWN5 := Lib.hid hown5; have HG5 := Lib.hid hg5; have HV5 := Lib.hid hv5; clear hown5 hg5 hv5 hk5))
 all_goals
  go_wp2
  first | go_end0 | refine bodyPost_ret (results_none rfl _ _ _) rfl ?_
  refine ⟨rfl, _, HK5.out.set 1 _, ?_, (PF.of_onl HO2.out.drew).trans (PF.push HG5.out HV5.out 1 _)⟩
  rw [List.length_append, nds_snoc]
  exact own_set HOWN5.out 1 _
set_option maxRecDepth 100000 in
set_option maxHeartbeats 3200000 in
theorem ex_no (w0 : World) (hL : LaidE w0) (R : Nat) (hR0 : w0.heap.size ≤ R) (s : List UInt8) (ns : List Nd) (b : Nat) (v : Value) (w : World) (hw0 : Below w0.heap.size w0 w)
  (hR : Blk w R 84 [.string ⟨s.toArray⟩, v, .int .i64 (b : Int)]) (hown : w.ownsRow (R + 1) 33 5 v ns.length (nds ns)) (hs : s.length ≤ 1048576) (hb : b ≤ 59) (hns : ns.length ≤ 60) (hq : litA s = some none) (hw : spanW lettersL s = noL) :
  Calls Tryz.prog 53 #[.pointer (some ⟨R, 0, none⟩)] w (ExPost (some (spanR lettersL s, ns ++ [nd 4 (ofI 0) []], b + 1)) R v w) := by
 have hc := hR.cells
 have hf := hR.froz
 have hb1 : ((b : Int) + 1) ≤ 60 := by omega
 have HO1 : Hid (Onl R w (w.setCell ⟨R, 2, none⟩ (.int .i64 ((b : Int) + 1)))) := (Onl.refl R w).set 2 _
 have HR1 : Hid (Blk (w.setCell ⟨R, 2, none⟩ (.int .i64 ((b : Int) + 1))) R 84 [.string ⟨s.toArray⟩, v, .int .i64 ((b : Int) + 1)]) := hR.set 2 _
 have HU1 : Hid (Under R (w.setCell ⟨R, 2, none⟩ (.int .i64 ((b : Int) + 1)))) := (under_of hL hR0 hw0).onl HO1.out
 have HOWN := Lib.hid hown
 obtain ⟨W1, hW1⟩ : ∃ W1, W1 = w.setCell ⟨R, 2, none⟩ (.int .i64 ((b : Int) + 1)) := ⟨_, rfl⟩
 rw [← hW1] at HO1 HR1 HU1
 have HLA := Lib.hid (lit_any s R 84 [v, .int .i64 ((b : Int) + 1)] W1 HR1.out HU1.out hs)
 go_enter Tryz.func53, Tryz.ntmps53
 go_wp2_with fail
 simp only [← hW1]
 clear hW1 hc hf
 refine HLA.out.mono ?_
 rw [hq]
 rintro e w2 ⟨⟨rfl, hk2⟩, ho2⟩
 unfold nd Nd.v zR
 simp only
 obtain ⟨W2, hW2⟩ : ∃ W2, W2 = w2.alloc (.cells #[.int .i64 0, .bool false, .string ⟨#[]⟩, .string ⟨#[]⟩, .string ⟨#[]⟩] 33) := ⟨_, rfl⟩
 obtain ⟨N, hN⟩ : ∃ N, N = w2.heap.size := ⟨_, rfl⟩
 have hkR : Blk W2 R 84 [.string ⟨s.toArray⟩, v, .int .i64 ((b : Int) + 1)] := by rw [hW2]; exact hk2.alloc _
 have HO2 : Hid (Onl R w W2) := by show Onl _ _ _; rw [hW2]; exact (HO1.out.trans ho2).trans (Onl.of_below ((Below.refl _ _).alloc (Nat.le_refl _) _))
 have HSP := Lib.hid (spanL_at s lettersL R 84 [v, .int .i64 ((b : Int) + 1)] W2 hkR hs (by decide) (by decide))
 clear hk2 ho2 hkR HLA HR1 HO1
 rw [hw] at HSP
 unfold noL at HSP
 unfold lettersL at HSP
 go_wp2_with fail
 simp only [← hW2, ← hN]
 clear hW2 hN
 refine HSP.out.mono ?_
 rintro e w3 ⟨rfl, hk3, ho3⟩
 obtain ⟨W3, hW3⟩ : ∃ W3, W3 = w3.alloc (.cells #[.string ⟨#[110, 111]⟩] 9) := ⟨_, rfl⟩
 obtain ⟨N4, hN4⟩ : ∃ N4, N4 = w3.heap.size := ⟨_, rfl⟩
 have hRN4 : R < N4 := by rw [hN4]; exact hk3.lt
 have HR3 : Hid (Blk W3 R 84 [.string ⟨(spanR lettersL s).toArray⟩, v, .int .i64 ((b : Int) + 1)]) := by show Blk _ _ _ _; rw [hW3]; exact hk3.alloc _
 have HW4 : Hid (Blk W3 N4 9 [.string ⟨#[110, 111]⟩]) := by show Blk _ _ _ _; rw [hW3, hN4]; exact Blk.new w3 _ _
 have HO3 : Hid (Onl R w W3) := by show Onl _ _ _; rw [hW3]; exact (HO2.out.trans ho3).trans (Onl.of_below ((Below.refl _ _).alloc (Nat.le_refl _) _))
 have HWN : Hid (w.heap.size ≤ N4 ∧ N4 < W3.heap.size) := ⟨by rw [hN4]; exact (HO2.out.trans ho3).size, HW4.out.lt⟩
 clear hk3 ho3 HSP
 have hL3 : Laid W3 := ((under_of hL hR0 hw0).onl HO3.out).laid
 have HQ0 := Lib.hid (fun W => qOf_any 0 W (by omega) (by omega))
 have HQ1 := Lib.hid (fun W => qOf_any 1 W (by omega) (by omega))
 have HND : Hid (nd 4 (ofI 0) [] = ⟨4, ofI 0, ⟨#[]⟩⟩) := rfl
 generalize nd 4 (ofI 0) [] = nod at *
 generalize ofI 0 = o0 at *
 generalize ofI 1 = o1 at *
 obtain ⟨an, au, ad⟩ := o0
 obtain ⟨cn, cu, cd⟩ := o1
 unfold Ra.v at HQ0 HQ1
 simp only at HQ0 HQ1
 have hc4 := HW4.out.cells
 rw [hW3] at hc4
 go_wp2_with fail
 simp only [← hW3, ← hN4]
 clear hW3 hN4 hc4
 refine (HQ0.out _).mono ?_
 rintro e w4 ⟨rfl, hb4⟩
 obtain ⟨W5, hW5⟩ : ∃ W5, W5 = w4.alloc (.cells #[.int .i64 4, .bool an, .string au, .string ad, .string ⟨#[]⟩] 33) := ⟨_, rfl⟩
 obtain ⟨N5, hN5⟩ : ∃ N5, N5 = w4.heap.size := ⟨_, rfl⟩
 have hkR : Blk W5 R 84 [.string ⟨(spanR lettersL s).toArray⟩, v, .int .i64 ((b : Int) + 1)] := by rw [hW5]; exact (HR3.out.below hb4 HR3.out.lt).alloc _
 have hkW : Blk W5 N4 9 [.string ⟨#[110, 111]⟩] := by rw [hW5]; exact (HW4.out.below hb4 HW4.out.lt).alloc _
 have hkN : Blk W5 N5 33 [.int .i64 4, .bool an, .string au, .string ad, .string ⟨#[]⟩] := by rw [hW5, hN5]; exact Blk.new w4 _ _
 have HO5 : Hid (Onl R w W5) := by show Onl _ _ _; rw [hW5]; exact (HO3.out.trans (Onl.of_below hb4)).trans (Onl.of_below ((Below.refl _ _).alloc (Nat.le_refl _) _))
 have hlt5 : w.heap.size ≤ N5 ∧ R < N5 ∧ N4 < N5 := by
  have h1 := HWN.out
  have h2 := hb4.size
  have h3 := HR3.out.lt
  rw [hN5]; omega
 have hc4 := hkW.cells
 rw [hW5] at hc4
 clear HR3 HW4 HO3 HQ0 HWN hb4
 clear HQ1
 go_wp2_with fail
 simp only [← hW5, ← hN5]
 clear hW5 hN5 hc4 hkW
 have hown2 : W5.ownsRow (R + 1) 33 5 v ns.length (nds ns) := HOWN.out.kept (row := some R) ⟨HO5.out.os, HO5.out.tape, HO5.out.output, HO5.out.size, fun k hk hne => HO5.out.block k hk (fun h => hne (by rw [h]))⟩ (by
  cases hv : v.ownBlock with
  | none => exact .inl rfl
  | some g => exact .inr (by intro h; injection h with h; have := (HOWN.out.lt g hv).1; omega))
 have hvN : v.ownBlock ≠ some N5 := fun h => by have := (HOWN.out.lt N5 h).2; have := hlt5; omega
 have hnd := HND.out
 clear HND
 subst hnd
 have hcR := hkR.drew.cells
 have hfR := hkR.drew.froz
 have hcN := hkN.drew.cells
 have hcR2 := (hkR.alloc (.cells #[.int .i64 4, .bool an, .string au, .string ad, .string ⟨#[]⟩] 33)).cells
 have hcN2 := (hkN.alloc (.cells #[.int .i64 4, .bool an, .string au, .string ad, .string ⟨#[]⟩] 33)).cells
 have HVN := Lib.hid hvN
 have HKR := Lib.hid hkR
 have hszW : R + 1 ≤ W5.heap.size := hkR.lt
 have HOWN2 := Lib.hid hown2
 clear hkR hkN hown2 hvN
 go_region_law ((refine step_push_at W5.drew #[.int .i64 4, .bool an, .string au, .string ad, .string ⟨#[]⟩] (by rfl) _ _ 22 (by rfl) (R + 1) 33 (.agg #[.int .i64 0, .bool false, .string ⟨#[]⟩, .string ⟨#[]⟩, .string ⟨#[]⟩]) 5 64 1 Tryz.underlying22 info_node rfl (by decide) v ns.length (nds ns) (by rfl) HOWN2.out (by rfl) (by rfl) (by simp [Value.oneCell']) (by unfold maxLen; omega) (by omega) hszW ?_; intro v5 w5 hown5 hg5 hv5; obtain ⟨g5, cap5, rfl, hgR⟩ := own_form hown5 (by omega); have hk5 := HKR.out.of_block (hg5.block R HKR.out.lt (fun h => by have := (HOWN2.out.lt R h.symm).1; omega)); have HK5 := Lib.hid hk5; have hc5 := hk5.cells; have hf5 := hk5.froz; have HOWN5 := Lib.hid hown5; have HG5 := Lib.hid hg5; have HV5 := Lib.hid hv5; clear hown5 hg5 hv5 hk5))
 all_goals
  go_wp2
  first | go_end0 | refine bodyPost_ret (results_none rfl _ _ _) rfl ?_
  refine ⟨rfl, _, HK5.out.set 1 _, ?_, (PF.of_onl HO5.out.drew).trans (PF.push HG5.out HV5.out 1 _)⟩
  rw [List.length_append, nds_snoc]
  exact own_set HOWN5.out 1 _
set_option maxRecDepth 100000 in
set_option maxHeartbeats 3200000 in
theorem ex_yes (w0 : World) (hL : LaidE w0) (R : Nat) (hR0 : w0.heap.size ≤ R) (s : List UInt8) (ns : List Nd) (b : Nat) (v : Value) (w : World) (hw0 : Below w0.heap.size w0 w)
  (hR : Blk w R 84 [.string ⟨s.toArray⟩, v, .int .i64 (b : Int)]) (hown : w.ownsRow (R + 1) 33 5 v ns.length (nds ns)) (hs : s.length ≤ 1048576) (hb : b ≤ 59) (hns : ns.length ≤ 60) (hq : litA s = some none) (hw : spanW lettersL s = yesL) :
  Calls Tryz.prog 53 #[.pointer (some ⟨R, 0, none⟩)] w (ExPost (some (spanR lettersL s, ns ++ [nd 4 (ofI 1) []], b + 1)) R v w) := by
 have hc := hR.cells
 have hf := hR.froz
 have hb1 : ((b : Int) + 1) ≤ 60 := by omega
 have HO1 : Hid (Onl R w (w.setCell ⟨R, 2, none⟩ (.int .i64 ((b : Int) + 1)))) := (Onl.refl R w).set 2 _
 have HR1 : Hid (Blk (w.setCell ⟨R, 2, none⟩ (.int .i64 ((b : Int) + 1))) R 84 [.string ⟨s.toArray⟩, v, .int .i64 ((b : Int) + 1)]) := hR.set 2 _
 have HU1 : Hid (Under R (w.setCell ⟨R, 2, none⟩ (.int .i64 ((b : Int) + 1)))) := (under_of hL hR0 hw0).onl HO1.out
 have HOWN := Lib.hid hown
 obtain ⟨W1, hW1⟩ : ∃ W1, W1 = w.setCell ⟨R, 2, none⟩ (.int .i64 ((b : Int) + 1)) := ⟨_, rfl⟩
 rw [← hW1] at HO1 HR1 HU1
 have HLA := Lib.hid (lit_any s R 84 [v, .int .i64 ((b : Int) + 1)] W1 HR1.out HU1.out hs)
 go_enter Tryz.func53, Tryz.ntmps53
 go_wp2_with fail
 simp only [← hW1]
 clear hW1 hc hf
 refine HLA.out.mono ?_
 rw [hq]
 rintro e w2 ⟨⟨rfl, hk2⟩, ho2⟩
 unfold nd Nd.v zR
 simp only
 obtain ⟨W2, hW2⟩ : ∃ W2, W2 = w2.alloc (.cells #[.int .i64 0, .bool false, .string ⟨#[]⟩, .string ⟨#[]⟩, .string ⟨#[]⟩] 33) := ⟨_, rfl⟩
 obtain ⟨N, hN⟩ : ∃ N, N = w2.heap.size := ⟨_, rfl⟩
 have hkR : Blk W2 R 84 [.string ⟨s.toArray⟩, v, .int .i64 ((b : Int) + 1)] := by rw [hW2]; exact hk2.alloc _
 have HO2 : Hid (Onl R w W2) := by show Onl _ _ _; rw [hW2]; exact (HO1.out.trans ho2).trans (Onl.of_below ((Below.refl _ _).alloc (Nat.le_refl _) _))
 have HSP := Lib.hid (spanL_at s lettersL R 84 [v, .int .i64 ((b : Int) + 1)] W2 hkR hs (by decide) (by decide))
 clear hk2 ho2 hkR HLA HR1 HO1
 rw [hw] at HSP
 unfold yesL at HSP
 unfold lettersL at HSP
 go_wp2_with fail
 simp only [← hW2, ← hN]
 clear hW2 hN
 refine HSP.out.mono ?_
 rintro e w3 ⟨rfl, hk3, ho3⟩
 obtain ⟨W3, hW3⟩ : ∃ W3, W3 = w3.alloc (.cells #[.string ⟨#[121, 101, 115]⟩] 9) := ⟨_, rfl⟩
 obtain ⟨N4, hN4⟩ : ∃ N4, N4 = w3.heap.size := ⟨_, rfl⟩
 have hRN4 : R < N4 := by rw [hN4]; exact hk3.lt
 have HR3 : Hid (Blk W3 R 84 [.string ⟨(spanR lettersL s).toArray⟩, v, .int .i64 ((b : Int) + 1)]) := by show Blk _ _ _ _; rw [hW3]; exact hk3.alloc _
 have HW4 : Hid (Blk W3 N4 9 [.string ⟨#[121, 101, 115]⟩]) := by show Blk _ _ _ _; rw [hW3, hN4]; exact Blk.new w3 _ _
 have HO3 : Hid (Onl R w W3) := by show Onl _ _ _; rw [hW3]; exact (HO2.out.trans ho3).trans (Onl.of_below ((Below.refl _ _).alloc (Nat.le_refl _) _))
 have HWN : Hid (w.heap.size ≤ N4 ∧ N4 < W3.heap.size) := ⟨by rw [hN4]; exact (HO2.out.trans ho3).size, HW4.out.lt⟩
 clear hk3 ho3 HSP
 have hL3 : Laid W3 := ((under_of hL hR0 hw0).onl HO3.out).laid
 have HQ0 := Lib.hid (fun W => qOf_any 0 W (by omega) (by omega))
 have HQ1 := Lib.hid (fun W => qOf_any 1 W (by omega) (by omega))
 have HND : Hid (nd 4 (ofI 1) [] = ⟨4, ofI 1, ⟨#[]⟩⟩) := rfl
 generalize nd 4 (ofI 1) [] = nod at *
 generalize ofI 0 = o0 at *
 generalize ofI 1 = o1 at *
 obtain ⟨an, au, ad⟩ := o0
 obtain ⟨cn, cu, cd⟩ := o1
 unfold Ra.v at HQ0 HQ1
 simp only at HQ0 HQ1
 have hc4 := HW4.out.cells
 rw [hW3] at hc4
 go_wp2_with fail
 simp only [← hW3, ← hN4]
 clear hW3 hN4 hc4
 refine (HQ0.out _).mono ?_
 rintro e w4 ⟨rfl, hb4⟩
 obtain ⟨W5, hW5⟩ : ∃ W5, W5 = w4.alloc (.cells #[.int .i64 4, .bool an, .string au, .string ad, .string ⟨#[]⟩] 33) := ⟨_, rfl⟩
 obtain ⟨N5, hN5⟩ : ∃ N5, N5 = w4.heap.size := ⟨_, rfl⟩
 have hkR : Blk W5 R 84 [.string ⟨(spanR lettersL s).toArray⟩, v, .int .i64 ((b : Int) + 1)] := by rw [hW5]; exact (HR3.out.below hb4 HR3.out.lt).alloc _
 have hkW : Blk W5 N4 9 [.string ⟨#[121, 101, 115]⟩] := by rw [hW5]; exact (HW4.out.below hb4 HW4.out.lt).alloc _
 have hkN : Blk W5 N5 33 [.int .i64 4, .bool an, .string au, .string ad, .string ⟨#[]⟩] := by rw [hW5, hN5]; exact Blk.new w4 _ _
 have HO5 : Hid (Onl R w W5) := by show Onl _ _ _; rw [hW5]; exact (HO3.out.trans (Onl.of_below hb4)).trans (Onl.of_below ((Below.refl _ _).alloc (Nat.le_refl _) _))
 have hlt5 : w.heap.size ≤ N5 ∧ R < N5 ∧ N4 < N5 := by
  have h1 := HWN.out
  have h2 := hb4.size
  have h3 := HR3.out.lt
  rw [hN5]; omega
 have hc4 := hkW.cells
 rw [hW5] at hc4
 clear HR3 HW4 HO3 HQ0 HWN hb4
 go_wp2_with fail
 simp only [← hW5, ← hN5]
 clear hW5 hN5 hc4
 refine (HQ1.out _).mono ?_
 rintro e w6 ⟨rfl, hb6⟩
 have hk6 := hkN.below hb6 hkN.lt
 have hc6 := hk6.cells
 have hf6 := hk6.froz
 obtain ⟨W7, hW7⟩ : ∃ W7, W7 = ((w6.setCell ⟨N5, 1, none⟩ (.bool cn)).setCell ⟨N5, 2, none⟩ (.string cu)).setCell ⟨N5, 3, none⟩ (.string cd) := ⟨_, rfl⟩
 have hkN7 : Blk W7 N5 33 [.int .i64 4, .bool cn, .string cu, .string cd, .string ⟨#[]⟩] := by rw [hW7]; exact ((hk6.set 1 (.bool cn)).set 2 (.string cu)).set 3 (.string cd)
 have hkR7 : Blk W7 R 84 [.string ⟨(spanR lettersL s).toArray⟩, v, .int .i64 ((b : Int) + 1)] := by
  rw [hW7]
  exact (((hkR.below hb6 hkR.lt).other (p := ⟨N5, 1, none⟩) (by show R ≠ N5; omega) _).other (p := ⟨N5, 2, none⟩) (by show R ≠ N5; omega) _).other (p := ⟨N5, 3, none⟩) (by show R ≠ N5; omega) _
 have HO7 : Hid (Onl R w W7) := by
  show Onl _ _ _
  rw [hW7]
  exact (((HO5.out.trans (Onl.of_below hb6)).fresh hlt5.1 1 _).fresh hlt5.1 2 _).fresh hlt5.1 3 _
 clear HQ1 hb6 hkR hkN hk6 HO5 hkW
 have hkR := hkR7
 have hkN := hkN7
 clear hkR7 hkN7
 go_wp2_with fail
 simp only [← hW7]
 clear hW7 hc6 hf6
 have hown2 : W7.ownsRow (R + 1) 33 5 v ns.length (nds ns) := HOWN.out.kept (row := some R) ⟨HO7.out.os, HO7.out.tape, HO7.out.output, HO7.out.size, fun k hk hne => HO7.out.block k hk (fun h => hne (by rw [h]))⟩ (by
  cases hv : v.ownBlock with
  | none => exact .inl rfl
  | some g => exact .inr (by intro h; injection h with h; have := (HOWN.out.lt g hv).1; omega))
 have hvN : v.ownBlock ≠ some N5 := fun h => by have := (HOWN.out.lt N5 h).2; have := hlt5; omega
 have hnd := HND.out
 clear HND
 subst hnd
 have hcR := hkR.drew.cells
 have hfR := hkR.drew.froz
 have hcN := hkN.drew.cells
 have hcR2 := (hkR.alloc (.cells #[.int .i64 4, .bool cn, .string cu, .string cd, .string ⟨#[]⟩] 33)).cells
 have hcN2 := (hkN.alloc (.cells #[.int .i64 4, .bool cn, .string cu, .string cd, .string ⟨#[]⟩] 33)).cells
 have HVN := Lib.hid hvN
 have HKR := Lib.hid hkR
 have hszW : R + 1 ≤ W7.heap.size := hkR.lt
 have HOWN2 := Lib.hid hown2
 clear hkR hkN hown2 hvN
 go_region_law ((refine step_push_at W7.drew #[.int .i64 4, .bool cn, .string cu, .string cd, .string ⟨#[]⟩] (by rfl) _ _ 22 (by rfl) (R + 1) 33 (.agg #[.int .i64 0, .bool false, .string ⟨#[]⟩, .string ⟨#[]⟩, .string ⟨#[]⟩]) 5 64 1 Tryz.underlying22 info_node rfl (by decide) v ns.length (nds ns) (by rfl) HOWN2.out (by rfl) (by rfl) (by simp [Value.oneCell']) (by unfold maxLen; omega) (by omega) hszW ?_; intro v5 w5 hown5 hg5 hv5; obtain ⟨g5, cap5, rfl, hgR⟩ := own_form hown5 (by omega); have hk5 := HKR.out.of_block (hg5.block R HKR.out.lt (fun h => by have := (HOWN2.out.lt R h.symm).1; omega)); have HK5 := Lib.hid hk5; have hc5 := hk5.cells; have hf5 := hk5.froz; have HOWN5 := Lib.hid hown5; have HG5 := Lib.hid hg5; have HV5 := Lib.hid hv5; clear hown5 hg5 hv5 hk5))
 all_goals
  go_wp2
  first | go_end0 | refine bodyPost_ret (results_none rfl _ _ _) rfl ?_
  refine ⟨rfl, _, HK5.out.set 1 _, ?_, (PF.of_onl HO7.out.drew).trans (PF.push HG5.out HV5.out 1 _)⟩
  rw [List.length_append, nds_snoc]
  exact own_set HOWN5.out 1 _
end Go.Proofs.YtbicehdehiakgaaGreatDoor
namespace Go.Proofs.YtbicehdehiakgaaGreatDoor
open Go.RowKit
theorem idxFrom_spec {α : Type} [Inhabited α] (eq : α → α → Bool) (x : α) : ∀ (l : List α) (i : Nat), Lib.idxByFrom eq x l i = -1 ∨ ∃ k, k < l.length ∧ Lib.idxByFrom eq x l i = ((i + k : Nat) : Int) ∧ eq x l[k]! = true := by
 intro l
 induction l with
 | nil => intro i; exact .inl rfl
 | cons y l ih =>
  intro i
  rw [Lib.idxByFrom]
  cases h : eq x y
  ·simp only [Bool.false_eq_true, if_false]
   rcases ih (i + 1) with h1 | ⟨k, h1, h2, h3⟩
   ·exact .inl h1
   ·refine .inr ⟨k + 1, by simp; omega, by rw [h2]; congr 1; omega, ?_⟩
    simpa using h3
  ·simp only [if_true]
   exact .inr ⟨0, by simp, by simp, by simpa using h⟩
theorem place_spec {q : List UInt8} {k : Nat} (h : placeOf ⟨q.toArray⟩ = (k : Int)) : k < 25 ∧ (shp (k : Int)).word = q ∧ q ≠ [] := by
 have hl : shs.length = 25 := rfl
 rcases idxFrom_spec (fun (_ : Sh) y => wordIs ⟨q.toArray⟩ y) default shs 0 with h1 | ⟨j, h1, h2, h3⟩
 ·have : placeOf ⟨q.toArray⟩ = -1 := h1
  omega
 ·have h4 : placeOf ⟨q.toArray⟩ = ((0 + j : Nat) : Int) := h2
  have hjk : j = k := by omega
  subst hjk
  have hj : shs[j]! = shp (j : Int) := by
   have := shp_get j (by omega)
   rw [getElem!_pos shs j h1]
   rw [List.getElem?_eq_getElem h1] at this
   exact Option.some.inj this
  rw [hj] at h3
  unfold wordIs at h3
  simp only [Bool.and_eq_true, decide_eq_true_eq, Bool.not_eq_true', decide_eq_false_iff_not] at h3
  refine ⟨by omega, ?_, fun he => h3.2 (by rw [he])⟩
  have h5 := congrArg (fun b : ByteArray => b.data.toList) h3.1
  simpa using h5
theorem place_neg (q : ByteArray) : placeOf q = -1 ∨ ∃ k : Nat, placeOf q = (k : Int) := by
 rcases idxFrom_spec (fun (_ : Sh) y => wordIs q y) default shs 0 with h1 | ⟨j, _, h2, _⟩
 ·exact .inl h1
 ·exact .inr ⟨0 + j, h2⟩
theorem shp_word_last (k : Nat) (hk : k < 25) (h : (shp (k : Int)).word ≠ []) : ((shp (k : Int)).nam = true ↔ (shp (k : Int)).word.getLast? = some 46) ∧ ((shp (k : Int)).stp = true → (shp (k : Int)).nam = false) := by
 have hall : ∀ j ∈ List.range 25, (shp (j : Int)).word ≠ [] → (((shp (j : Int)).nam = true ↔ (shp (j : Int)).word.getLast? = some 46) ∧ ((shp (j : Int)).stp = true → (shp (j : Int)).nam = false)) := by decide
 exact hall k (List.mem_range.2 hk) h
theorem dot_nam {s : List UInt8} {k : Nat} (h : placeOf ⟨(dotA s).1.toArray⟩ = (k : Int)) : (shp (k : Int)).nam = Lib.hasPrefix (spanR lettersL s) [46] := by
 obtain ⟨hk, hw, hne⟩ := place_spec h
 obtain ⟨h1, _⟩ := shp_word_last k hk (by rw [hw]; exact hne)
 rw [hw] at h1
 cases hd : Lib.hasPrefix (spanR lettersL s) [46]
 ·have e : (dotA s).1 = spanW lettersL s := by unfold dotA; rw [hd]; rfl
  rw [e] at h1 hne
  cases hn : (shp (k : Int)).nam
  ·rfl
  ·have h2 := h1.1 hn
   have h3 : (46 : UInt8) ∈ spanW lettersL s := List.mem_of_getLast? h2
   have h4 := List.all_eq_true.1 (List.all_takeWhile (p := (lettersL.contains ·)) (l := s)) _ h3
   exact absurd h4 (by decide)
 ·have e : (dotA s).1 = spanW lettersL s ++ [46] := by unfold dotA; rw [hd]; rfl
  rw [e] at h1
  exact h1.2 (by simp)
theorem hasp_at (s p : List UInt8) (w : World) : Calls Tryz.prog 86 #[.string ⟨s.toArray⟩, .string ⟨p.toArray⟩] w fun e w' => e = .returned (.bool (Lib.hasPrefix s p)) ∧ w' = w := Tryz.strings_HasPrefix ⟨s.toArray⟩ ⟨p.toArray⟩ w
theorem wantL_no (s p : List UInt8) (R : Nat) (t : TypeId) (l : List Value) (w : World) (hR : Blk w R t (.string ⟨s.toArray⟩ :: l)) (h : Lib.hasPrefix s p = false) :
  Calls Tryz.prog 87 #[.pointer (some ⟨R, 0, none⟩), .string ⟨p.toArray⟩] w fun e w' => e = .panicked noText ∧ w' = w := want_no ⟨s.toArray⟩ ⟨p.toArray⟩ R t l w hR h
theorem ba_ne {a b : List UInt8} (h : a ≠ b) : ((⟨a.toArray⟩ : ByteArray).toList == b) = false := by
 rw [ByteArray.toList_eq, beq_eq_false_iff_ne]; simpa using h
theorem tab_cells {w : World} (hL : LaidE w) : ∀ j, j < shs.length → ∀ i v, (Sh.cells shs[j]!)[i]? = some v → w.cell? ⟨0, 0 + j * 5 + i, none⟩ = some v := by
 intro j hj i v hv
 have hi : i < 5 := by
  have := (List.getElem?_eq_some_iff.1 hv).1
  exact this
 have hs : shs[j]! = shp (j : Int) := by
  have := shp_get j hj
  rw [getElem!_pos shs j hj]
  rw [List.getElem?_eq_getElem hj] at this
  exact Option.some.inj this
 rw [Nat.zero_add, hL.cell j i hj hi, ← hs]; exact hv
def tl3 (k : Int) (nm : List UInt8) (num : Ra) (t : PS) : Option PS :=
 if 0 < (shp k).ops then (if Lib.hasPrefix t.1 [41] then some (t.1.drop 1, t.2.1 ++ [nd k num nm], t.2.2) else none) else some (t.1, t.2.1 ++ [nd k num nm], t.2.2)
set_option maxRecDepth 100000 in
set_option maxHeartbeats 3200000 in
theorem ex_badt (w0 : World) (hL : LaidE w0) (R : Nat) (hR0 : w0.heap.size ≤ R) (s : List UInt8) (ns : List Nd) (b : Nat) (v : Value) (w : World) (hw0 : Below w0.heap.size w0 w)
  (hR : Blk w R 84 [.string ⟨s.toArray⟩, v, .int .i64 (b : Int)]) (hown : w.ownsRow (R + 1) 33 5 v ns.length (nds ns)) (hs : s.length ≤ 1048576) (hb : b ≤ 59) (hns : ns.length ≤ 60) (hq : litA s = some none) (hy : spanW lettersL s ≠ yesL) (hn : spanW lettersL s ≠ noL) (hdot : Lib.hasPrefix (spanR lettersL s) [46] = true) (hp : placeOf ⟨(dotA s).1.toArray⟩ = -1) :
  Calls Tryz.prog 53 #[.pointer (some ⟨R, 0, none⟩)] w (ExPost none R v w) := by
 have hc := hR.cells
 have hf := hR.froz
 have hb1 : ((b : Int) + 1) ≤ 60 := by omega
 have HO1 : Hid (Onl R w (w.setCell ⟨R, 2, none⟩ (.int .i64 ((b : Int) + 1)))) := (Onl.refl R w).set 2 _
 have HR1 : Hid (Blk (w.setCell ⟨R, 2, none⟩ (.int .i64 ((b : Int) + 1))) R 84 [.string ⟨s.toArray⟩, v, .int .i64 ((b : Int) + 1)]) := hR.set 2 _
 have HU1 : Hid (Under R (w.setCell ⟨R, 2, none⟩ (.int .i64 ((b : Int) + 1)))) := (under_of hL hR0 hw0).onl HO1.out
 have HOWN := Lib.hid hown
 obtain ⟨W1, hW1⟩ : ∃ W1, W1 = w.setCell ⟨R, 2, none⟩ (.int .i64 ((b : Int) + 1)) := ⟨_, rfl⟩
 rw [← hW1] at HO1 HR1 HU1
 have HLA := Lib.hid (lit_any s R 84 [v, .int .i64 ((b : Int) + 1)] W1 HR1.out HU1.out hs)
 go_enter Tryz.func53, Tryz.ntmps53
 go_wp2_with fail
 simp only [← hW1]
 clear hW1 hc hf
 refine HLA.out.mono ?_
 rw [hq]
 rintro e w2 ⟨⟨rfl, hk2⟩, ho2⟩
 unfold nd Nd.v zR
 simp only
 obtain ⟨W2, hW2⟩ : ∃ W2, W2 = w2.alloc (.cells #[.int .i64 0, .bool false, .string ⟨#[]⟩, .string ⟨#[]⟩, .string ⟨#[]⟩] 33) := ⟨_, rfl⟩
 obtain ⟨N, hN⟩ : ∃ N, N = w2.heap.size := ⟨_, rfl⟩
 have hkR : Blk W2 R 84 [.string ⟨s.toArray⟩, v, .int .i64 ((b : Int) + 1)] := by rw [hW2]; exact hk2.alloc _
 have HO2 : Hid (Onl R w W2) := by show Onl _ _ _; rw [hW2]; exact (HO1.out.trans ho2).trans (Onl.of_below ((Below.refl _ _).alloc (Nat.le_refl _) _))
 have HSP := Lib.hid (spanL_at s lettersL R 84 [v, .int .i64 ((b : Int) + 1)] W2 hkR hs (by decide) (by decide))
 clear hk2 ho2 hkR HLA HR1 HO1
 obtain ⟨D, hD⟩ : ∃ D : ByteArray, D = ⟨(spanW lettersL s).toArray⟩ := ⟨_, rfl⟩
 rw [← hD] at HSP
 have hy1 : (D.toList == [121, 101, 115]) = false := by rw [hD]; exact ba_ne hy
 have hy2 : (D.toList == [110, 111]) = false := by rw [hD]; exact ba_ne hn
 have hDs : D.size ≤ 1048576 := by rw [hD]; have := spanW_len lettersL s; show (spanW lettersL s).length ≤ _; omega
 have HD := Lib.hid hD
 clear hD
 unfold lettersL at HSP
 go_wp2_with fail
 simp only [← hW2, ← hN]
 clear hW2 hN
 refine HSP.out.mono ?_
 rintro e w3 ⟨rfl, hk3, ho3⟩
 obtain ⟨W3, hW3⟩ : ∃ W3, W3 = w3.alloc (.cells #[.string D] 9) := ⟨_, rfl⟩
 obtain ⟨N4, hN4⟩ : ∃ N4, N4 = w3.heap.size := ⟨_, rfl⟩
 have hRN4 : R < N4 := by rw [hN4]; exact hk3.lt
 have HR3 : Hid (Blk W3 R 84 [.string ⟨(spanR lettersL s).toArray⟩, v, .int .i64 ((b : Int) + 1)]) := by show Blk _ _ _ _; rw [hW3]; exact hk3.alloc _
 have HW4 : Hid (Blk W3 N4 9 [.string D]) := by show Blk _ _ _ _; rw [hW3, hN4]; exact Blk.new w3 _ _
 have HO3 : Hid (Onl R w W3) := by show Onl _ _ _; rw [hW3]; exact (HO2.out.trans ho3).trans (Onl.of_below ((Below.refl _ _).alloc (Nat.le_refl _) _))
 have HWN : Hid (w.heap.size ≤ N4 ∧ N4 < W3.heap.size) := ⟨by rw [hN4]; exact (HO2.out.trans ho3).size, HW4.out.lt⟩
 clear hk3 ho3 HSP
 have hc4 := HW4.out.cells
 have hcr := HR3.out.cells
 rw [hW3] at hc4 hcr
 have HHP := Lib.hid (fun W => hasp_at (spanR lettersL s) [46] W)
 rw [hdot] at HHP
 have hy3 : (D.toList == (⟨#[121, 101, 115]⟩ : ByteArray).toList) = false := by rw [show (⟨#[121, 101, 115]⟩ : ByteArray).toList = [121, 101, 115] by rw [ByteArray.toList_eq]]; exact hy1
 have hy4 : (D.toList == (⟨#[110, 111]⟩ : ByteArray).toList) = false := by rw [show (⟨#[110, 111]⟩ : ByteArray).toList = [110, 111] by rw [ByteArray.toList_eq]]; exact hy2
 go_wp2_with fail
 simp only [← hW3, ← hN4]
 clear hW3 hN4 hc4 hcr
 refine (HHP.out _).mono ?_
 rintro e w4 ⟨rfl, rfl⟩
 have HWA := Lib.hid (wantL_yes (spanR lettersL s) [46] R 84 [v, .int .i64 ((b : Int) + 1)] _ HR3.out hdot)
 have e1 : (dotA s).1 = spanW lettersL s ++ [46] ∧ (dotA s).2 = (spanR lettersL s).drop 1 := by unfold dotA; rw [hdot]; exact ⟨rfl, rfl⟩
 have hQ : D ++ (⟨#[46]⟩ : ByteArray) = ⟨(dotA s).1.toArray⟩ := ba_eq (by rw [ba_app, HD.out, e1.1])
 have HE2 := Lib.hid e1.2
 have HQe := Lib.hid hQ
 have hsmD : ¬ (9223372036854775807 < D.size + 1) := by omega
 clear e1 hQ
 go_wp2_with fail
 refine HWA.out.mono ?_
 rintro e w5 ⟨rfl, hk5, ho5⟩
 have hk4 := ho5.blk HW4.out (by omega)
 have hc4 := hk4.cells
 have hf4 := hk4.froz
 obtain ⟨W6, hW6⟩ : ∃ W6, W6 = w5.setCell ⟨N4, 0, none⟩ (.string (D ++ (⟨#[46]⟩ : ByteArray))) := ⟨_, rfl⟩
 have HR6 : Hid (Blk W6 R 84 [.string ⟨(dotA s).2.toArray⟩, v, .int .i64 ((b : Int) + 1)]) := by
  show Blk _ _ _ _
  rw [hW6, HE2.out]; exact hk5.other (p := ⟨N4, 0, none⟩) (by show R ≠ N4; omega) _
 have HQ6 : Hid (Blk W6 N4 9 [.string ⟨(dotA s).1.toArray⟩]) := by
  show Blk _ _ _ _
  rw [hW6, ← HQe.out]; exact hk4.set 0 _
 have HO6 : Hid (Onl R w W6) := by
  show Onl _ _ _
  rw [hW6]; exact (HO3.out.trans ho5).fresh HWN.out.1 0 _
 have HN6 : Hid (w.heap.size ≤ N4 ∧ N4 < W6.heap.size) := ⟨HWN.out.1, HQ6.out.lt⟩
 clear hk5 ho5 hk4 HWA HR3 HW4 HO3 HWN hsmD
 have hL6 : LaidE W6 := hL.below (hw0.trans (HO6.out.below hR0 hw0.size))
 have HL6 := Lib.hid hL6
 have HIX := Lib.hid (placeOf_at ⟨(dotA s).1.toArray⟩ N4 9 0 0 25 W6 HQ6.out hL6.glob (tab_cells hL6))
 rw [hp] at HIX
 clear hL6
 have hsm9 : ¬ (9223372036854775807 < D.size + 1) := by omega
 go_wp2_with fail
 simp only [← hW6]
 clear hW6 hc4 hf4 hsm9
 refine HIX.out.mono ?_
 rintro e w7 ⟨rfl, hb7⟩
 have HB : Hid (Below R w w7) := (HO6.out.trans (Onl.of_below hb7)).below (Nat.le_refl _) (Nat.le_of_lt hR.lt)
 go_wp2
 exact ⟨rfl, rfl, HB.out⟩
set_option maxRecDepth 100000 in
set_option maxHeartbeats 3200000 in
theorem ex_badf (w0 : World) (hL : LaidE w0) (R : Nat) (hR0 : w0.heap.size ≤ R) (s : List UInt8) (ns : List Nd) (b : Nat) (v : Value) (w : World) (hw0 : Below w0.heap.size w0 w)
  (hR : Blk w R 84 [.string ⟨s.toArray⟩, v, .int .i64 (b : Int)]) (hown : w.ownsRow (R + 1) 33 5 v ns.length (nds ns)) (hs : s.length ≤ 1048576) (hb : b ≤ 59) (hns : ns.length ≤ 60) (hq : litA s = some none) (hy : spanW lettersL s ≠ yesL) (hn : spanW lettersL s ≠ noL) (hdot : Lib.hasPrefix (spanR lettersL s) [46] = false) (hp : placeOf ⟨(dotA s).1.toArray⟩ = -1) :
  Calls Tryz.prog 53 #[.pointer (some ⟨R, 0, none⟩)] w (ExPost none R v w) := by
 have hc := hR.cells
 have hf := hR.froz
 have hb1 : ((b : Int) + 1) ≤ 60 := by omega
 have HO1 : Hid (Onl R w (w.setCell ⟨R, 2, none⟩ (.int .i64 ((b : Int) + 1)))) := (Onl.refl R w).set 2 _
 have HR1 : Hid (Blk (w.setCell ⟨R, 2, none⟩ (.int .i64 ((b : Int) + 1))) R 84 [.string ⟨s.toArray⟩, v, .int .i64 ((b : Int) + 1)]) := hR.set 2 _
 have HU1 : Hid (Under R (w.setCell ⟨R, 2, none⟩ (.int .i64 ((b : Int) + 1)))) := (under_of hL hR0 hw0).onl HO1.out
 have HOWN := Lib.hid hown
 obtain ⟨W1, hW1⟩ : ∃ W1, W1 = w.setCell ⟨R, 2, none⟩ (.int .i64 ((b : Int) + 1)) := ⟨_, rfl⟩
 rw [← hW1] at HO1 HR1 HU1
 have HLA := Lib.hid (lit_any s R 84 [v, .int .i64 ((b : Int) + 1)] W1 HR1.out HU1.out hs)
 go_enter Tryz.func53, Tryz.ntmps53
 go_wp2_with fail
 simp only [← hW1]
 clear hW1 hc hf
 refine HLA.out.mono ?_
 rw [hq]
 rintro e w2 ⟨⟨rfl, hk2⟩, ho2⟩
 unfold nd Nd.v zR
 simp only
 obtain ⟨W2, hW2⟩ : ∃ W2, W2 = w2.alloc (.cells #[.int .i64 0, .bool false, .string ⟨#[]⟩, .string ⟨#[]⟩, .string ⟨#[]⟩] 33) := ⟨_, rfl⟩
 obtain ⟨N, hN⟩ : ∃ N, N = w2.heap.size := ⟨_, rfl⟩
 have hkR : Blk W2 R 84 [.string ⟨s.toArray⟩, v, .int .i64 ((b : Int) + 1)] := by rw [hW2]; exact hk2.alloc _
 have HO2 : Hid (Onl R w W2) := by show Onl _ _ _; rw [hW2]; exact (HO1.out.trans ho2).trans (Onl.of_below ((Below.refl _ _).alloc (Nat.le_refl _) _))
 have HSP := Lib.hid (spanL_at s lettersL R 84 [v, .int .i64 ((b : Int) + 1)] W2 hkR hs (by decide) (by decide))
 clear hk2 ho2 hkR HLA HR1 HO1
 obtain ⟨D, hD⟩ : ∃ D : ByteArray, D = ⟨(spanW lettersL s).toArray⟩ := ⟨_, rfl⟩
 rw [← hD] at HSP
 have hy1 : (D.toList == [121, 101, 115]) = false := by rw [hD]; exact ba_ne hy
 have hy2 : (D.toList == [110, 111]) = false := by rw [hD]; exact ba_ne hn
 have hDs : D.size ≤ 1048576 := by rw [hD]; have := spanW_len lettersL s; show (spanW lettersL s).length ≤ _; omega
 have HD := Lib.hid hD
 clear hD
 unfold lettersL at HSP
 go_wp2_with fail
 simp only [← hW2, ← hN]
 clear hW2 hN
 refine HSP.out.mono ?_
 rintro e w3 ⟨rfl, hk3, ho3⟩
 obtain ⟨W3, hW3⟩ : ∃ W3, W3 = w3.alloc (.cells #[.string D] 9) := ⟨_, rfl⟩
 obtain ⟨N4, hN4⟩ : ∃ N4, N4 = w3.heap.size := ⟨_, rfl⟩
 have hRN4 : R < N4 := by rw [hN4]; exact hk3.lt
 have HR3 : Hid (Blk W3 R 84 [.string ⟨(spanR lettersL s).toArray⟩, v, .int .i64 ((b : Int) + 1)]) := by show Blk _ _ _ _; rw [hW3]; exact hk3.alloc _
 have HW4 : Hid (Blk W3 N4 9 [.string D]) := by show Blk _ _ _ _; rw [hW3, hN4]; exact Blk.new w3 _ _
 have HO3 : Hid (Onl R w W3) := by show Onl _ _ _; rw [hW3]; exact (HO2.out.trans ho3).trans (Onl.of_below ((Below.refl _ _).alloc (Nat.le_refl _) _))
 have HWN : Hid (w.heap.size ≤ N4 ∧ N4 < W3.heap.size) := ⟨by rw [hN4]; exact (HO2.out.trans ho3).size, HW4.out.lt⟩
 clear hk3 ho3 HSP
 have hc4 := HW4.out.cells
 have hcr := HR3.out.cells
 rw [hW3] at hc4 hcr
 have HHP := Lib.hid (fun W => hasp_at (spanR lettersL s) [46] W)
 rw [hdot] at HHP
 have hy3 : (D.toList == (⟨#[121, 101, 115]⟩ : ByteArray).toList) = false := by rw [show (⟨#[121, 101, 115]⟩ : ByteArray).toList = [121, 101, 115] by rw [ByteArray.toList_eq]]; exact hy1
 have hy4 : (D.toList == (⟨#[110, 111]⟩ : ByteArray).toList) = false := by rw [show (⟨#[110, 111]⟩ : ByteArray).toList = [110, 111] by rw [ByteArray.toList_eq]]; exact hy2
 go_wp2_with fail
 simp only [← hW3, ← hN4]
 clear hW3 hN4 hc4 hcr
 refine (HHP.out _).mono ?_
 rintro e w4 ⟨rfl, rfl⟩
 have e1 : (dotA s).1 = spanW lettersL s ∧ (dotA s).2 = spanR lettersL s := by unfold dotA; rw [hdot]; exact ⟨rfl, rfl⟩
 obtain ⟨W6, hW6⟩ : ∃ W6, W6 = w4 := ⟨_, rfl⟩
 have HR6 : Hid (Blk W6 R 84 [.string ⟨(dotA s).2.toArray⟩, v, .int .i64 ((b : Int) + 1)]) := by show Blk _ _ _ _; rw [hW6, e1.2]; exact HR3.out
 have HQ6 : Hid (Blk W6 N4 9 [.string ⟨(dotA s).1.toArray⟩]) := by show Blk _ _ _ _; rw [hW6, e1.1, ← HD.out]; exact HW4.out
 have HO6 : Hid (Onl R w W6) := by show Onl _ _ _; rw [hW6]; exact HO3.out
 have HN6 : Hid (w.heap.size ≤ N4 ∧ N4 < W6.heap.size) := ⟨HWN.out.1, HQ6.out.lt⟩
 subst hW6
 clear HR3 HW4 HO3 HWN e1
 have hL6 : LaidE W6 := hL.below (hw0.trans (HO6.out.below hR0 hw0.size))
 have HL6 := Lib.hid hL6
 have HIX := Lib.hid (placeOf_at ⟨(dotA s).1.toArray⟩ N4 9 0 0 25 W6 HQ6.out hL6.glob (tab_cells hL6))
 rw [hp] at HIX
 clear hL6
 go_wp2_with fail
 refine HIX.out.mono ?_
 rintro e w7 ⟨rfl, hb7⟩
 have HB : Hid (Below R w w7) := (HO6.out.trans (Onl.of_below hb7)).below (Nat.le_refl _) (Nat.le_of_lt hR.lt)
 go_wp2
 exact ⟨rfl, rfl, HB.out⟩
end Go.Proofs.YtbicehdehiakgaaGreatDoor
