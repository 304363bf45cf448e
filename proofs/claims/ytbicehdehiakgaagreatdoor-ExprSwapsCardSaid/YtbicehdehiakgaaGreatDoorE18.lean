/- A part of the proof: E6 E7 S1 S2. -/
import Derived.Test.YtbicehdehiakgaaGreatDoorE15
import Derived.Test.YtbicehdehiakgaaGreatDoorE17
set_option linter.unusedVariables false
set_option linter.unusedSimpArgs false
namespace Go.Proofs.YtbicehdehiakgaaGreatDoor
open Go.RowKit
def Fine (n : Nd) : Prop := n.num.num.size ≤ 1048576 ∧ n.num.den.size ≤ 1048576
theorem wrong_any (n : Nd) (w : World) (hL : LaidE w) (hf : Fine n) : Calls Tryz.prog 48 #[n.v] w (RetW (wrongN n) w) := by
 obtain ⟨hn, hd⟩ := hf
 by_cases h : n.op < 1 ∨ 24 < n.op
 ·have e : wrongN n = 11 := by
   unfold wrongN
   rw [if_pos (by rcases h with h | h; exact .inl h; exact .inr (.inl h))]
  rw [e]
  exact wrong_out n w h
 ·obtain ⟨k, hk⟩ : ∃ k : Nat, n.op = k := ⟨n.op.toNat, by omega⟩
  have hk0 : 1 ≤ k := by omega
  have hk1 : k ≤ 24 := by omega
  have HO := fun w hL => of_yes k w hL hk0 hk1
  obtain ⟨f1, f2, f3⟩ := shp_facts k hk1
  have hW : wrongN n = if ((shp (k : Int)).nam = false ∧ n.name ≠ ⟨#[]⟩) ∨ numOk n = false then 11 else if (shp (k : Int)).nam && !nameB n.name.data.toList then 12 else 0 := by
   unfold wrongN
   rw [hk]
   have a1 : ¬ ((k : Int) < 1) := by omega
   have a2 : ¬ (24 < (k : Int)) := by omega
   simp only [a1, a2, false_or]
  have hU : numOk n = if (k : Int) = 4 then decide (n.num = ofI 0) || decide (n.num = ofI 1) else if (shp (k : Int)).lit then fitsR n.num else if (shp (k : Int)).stp then fitsR n.num && decide (0 < signR n.num) else decide (n.num = zR) := by
   unfold numOk; rw [hk]
  have HF := fun W => mFits_any n.num W (by omega) (by omega)
  have HS := fun W => qSign_any n.num W (by omega) (by omega)
  have HI := fun W => isName_any n.name W
  have HQ0 := fun W => eql_ra n.num (ofI 0) W
  have HQ1 := fun W => eql_ra n.num (ofI 1) W
  have HQZ := fun W => eql_ra n.num zR W
  obtain ⟨op, num, nm⟩ := n
  simp only at hk
  subst hk
  have hem : (nm.toList.isEmpty = true) ↔ nm = ⟨#[]⟩ := by
   have e0 : (⟨#[]⟩ : ByteArray).toList = [] := by rw [ByteArray.toList_eq]
   rw [List.isEmpty_iff]
   exact ⟨fun h => toList_inj (by rw [h, e0]), fun h => by rw [h, e0]⟩
  generalize shp (k : Int) = s at *
  obtain ⟨wd, ops, lit, nam, stp⟩ := s
  obtain ⟨neg, nu, de⟩ := num
  simp only at *
  simp only [Sh.v] at HO
  simp only [Ra.v] at HF HS HQ0 HQ1 HQZ
  show Calls _ _ #[.agg #[.int .i64 (k : Int), .bool neg, .string nu, .string de, .string nm]] _ _
  by_cases hno : nam = false ∧ nm ≠ ⟨#[]⟩
  ·obtain ⟨rfl, hne⟩ := hno
   refine wrong_noname k ops wd lit stp neg nu de nm w _ hL HO ?_ ?_
   ·cases he : nm.toList.isEmpty
    ·rfl
    ·exact absurd (hem.1 he) hne
   ·rw [hW, if_pos (.inl ⟨rfl, hne⟩)]
  ·have hnm : nam = true ∨ nm.toList.isEmpty = true := by
    cases nam
    ·refine .inr (hem.2 (Classical.byContradiction fun hc => hno ⟨rfl, hc⟩))
    ·exact .inl rfl
   have hW2 : wrongN ⟨(k : Int), ⟨neg, nu, de⟩, nm⟩ = if numOk ⟨(k : Int), ⟨neg, nu, de⟩, nm⟩ then (if nam && !nameB nm.data.toList then 12 else 0) else 11 := by
    rw [hW]
    cases numOk ⟨(k : Int), ⟨neg, nu, de⟩, nm⟩
    ·rw [if_pos (.inr rfl)]; rfl
    ·rw [if_neg (by rintro (h | h); exact hno h; cases h)]; rfl
   by_cases h4 : k = 4
   ·have hl : lit = true := f1.2 (by omega)
    have hs : stp = false := by
     cases stp
     ·rfl
     ·have := f2.1 rfl; omega
    have hn : nam = false := by
     cases nam
     ·rfl
     ·have := f3.1 rfl; omega
    subst hl hs hn
    refine wrong_tru k ops wd neg nu de nm w _ hL HO (by rw [beq_iff_eq]; omega) (by simpa using hnm) _ _ HQ0 HQ1 ?_
    have h4' : (k : Int) = 4 := by omega
    rw [hW2, hU, if_pos h4']
    simp only [Bool.false_and, Bool.false_eq_true, if_false]
   ·have h4' : ((k : Int) == 4) = false := by rw [beq_eq_false_iff_ne]; omega
    have h4'' : ¬ ((k : Int) = 4) := by omega
    cases lit
    ·cases stp
     ·refine wrong_def k ops wd neg nu de nm w _ hL nam HO h4' hnm _ _ HQZ HI ?_
      rw [hW2, hU, if_neg h4'']
      simp
     ·have hn : nam = false := by
       cases nam
       ·rfl
       ·have := f3.1 rfl; have := f2.1 rfl; omega
      subst hn
      refine wrong_stp k ops wd neg nu de nm w _ hL HO h4' (by simpa using hnm) _ _ HF HS ?_
      rw [hW2, hU, if_neg h4'']
      simp
    ·have hs : stp = false := by
      cases stp
      ·rfl
      ·have := f2.1 rfl; have := f1.1 rfl; omega
     have hn : nam = false := by
      cases nam
      ·rfl
      ·have := f3.1 rfl; have := f1.1 rfl; omega
     subst hs hn
     refine wrong_lit k ops wd neg nu de nm w _ hL HO h4' (by simpa using hnm) _ HF ?_
     rw [hW2, hU, if_neg h4'']
     simp
def nds (es : List Nd) : List Value := es.flatMap Nd.cells
def NdAt (w : World) (b o : Nat) (n : Nd) : Prop :=
 w.cell? ⟨b, o, none⟩ = some (.int .i64 n.op) ∧ w.cell? ⟨b, o + 1, none⟩ = some (.bool n.num.neg) ∧ w.cell? ⟨b, o + 2, none⟩ = some (.string n.num.num) ∧ w.cell? ⟨b, o + 3, none⟩ = some (.string n.num.den) ∧ w.cell? ⟨b, o + 4, none⟩ = some (.string n.name)
theorem nds_length (es : List Nd) : (nds es).length = es.length * 5 := by
 induction es with
 | nil => rfl
 | cons n es ih => show (n.cells ++ nds es).length = _; rw [List.length_append, ih, List.length_cons]; show 5 + _ = _; omega
theorem nds_get (es : List Nd) (k i : Nat) (hk : k < es.length) (hi : i < 5) : (nds es)[k * 5 + i]? = es[k].cells[i]? := by
 have h := flatMap_get Nd.cells 5 (fun _ => rfl) es k i hi
 rw [List.getElem?_eq_getElem hk] at h
 exact h
theorem Rd.nd {w : World} {A : Option Addr} {es : List Nd} (h : Rd w A (nds es)) {k : Nat} (hk : k < es.length) :
  ∃ b off, A = some ⟨b, off, none⟩ ∧ b < w.heap.size ∧ NdAt w b (off + k * 5) es[k] := by
 obtain ⟨b, off, e, hb, hc⟩ := h.at_ (k := k * 5) (by rw [nds_length]; omega)
 have key : ∀ i (hi : i < 5), w.cell? ⟨b, off + (k * 5 + i), none⟩ = (es[k].cells)[i]? := fun i hi => by
  have hl : k * 5 + i < (nds es).length := by rw [nds_length]; omega
  rw [hc _ hl, ← nds_get es k i hk hi, List.getElem?_eq_getElem hl]
 exact ⟨b, off, e, hb, key 0 (by omega), key 1 (by omega), key 2 (by omega), key 3 (by omega), key 4 (by omega)⟩
end Go.Proofs.YtbicehdehiakgaaGreatDoor
namespace Go.Proofs.YtbicehdehiakgaaGreatDoor
open Go.RowKit
theorem wrongN_op {n : Nd} (h : wrongN n = 0) : 1 ≤ n.op ∧ n.op ≤ 24 := by
 unfold wrongN at h
 split at h
 ·cases h
 ·next hc =>
  exact ⟨Classical.byContradiction fun hh => hc (.inl (by omega)), Classical.byContradiction fun hh => hc (.inr (.inl (by omega)))⟩
theorem wrongN_vals (n : Nd) : wrongN n = 0 ∨ wrongN n = 11 ∨ wrongN n = 12 := by
 unfold wrongN
 split
 ·exact .inr (.inl rfl)
 ·split
  ·exact .inr (.inr rfl)
  ·exact .inl rfl
theorem shp_ops_le (n : Int) : (shp n).ops ≤ 3 := by
 have h : ∀ s ∈ shs, s.ops ≤ 3 := by decide
 unfold shp
 rw [List.getD_eq_getElem?_getD]
 cases hg : shs[n.toNat]? with
 | none => show 0 ≤ 3; omega
 | some s => exact h s (List.mem_of_getElem? hg)
set_option maxRecDepth 100000 in
set_option maxHeartbeats 1600000 in
theorem check_any (es : List Nd) (A : Option Addr) (len cap : Nat) (w : World) (hL : LaidE w) (hlen : len = es.length) (hcap : len ≤ cap) (hm : cap ≤ maxLen) (hr : Rd w A (nds es)) (hf : ∀ n ∈ es, Fine n) :
  Calls Tryz.prog 18 #[.slice A len cap] w fun e w' => e = .returned (.int .i64 (checkE es)) ∧ Below w.heap.size w w' := by
 unfold maxLen at hm
 by_cases h60 : 60 < len
 ·have HV : Hid (checkE es = 2) := by show _ = _; unfold checkE; rw [if_pos (by omega)]
  have h60' : (60 : Int) < len := by omega
  clear hlen hL hr hf
  go_enter Tryz.func18, Tryz.ntmps18
  go_wp2
  go_ret
  exact ⟨by rw [HV.out]; rfl, Below.refl _ _⟩
 ·have HV : Hid (checkE es = chk es 0) := by show _ = _; unfold checkE; rw [if_neg (by omega)]
  have h60' : ¬ (60 : Int) < len := by omega
  have HL := Lib.hid hL; have HR := Lib.hid hr; have HF := Lib.hid hf; have HLEN := Lib.hid hlen
  have hle : len ≤ 60 := by omega
  clear hlen hL hr hf h60
  go_enter Tryz.func18, Tryz.ntmps18
  go_wp2
  go_loopg [3, 12] len (fun g dv iv wr => ∃ k d : Nat, k + g = len ∧ d ≤ k ∧ dv = .int .i64 d ∧ iv = .int .i64 k ∧ Hid (chk es 0 = chk (es.drop k) d) ∧ Below w.heap.size w wr)
  case atStart => exact ⟨0, 0, by omega, by omega, rfl, rfl, rfl, Below.refl _ _⟩
  case round =>
   obtain ⟨k, d, hk, hd, rfl, rfl, hch, hbw⟩ := hrel
   by_cases hlt : k < len
   ·have hke : k < es.length := by rw [← HLEN.out]; exact hlt
    obtain ⟨b, off, rfl, hb, hc0, hc1, hc2, hc3, hc4⟩ := (HR.out.below hbw).nd hke
    have hfin := HF.out _ (List.getElem_mem hke)
    have HD : Hid (chk (es.drop k) d = chk (es[k] :: es.drop (k + 1)) d) := by show _ = _; rw [List.drop_eq_getElem_cons hke]
    have HWR := Lib.hid (fun w hL => wrong_any es[k] w hL hfin)
    generalize es[k] = n at *
    obtain ⟨op, ⟨neg, num, den⟩, nm⟩ := n
    simp only at hc0 hc1 hc2 hc3 hc4
    have hll := HL.out.below hbw
    have hla := hll.alloc (.cells #[.int .i64 op, .bool neg, .string num, .string den, .string nm] 33)
    have HLA := Lib.hid hla
    have hba : Below w.heap.size w (wr.alloc (.cells #[.int .i64 op, .bool neg, .string num, .string den, .string nm] 33)) := hbw.alloc hbw.size _
    have hka := Blk.new wr 33 #[.int .i64 op, .bool neg, .string num, .string den, .string nm]
    have hv := wrongN_vals ⟨op, ⟨neg, num, den⟩, nm⟩
    have hop : wrongN ⟨op, ⟨neg, num, den⟩, nm⟩ = 0 → 1 ≤ op ∧ op ≤ 24 := wrongN_op
    have HCH : Hid (∀ z, wrongN ⟨op, ⟨neg, num, den⟩, nm⟩ = z → chk es 0 = if z ≠ 0 then z else if d < (shp op).ops then 11 else chk (es.drop (k + 1)) (d - (shp op).ops + 1)) := by
     rintro z rfl
     rw [hch.out, HD.out, chk]
    clear hla hll hfin
    obtain ⟨z, hz⟩ : ∃ z, wrongN ⟨op, ⟨neg, num, den⟩, nm⟩ = z := ⟨_, rfl⟩
    have HCH := Lib.hid (HCH.out z hz)
    rw [hz] at HWR hv hop
    clear hz HD hch
    by_cases hz0 : z = 0
    ·subst hz0
     obtain ⟨o1, o2⟩ := hop rfl
     obtain ⟨p, rfl⟩ : ∃ p : Nat, op = p := ⟨op.toNat, by omega⟩
     have hol := shp_ops_le (p : Int)
     clear hv
     go_wp2_with fail
     refine (HWR.out _ HLA.out).mono ?_
     rintro e w2 ⟨rfl, hb2⟩
     have hk2 := hka.below hb2 hka.lt
     have hcB := hk2.cells
     have ht := (HLA.out.below hb2).cell p 1 (by omega) (by omega)
     have HC : Hid (chk es 0 = if d < (shp (p : Int)).ops then 11 else chk (es.drop (k + 1)) (d - (shp (p : Int)).ops + 1)) := by
      have := HCH.out
      rwa [if_neg (by simp)] at this
     simp only [Sh.cells, List.getElem?_cons_succ, List.getElem?_cons_zero] at ht
     generalize shp (p : Int) = s at *
     obtain ⟨wd, o, l1, l2, l3⟩ := s
     simp only at ht hol HC
     have HB := Lib.hid (bstep hba hb2)
     clear HCH hk2 hka hb2 hba HWR
     by_cases hdo : d < o
     ·have e1 : (d : Int) - o < 0 := by omega
      go_wp2
      go_ret
      exact ⟨by rw [HV.out, HC.out, if_pos hdo]; rfl, HB.out⟩
     ·have e1 : 0 ≤ (d : Int) - o := by omega
      go_wp2
      go_roundg (len - (k + 1))
      case measure => omega
      case rel =>
       refine ⟨k + 1, d - o + 1, by omega, by omega, by go_num, by go_num, ?_, HB.out⟩
       show _ = _
       rw [HC.out, if_neg hdo]
    ·have e1 : (z == 0) = false := by simp [hz0]
     have e2 : (z != 0) = true := by simp [hz0]
     go_wp2_with fail
     refine (HWR.out _ HLA.out).mono ?_
     rintro e w2 ⟨rfl, hb2⟩
     go_wp2
     go_ret
     exact ⟨by rw [HV.out, HCH.out, if_pos hz0]; rfl, bstep hba hb2⟩
   ·have hkl : k = len := by omega
    have hg0 : gk = 0 := by omega
    have HD : Hid (es.drop k = []) := by show _ = _; rw [hkl, HLEN.out, List.drop_length]
    by_cases h1 : d = 1
    ·have e1 : ((d : Int) != 1) = false := by rw [h1]; rfl
     go_wp2
     go_ret
     refine ⟨?_, hbw⟩
     rw [HV.out, hch.out, HD.out, h1]; rfl
    ·have e1 : ((d : Int) != 1) = true := by rw [bne_iff_ne]; omega
     go_wp2
     go_ret
     refine ⟨?_, hbw⟩
     rw [HV.out, hch.out, HD.out, chk, if_neg h1]; rfl
end Go.Proofs.YtbicehdehiakgaaGreatDoor
namespace Go.Proofs.YtbicehdehiakgaaGreatDoor
open Go.RowKit
theorem sQuo_nb (n m K : Nat) (w : World) (hK : K ≤ 1073741824) (hn : n < 256 ^ K) (hm : m < 256 ^ K) (h0 : 0 < m) :
  Calls Tryz.prog 106 #[.string (nbs n), .string (nbs m)] w fun e w' =>
   e = .returned (.tuple #[.string (nbs (n / m)), .string (nbs (n % m)), .bool true]) ∧ Below w.heap.size w w' := by
 refine (rQuo_any (nbs n) (nbs m) w (Nat.le_trans (nbs_size_le _ _ hn) hK) (Nat.le_trans (nbs_size_le _ _ hm) hK)).mono ?_
 rintro e w' ⟨rfl, hb⟩
 rw [vbs_nbs, vbs_nbs]
 have p0 : ¬ (m = 0) := by omega
 rw [if_neg p0, if_neg p0, show (m != 0) = true from by simp [p0]]
 exact ⟨rfl, hb⟩
theorem sGcd_nb (n m K : Nat) (w : World) (hK : K ≤ 1073741824) (hn : n < 256 ^ K) (hm : m < 256 ^ K) :
  Calls Tryz.prog 105 #[.string (nbs n), .string (nbs m)] w fun e w' => e = .returned (.string (nbs (Nat.gcd n m))) ∧ Below w.heap.size w w' := by
 have := rGcd_any (nbs n) (nbs m) w (Nat.le_trans (nbs_size_le _ _ hn) hK) (Nat.le_trans (nbs_size_le _ _ hm) hK)
 rwa [vbs_nbs, vbs_nbs] at this
theorem rOf_one (w : World) : Calls Tryz.prog 65 #[.int .i64 1] w fun e w' => e = .returned (.string (nbs 1)) ∧ Below w.heap.size w w' := rOf_any 1 w (by omega) (by omega)
theorem nbs_emp (n : Nat) (b : Bool) (h : decide (n = 0) = b) : (nbs n).toList.isEmpty = b := by rw [nbs_isEmpty, h]
set_option maxHeartbeats 800000 in
theorem slowest_any (neg : Bool) (n d K : Nat) (w : World) (hK : K ≤ 1073741824) (hn : n < 256 ^ K) (hd : d < 256 ^ K) (h0 : 0 < d) :
  Calls Tryz.prog 67 #[.bool neg, .string (nbs n), .string (nbs d)] w fun e w' => e = .returned (low neg n d).v ∧ Below w.heap.size w w' := by
 have hg : 0 < Nat.gcd n d := Nat.gcd_pos_of_pos_right _ h0
 have hgd : Nat.gcd n d ≤ d := Nat.gcd_le_right _ h0
 have HG := Lib.hid (fun w => sGcd_nb n d K w hK hn hd)
 have HQ1 := Lib.hid (fun w => sQuo_nb n (Nat.gcd n d) K w hK hn (by omega) hg)
 have HQ2 := Lib.hid (fun w => sQuo_nb d (Nat.gcd n d) K w hK hd (by omega) hg)
 have HLOW : Hid (low neg n d = ⟨neg && decide (n ≠ 0), nbs (n / Nat.gcd n d), nbs (d / Nat.gcd n d)⟩) := rfl
 have HZ : Hid (n = 0 → low neg n d = ⟨false, nbs 0, nbs 1⟩) := by
  intro h; subst h
  rw [HLOW.out]; simp [Nat.div_self h0]
 obtain ⟨B, hB⟩ : ∃ B, B = w.heap.size := ⟨_, rfl⟩
 obtain ⟨W, hW⟩ : ∃ W, W = w.alloc (.cells #[.bool false, .string ⟨#[]⟩, .string ⟨#[]⟩] 31) := ⟨_, rfl⟩
 have hba : Below w.heap.size w W := by rw [hW]; exact (Below.refl _ _).alloc (Nat.le_refl _) _
 have hblk : Blk W w.heap.size 31 [.bool false, .string ⟨#[]⟩, .string ⟨#[]⟩] := by rw [hW]; exact Blk.new w _ _
 rw [← hB] at hblk hba
 have HB := Lib.hid hB
 obtain ⟨r, hr⟩ : ∃ r, low neg n d = r := ⟨_, rfl⟩
 rw [hr] at HLOW HZ ⊢
 clear hr hg hgd hn hd
 by_cases hz : n = 0
 ·have HZ := Lib.hid (HZ.out hz)
  have he := nbs_emp n true (by simp [hz])
  clear hz
  go_enter Tryz.func67, Tryz.ntmps67
  go_wp2_with fail
  simp only [← hW, ← hB]
  clear hW hB
  refine (rOf_one _).mono ?_
  rintro e w1 ⟨rfl, hb1⟩
  have hk := hblk.below hb1 hblk.lt
  have hc := hk.cells
  have hf := hk.froz
  have HBW := Lib.hid (hba.trans (hb1.mono (Nat.le_of_lt hblk.lt)))
  clear hb1 hba hk
  go_wp2
  refine bodyPost_ret (v := .agg #[.bool false, .string ⟨#[]⟩, .string (nbs 1)]) (by simp [results, Tryz.results67, go_sem, hc]) rfl ⟨?_, ?_⟩
  ·rw [HZ.out]; rfl
  ·rw [← HB.out]; exact below_set3 HBW.out _ _ _
 ·have he := nbs_emp n false (by simp [hz])
  go_enter Tryz.func67, Tryz.ntmps67
  go_wp2_with fail
  simp only [← hW, ← hB]
  clear hW hB
  refine (HG.out _).mono ?_
  rintro e w1 ⟨rfl, hb1⟩
  go_wp2_with fail
  refine (HQ1.out _).mono ?_
  rintro e w2 ⟨rfl, hb2⟩
  go_wp2_with fail
  refine (HQ2.out _).mono ?_
  rintro e w3 ⟨rfl, hb3⟩
  have hb := bstep (bstep hb1 hb2) hb3
  have hk := hblk.below hb hblk.lt
  have hc := hk.cells
  have hf := hk.froz
  have HBW := Lib.hid (hba.trans (hb.mono (Nat.le_of_lt hblk.lt)))
  clear hb1 hb2 hb3 hb hba hk
  go_wp2
  refine bodyPost_ret (v := .agg #[.bool neg, .string (nbs (n / Nat.gcd n d)), .string (nbs (d / Nat.gcd n d))]) (by simp [results, Tryz.results67, go_sem, hc]) rfl ⟨?_, ?_⟩
  ·rw [HLOW.out]; simp [Ra.v, hz]
  ·rw [← HB.out]; exact below_set3 HBW.out _ _ _
theorem okR_ref (a : Ra) : okR a = (rightS a.num && rightS a.den && !a.den.toList.isEmpty && (if a.num.toList.isEmpty then !a.neg && decide (cmpI (vbs a.den) (vbs (nbs 1)) = 0) else decide (cmpI (vbs (nbs (Nat.gcd (vbs a.num) (vbs a.den)))) (vbs (nbs 1)) = 0))) := by
 obtain ⟨neg, num, den⟩ := a
 unfold okR
 simp only
 cases hn : rightS num
 ·simp
 cases hd : rightS den
 ·simp
 have en := (rightS_iff num).1 hn
 have ed := (rightS_iff den).1 hd
 rw [vbs_nbs, vbs_nbs]
 generalize vbs num = n at *
 generalize vbs den = d at *
 subst en ed
 have hcz : ∀ x : Nat, (cmpI x 1 = 0) ↔ x = 1 := by
  intro x; unfold cmpI
  split
  ·omega
  ·split <;> omega
 rw [nbs_isEmpty, nbs_isEmpty]
 simp only [hcz, Bool.true_and, Bool.and_true]
 rcases Nat.eq_zero_or_pos d with h0 | h0
 ·subst h0; simp
 ·have hd0 : ¬ d = 0 := by omega
  simp only [h0, hd0, decide_true, decide_false, Bool.not_false, Bool.true_and]
  have hg : 0 < Nat.gcd n d := Nat.gcd_pos_of_pos_right _ h0
  by_cases hz : n = 0
  ·subst hz
   simp only [decide_true, if_true]
   have : low neg 0 d = ⟨false, nbs 0, nbs 1⟩ := by unfold low; simp [Nat.div_self h0]
   rw [this, Bool.eq_iff_iff, decide_eq_true_eq, Bool.and_eq_true, decide_eq_true_eq]
   constructor
   ·intro h; injection h with h1 h2 h3
    exact ⟨by rw [← h1]; rfl, (nbs_inj h3).symm⟩
   ·rintro ⟨h1, h2⟩
    cases neg
    ·rw [h2]
    ·cases h1
  ·simp only [hz, decide_false, Bool.false_eq_true, if_false]
   rw [decide_eq_decide]
   unfold low
   constructor
   ·intro h; injection h with h1 h2 h3
    have h4 := nbs_inj h2
    have h5 : n / Nat.gcd n d * Nat.gcd n d = n := Nat.div_mul_cancel (Nat.gcd_dvd_left n d)
    rw [h4] at h5
    have h6 : n * Nat.gcd n d = n * 1 := by rw [h5, Nat.mul_one]
    exact Nat.eq_of_mul_eq_mul_left (by omega) h6
   ·intro h
    rw [h, Nat.div_one, Nat.div_one]
    simp [hz]
set_option maxRecDepth 100000 in
set_option maxHeartbeats 1600000 in
theorem sRight_any (a : Ra) (w : World) (hn : a.num.size ≤ 536870912) (hd : a.den.size ≤ 536870912) :
  Calls Tryz.prog 108 #[a.v] w fun e w' => e = .returned (.bool (okR a)) ∧ Below w.heap.size w w' := by
 have HOK := Lib.hid (okR_ref a)
 have HN := Lib.hid (fun w => rRight_any a.num w)
 have HD := Lib.hid (fun w => rRight_any a.den w)
 have HG := Lib.hid (fun w => rGcd_any a.num a.den w (by omega) (by omega))
 have hgs : (nbs (Nat.gcd (vbs a.num) (vbs a.den))).size ≤ 536870912 := by
  rcases Nat.eq_zero_or_pos (vbs a.den) with h0 | h0
  ·rw [h0, Nat.gcd_zero_right]; exact Nat.le_trans (nbs_size_le _ _ (vbs_lt a.num)) hn
  ·exact Nat.le_trans (nbs_size_le _ a.den.size (Nat.lt_of_le_of_lt (Nat.gcd_le_right _ h0) (vbs_lt a.den))) hd
 have HC1 := Lib.hid (fun w => rCmp_any a.den (nbs 1) w (by omega) (by decide))
 have HC2 := Lib.hid (fun w => rCmp_any (nbs (Nat.gcd (vbs a.num) (vbs a.den))) (nbs 1) w (by omega) (by decide))
 obtain ⟨z1, h1⟩ : ∃ z, cmpI (vbs a.den) (vbs (nbs 1)) = z := ⟨_, rfl⟩
 obtain ⟨z2, h2⟩ : ∃ z, cmpI (vbs (nbs (Nat.gcd (vbs a.num) (vbs a.den)))) (vbs (nbs 1)) = z := ⟨_, rfl⟩
 rw [h1] at HOK HC1
 rw [h2] at HOK HC2
 clear h1 h2 hgs hn hd
 generalize nbs (Nat.gcd (vbs a.num) (vbs a.den)) = gg at *
 obtain ⟨ok, hok⟩ : ∃ o, okR a = o := ⟨_, rfl⟩
 rw [hok] at HOK ⊢
 clear hok
 obtain ⟨neg, num, den⟩ := a
 unfold Ra.v
 simp only at HOK HN HD HG HC1 HC2 ⊢
 obtain ⟨rn, hrn⟩ : ∃ r, rightS num = r := ⟨_, rfl⟩
 obtain ⟨rd, hrd⟩ : ∃ r, rightS den = r := ⟨_, rfl⟩
 obtain ⟨en, hen⟩ : ∃ r, num.toList.isEmpty = r := ⟨_, rfl⟩
 obtain ⟨ed, hed⟩ : ∃ r, den.toList.isEmpty = r := ⟨_, rfl⟩
 rw [hrn, hrd, hen, hed] at HOK
 rw [hrn] at HN
 rw [hrd] at HD
 clear hrn hrd
 obtain ⟨W, hW⟩ : ∃ W, W = w.alloc (.cells #[.bool neg, .string num, .string den] 31) := ⟨_, rfl⟩
 have hba : Below w.heap.size w W := by rw [hW]; exact (Below.refl _ _).alloc (Nat.le_refl _) _
 have hblk : Blk W w.heap.size 31 [.bool neg, .string num, .string den] := by rw [hW]; exact Blk.new w _ _
 obtain ⟨B, hB⟩ : ∃ B, B = w.heap.size := ⟨_, rfl⟩
 have HB := Lib.hid hB
 rw [← hB] at hblk hba
 have hc := hblk.cells
 cases rn
 ·go_enter Tryz.func108, Tryz.ntmps108
  go_wp2_with fail
  simp only [← hW, ← hB]
  clear hW hB
  refine (HN.out _).mono ?_
  rintro e w1 ⟨rfl, rfl⟩
  go_wp2_with fail
  refine (HD.out _).mono ?_
  rintro e w1 ⟨rfl, rfl⟩
  go_wp2
  go_ret
  exact ⟨by rw [HOK.out]; rfl, by rw [← HB.out]; exact hba⟩
 cases rd
 ·go_enter Tryz.func108, Tryz.ntmps108
  go_wp2_with fail
  simp only [← hW, ← hB]
  clear hW hB
  refine (HN.out _).mono ?_
  rintro e w1 ⟨rfl, rfl⟩
  go_wp2_with fail
  refine (HD.out _).mono ?_
  rintro e w1 ⟨rfl, rfl⟩
  go_wp2
  go_ret
  exact ⟨by rw [HOK.out]; rfl, by rw [← HB.out]; exact hba⟩
 cases ed
 case true =>
  go_enter Tryz.func108, Tryz.ntmps108
  go_wp2_with fail
  simp only [← hW, ← hB]
  clear hW hB
  refine (HN.out _).mono ?_
  rintro e w1 ⟨rfl, rfl⟩
  go_wp2_with fail
  refine (HD.out _).mono ?_
  rintro e w1 ⟨rfl, rfl⟩
  go_wp2
  go_ret
  exact ⟨by rw [HOK.out]; rfl, by rw [← HB.out]; exact hba⟩
 cases en
 ·go_enter Tryz.func108, Tryz.ntmps108
  go_wp2_with fail
  simp only [← hW, ← hB]
  clear hW hB
  refine (HN.out _).mono ?_
  rintro e w1 ⟨rfl, rfl⟩
  go_wp2_with fail
  refine (HD.out _).mono ?_
  rintro e w1 ⟨rfl, rfl⟩
  go_wp2_with fail
  refine (HG.out _).mono ?_
  rintro e w1 ⟨rfl, hb1⟩
  go_wp2_with fail
  refine (rOf_one _).mono ?_
  rintro e w2 ⟨rfl, hb2⟩
  go_wp2_with fail
  refine (HC2.out _).mono ?_
  rintro e w3 ⟨rfl, rfl⟩
  go_wp2
  go_ret
  refine ⟨?_, by rw [← HB.out]; exact hba.trans ((bstep hb1 hb2).mono (Nat.le_of_lt hblk.lt))⟩
  rw [HOK.out]; first | rfl | (simp; done) | (simp; rfl)
 cases neg
 ·go_enter Tryz.func108, Tryz.ntmps108
  go_wp2_with fail
  simp only [← hW, ← hB]
  clear hW hB
  refine (HN.out _).mono ?_
  rintro e w1 ⟨rfl, rfl⟩
  go_wp2_with fail
  refine (HD.out _).mono ?_
  rintro e w1 ⟨rfl, rfl⟩
  go_wp2_with fail
  have HK : Hid (∀ w' w1 : World, ((∀ i, w'.cell? ⟨B, i, none⟩ = ([.bool false, .string num, .string den] : List Value)[i]?) ∧ B < w'.heap.size ∧ Below B w w') → Below w'.heap.size w' w1 →
    ((∀ i, w1.cell? ⟨B, i, none⟩ = ([.bool false, .string num, .string den] : List Value)[i]?) ∧ B < w1.heap.size ∧ Below B w w1)) := by
   rintro w' w1 ⟨h0, h2, h3⟩ hb1
   exact ⟨fun i => (hb1.cell h2).trans (h0 i), Nat.lt_of_lt_of_le h2 hb1.size, h3.trans (hb1.mono (Nat.le_of_lt h2))⟩
  have HS : Hid ((∀ i, W.drew.cell? ⟨B, i, none⟩ = ([.bool false, .string num, .string den] : List Value)[i]?) ∧ B < W.drew.heap.size ∧ Below B w W.drew) :=
   ⟨hblk.cells, hblk.lt, below_drewN hba 1⟩
  clear hblk hba hc
  refine wp_region_noPanic ?_
  refine wp_region_held_drew (S := fun w' => (∀ i, w'.cell? ⟨B, i, none⟩ = ([.bool false, .string num, .string den] : List Value)[i]?) ∧ B < w'.heap.size ∧ Below B w w') (by kernel_rfl) HS.out (fun hHeld => ?_)
  refine wpAnyH_take (i := 0) (v := ?_) rfl (by kernel_rfl) (by kernel_rfl) (by kernel_rfl) (fun _ _ _ h => h) (Or.inl ⟨by kernel_rfl, ?_⟩) (by assumption) ?_
  rotate_left
  ·intro w hSw; (try dsimp only at hSw); go_simp
   all_goals with_reducible rfl
  try simp only [Act.put, List.setIfInBounds_toArray, List.set_cons_zero, List.set_cons_succ, List.getElem_toArray, List.getElem_cons_succ, List.getElem_cons_zero]
  refine wpAnyH_take (i := 1) (v := ?_) rfl (by kernel_rfl) (by kernel_rfl) (by kernel_rfl) (fun _ _ _ h => h) (Or.inl ⟨by kernel_rfl, ?_⟩) (by assumption) ?_
  rotate_left
  ·intro w hSw; (try dsimp only at hSw); go_simp
   all_goals with_reducible rfl
  try simp only [Act.put, List.setIfInBounds_toArray, List.set_cons_zero, List.set_cons_succ, List.getElem_toArray, List.getElem_cons_succ, List.getElem_cons_zero]
  refine wpAnyH_take (i := 2) (v := ?_) rfl (by kernel_rfl) (by kernel_rfl) (by kernel_rfl) (fun _ _ _ h => h) (Or.inl ⟨by kernel_rfl, ?_⟩) (by assumption) ?_
  rotate_left
  ·intro w hSw; (try dsimp only at hSw); go_simp
   all_goals with_reducible rfl
  try simp only [Act.put, List.setIfInBounds_toArray, List.set_cons_zero, List.set_cons_succ, List.getElem_toArray, List.getElem_cons_succ, List.getElem_cons_zero]
  refine wpAnyH_take (i := 3) (v := ?_) rfl (by kernel_rfl) (by kernel_rfl) (by kernel_rfl) (fun _ _ _ h => h) (Or.inl ⟨by kernel_rfl, ?_⟩) (by assumption) ?_
  rotate_left
  ·intro w hSw; (try dsimp only at hSw); go_simp
   all_goals with_reducible rfl
  try simp only [Act.put, List.setIfInBounds_toArray, List.set_cons_zero, List.set_cons_succ, List.getElem_toArray, List.getElem_cons_succ, List.getElem_cons_zero]
  refine wpAnyH_take (i := 4) (v := ?_) rfl (by kernel_rfl) (by kernel_rfl) (by kernel_rfl) (fun _ _ _ h => h) (Or.inl ⟨by kernel_rfl, ?_⟩) (by assumption) ?_
  rotate_left
  ·intro w hSw; (try dsimp only at hSw); go_simp
   all_goals with_reducible rfl
  try simp only [Act.put, List.setIfInBounds_toArray, List.set_cons_zero, List.set_cons_succ, List.getElem_toArray, List.getElem_cons_succ, List.getElem_cons_zero]
  refine wpAnyH_take (i := 5) (v := ?_) rfl (by kernel_rfl) (by kernel_rfl) (by kernel_rfl) (fun _ _ _ h => h) (Or.inl ⟨by kernel_rfl, ?_⟩) (by assumption) ?_
  rotate_left
  ·intro w hSw; (try dsimp only at hSw); go_simp
   all_goals with_reducible rfl
  try simp only [Act.put, List.setIfInBounds_toArray, List.set_cons_zero, List.set_cons_succ, List.getElem_toArray, List.getElem_cons_succ, List.getElem_cons_zero]
  refine wpAnyH_ready (rs := [6]) (by kernel_rfl) (by simp) ?_
  refine AllReadyH.cons rfl (fun K hK => ?_) AllReadyH.nil
  go_simp
  refine (rOf_one _).mono ?_
  rintro e w1 ⟨rfl, hb1⟩
  go_wp2_with fail
  refine hK.out _ _ ?_ (fun hHeld => ?_)
  ·exact HK.out _ _ (by assumption) hb1
  clear hK K
  try simp only [Act.put, List.setIfInBounds_toArray, List.set_cons_zero, List.set_cons_succ, List.getElem_toArray, List.getElem_cons_succ, List.getElem_cons_zero]
  refine wpAnyH_ready (rs := [7]) (by kernel_rfl) (by simp) ?_
  refine AllReadyH.cons rfl (fun K hK => ?_) AllReadyH.nil
  go_simp
  refine (HC1.out _).mono ?_
  rintro e w1 ⟨rfl, rfl⟩
  go_wp2_with fail
  refine hK.out _ _ ?_ (fun hHeld => ?_)
  ·assumption
  clear hK K
  try simp only [Act.put, List.setIfInBounds_toArray, List.set_cons_zero, List.set_cons_succ, List.getElem_toArray, List.getElem_cons_succ, List.getElem_cons_zero]
  refine wpAnyH_take (i := 8) (v := ?_) rfl (by kernel_rfl) (by kernel_rfl) (by kernel_rfl) (fun _ _ _ h => h) (Or.inl ⟨by kernel_rfl, ?_⟩) (by assumption) ?_
  rotate_left
  ·intro w hSw; (try dsimp only at hSw); go_simp
   all_goals with_reducible rfl
  try simp only [Act.put, List.setIfInBounds_toArray, List.set_cons_zero, List.set_cons_succ, List.getElem_toArray, List.getElem_cons_succ, List.getElem_cons_zero]
  refine wpAnyH_take (i := 9) (v := ?_) rfl (by kernel_rfl) (by kernel_rfl) (by kernel_rfl) (fun _ _ _ h => h) (Or.inl ⟨by kernel_rfl, ?_⟩) (by assumption) ?_
  rotate_left
  ·intro w hSw; (try dsimp only at hSw); go_simp
   all_goals with_reducible rfl
  try simp only [Act.put, List.setIfInBounds_toArray, List.set_cons_zero, List.set_cons_succ, List.getElem_toArray, List.getElem_cons_succ, List.getElem_cons_zero]
  refine wpAnyH_take (i := 10) (v := ?_) rfl (by kernel_rfl) (by kernel_rfl) (by kernel_rfl) (fun _ _ _ h => h) (Or.inl ⟨by kernel_rfl, ?_⟩) (by assumption) ?_
  rotate_left
  ·intro w hSw; (try dsimp only at hSw); go_simp
   all_goals with_reducible rfl
  try simp only [Act.put, List.setIfInBounds_toArray, List.set_cons_zero, List.set_cons_succ, List.getElem_toArray, List.getElem_cons_succ, List.getElem_cons_zero]
  refine wpAnyH_done (by kernel_rfl) ?_ _
  refine NoPanic.normal ?_
  obtain ⟨_, _, hb3⟩ := hHeld
  have HH := Lib.hid hb3
  clear hb3
  go_wp2
  go_ret
  refine ⟨?_, by rw [← HB.out]; exact HH.out⟩
  rw [HOK.out]; first | rfl | (simp; done) | (simp; rfl)
 ·go_enter Tryz.func108, Tryz.ntmps108
  go_wp2_with fail
  simp only [← hW, ← hB]
  clear hW hB
  refine (HN.out _).mono ?_
  rintro e w1 ⟨rfl, rfl⟩
  go_wp2_with fail
  refine (HD.out _).mono ?_
  rintro e w1 ⟨rfl, rfl⟩
  go_wp2_with fail
  have HK : Hid (∀ w' w1 : World, ((∀ i, w'.cell? ⟨B, i, none⟩ = ([.bool true, .string num, .string den] : List Value)[i]?) ∧ B < w'.heap.size ∧ Below B w w') → Below w'.heap.size w' w1 →
    ((∀ i, w1.cell? ⟨B, i, none⟩ = ([.bool true, .string num, .string den] : List Value)[i]?) ∧ B < w1.heap.size ∧ Below B w w1)) := by
   rintro w' w1 ⟨h0, h2, h3⟩ hb1
   exact ⟨fun i => (hb1.cell h2).trans (h0 i), Nat.lt_of_lt_of_le h2 hb1.size, h3.trans (hb1.mono (Nat.le_of_lt h2))⟩
  have HS : Hid ((∀ i, W.drew.cell? ⟨B, i, none⟩ = ([.bool true, .string num, .string den] : List Value)[i]?) ∧ B < W.drew.heap.size ∧ Below B w W.drew) :=
   ⟨hblk.cells, hblk.lt, below_drewN hba 1⟩
  clear hblk hba hc
  refine wp_region_noPanic ?_
  refine wp_region_held_drew (S := fun w' => (∀ i, w'.cell? ⟨B, i, none⟩ = ([.bool true, .string num, .string den] : List Value)[i]?) ∧ B < w'.heap.size ∧ Below B w w') (by kernel_rfl) HS.out (fun hHeld => ?_)
  refine wpAnyH_take (i := 0) (v := ?_) rfl (by kernel_rfl) (by kernel_rfl) (by kernel_rfl) (fun _ _ _ h => h) (Or.inl ⟨by kernel_rfl, ?_⟩) (by assumption) ?_
  rotate_left
  ·intro w hSw; (try dsimp only at hSw); go_simp
   all_goals with_reducible rfl
  try simp only [Act.put, List.setIfInBounds_toArray, List.set_cons_zero, List.set_cons_succ, List.getElem_toArray, List.getElem_cons_succ, List.getElem_cons_zero]
  refine wpAnyH_take (i := 1) (v := ?_) rfl (by kernel_rfl) (by kernel_rfl) (by kernel_rfl) (fun _ _ _ h => h) (Or.inl ⟨by kernel_rfl, ?_⟩) (by assumption) ?_
  rotate_left
  ·intro w hSw; (try dsimp only at hSw); go_simp
   all_goals with_reducible rfl
  try simp only [Act.put, List.setIfInBounds_toArray, List.set_cons_zero, List.set_cons_succ, List.getElem_toArray, List.getElem_cons_succ, List.getElem_cons_zero]
  refine wpAnyH_take (i := 2) (v := ?_) rfl (by kernel_rfl) (by kernel_rfl) (by kernel_rfl) (fun _ _ _ h => h) (Or.inl ⟨by kernel_rfl, ?_⟩) (by assumption) ?_
  rotate_left
  ·intro w hSw; (try dsimp only at hSw); go_simp
   all_goals with_reducible rfl
  try simp only [Act.put, List.setIfInBounds_toArray, List.set_cons_zero, List.set_cons_succ, List.getElem_toArray, List.getElem_cons_succ, List.getElem_cons_zero]
  refine wpAnyH_take (i := 3) (v := ?_) rfl (by kernel_rfl) (by kernel_rfl) (by kernel_rfl) (fun _ _ _ h => h) (Or.inl ⟨by kernel_rfl, ?_⟩) (by assumption) ?_
  rotate_left
  ·intro w hSw; (try dsimp only at hSw); go_simp
   all_goals with_reducible rfl
  try simp only [Act.put, List.setIfInBounds_toArray, List.set_cons_zero, List.set_cons_succ, List.getElem_toArray, List.getElem_cons_succ, List.getElem_cons_zero]
  refine wpAnyH_take (i := 4) (v := undef) rfl (by kernel_rfl) (by kernel_rfl) (by kernel_rfl) (fun _ _ _ h => h) (Or.inr ⟨by kernel_rfl, rfl⟩) (by assumption) ?_
  try simp only [Act.put, List.setIfInBounds_toArray, List.set_cons_zero, List.set_cons_succ, List.getElem_toArray, List.getElem_cons_succ, List.getElem_cons_zero]
  refine wpAnyH_take (i := 5) (v := undef) rfl (by kernel_rfl) (by kernel_rfl) (by kernel_rfl) (fun _ _ _ h => h) (Or.inr ⟨by kernel_rfl, rfl⟩) (by assumption) ?_
  try simp only [Act.put, List.setIfInBounds_toArray, List.set_cons_zero, List.set_cons_succ, List.getElem_toArray, List.getElem_cons_succ, List.getElem_cons_zero]
  refine wpAnyH_take (i := 6) (v := undef) rfl (by kernel_rfl) (by kernel_rfl) (by kernel_rfl) (fun _ _ _ h => h) (Or.inr ⟨by kernel_rfl, rfl⟩) (by assumption) ?_
  try simp only [Act.put, List.setIfInBounds_toArray, List.set_cons_zero, List.set_cons_succ, List.getElem_toArray, List.getElem_cons_succ, List.getElem_cons_zero]
  refine wpAnyH_take (i := 7) (v := undef) rfl (by kernel_rfl) (by kernel_rfl) (by kernel_rfl) (fun _ _ _ h => h) (Or.inr ⟨by kernel_rfl, rfl⟩) (by assumption) ?_
  try simp only [Act.put, List.setIfInBounds_toArray, List.set_cons_zero, List.set_cons_succ, List.getElem_toArray, List.getElem_cons_succ, List.getElem_cons_zero]
  refine wpAnyH_take (i := 8) (v := undef) rfl (by kernel_rfl) (by kernel_rfl) (by kernel_rfl) (fun _ _ _ h => h) (Or.inr ⟨by kernel_rfl, rfl⟩) (by assumption) ?_
  try simp only [Act.put, List.setIfInBounds_toArray, List.set_cons_zero, List.set_cons_succ, List.getElem_toArray, List.getElem_cons_succ, List.getElem_cons_zero]
  refine wpAnyH_take (i := 9) (v := ?_) rfl (by kernel_rfl) (by kernel_rfl) (by kernel_rfl) (fun _ _ _ h => h) (Or.inl ⟨by kernel_rfl, ?_⟩) (by assumption) ?_
  rotate_left
  ·intro w hSw; (try dsimp only at hSw); go_simp
   all_goals with_reducible rfl
  try simp only [Act.put, List.setIfInBounds_toArray, List.set_cons_zero, List.set_cons_succ, List.getElem_toArray, List.getElem_cons_succ, List.getElem_cons_zero]
  refine wpAnyH_take (i := 10) (v := ?_) rfl (by kernel_rfl) (by kernel_rfl) (by kernel_rfl) (fun _ _ _ h => h) (Or.inl ⟨by kernel_rfl, ?_⟩) (by assumption) ?_
  rotate_left
  ·intro w hSw; (try dsimp only at hSw); go_simp
   all_goals with_reducible rfl
  try simp only [Act.put, List.setIfInBounds_toArray, List.set_cons_zero, List.set_cons_succ, List.getElem_toArray, List.getElem_cons_succ, List.getElem_cons_zero]
  refine wpAnyH_done (by kernel_rfl) ?_ _
  refine NoPanic.normal ?_
  obtain ⟨_, _, hb3⟩ := hHeld
  have HH := Lib.hid hb3
  clear hb3
  go_wp2
  go_ret
  refine ⟨?_, by rw [← HB.out]; exact HH.out⟩
  rw [HOK.out]; first | rfl | (simp; done) | (simp; rfl)
end Go.Proofs.YtbicehdehiakgaaGreatDoor
namespace Go.Proofs.YtbicehdehiakgaaGreatDoor
open Go.RowKit
structure Three (w : World) (t1 t2 t3 : TypeId) (l1 l2 l3 : List Value) (W : World) : Prop where
 one : Blk W w.heap.size t1 l1
 two : Blk W (w.heap.size + 1) t2 l2
 three : Blk W (w.heap.size + 2) t3 l3
 below : Below w.heap.size w W
 size : W.heap.size = w.heap.size + 3
theorem Three.new (w : World) (t1 t2 t3 : TypeId) (cs1 cs2 cs3 : Array Value) : Three w t1 t2 t3 cs1.toList cs2.toList cs3.toList (((w.alloc (.cells cs1 t1)).alloc (.cells cs2 t2)).alloc (.cells cs3 t3)) := by
 obtain ⟨h1, h2, h3, h4⟩ := Two.new w t1 t2 cs1 cs2
 have k := Blk.new ((w.alloc (.cells cs1 t1)).alloc (.cells cs2 t2)) t3 cs3
 rw [h4] at k
 exact ⟨h1.alloc _, h2.alloc _, k, h3.alloc (by omega) _, by show (Array.push _ _).size = _; rw [Array.size_push, h4]⟩
theorem below_at {B C : Nat} {w w' : World} (h : Below B w w') (hC : B ≤ C) (x y z : Value) : Below B w (((w'.setCell ⟨C, 0, none⟩ x).setCell ⟨C, 1, none⟩ y).setCell ⟨C, 2, none⟩ z) :=
 ((h.setCell (p := ⟨C, 0, none⟩) hC _).setCell (p := ⟨C, 1, none⟩) hC _).setCell (p := ⟨C, 2, none⟩) hC _
set_option maxRecDepth 100000 in
set_option maxHeartbeats 800000 in
theorem svalue_any (a : Ra) (w : World) (hn : a.num.size ≤ 536870912) (hd : a.den.size ≤ 536870912) :
  Calls Tryz.prog 72 #[a.v] w fun e w' => e = .returned (valR a).v ∧ Below w.heap.size w w' := by
 have HR := Lib.hid (fun w => sRight_any a w hn hd)
 have HV : Hid (valR a = if okR a then a else ofI 0) := rfl
 obtain ⟨o, ho⟩ : ∃ o, okR a = o := ⟨_, rfl⟩
 rw [ho] at HR HV
 clear ho hn hd
 generalize valR a = va at *
 obtain ⟨neg, num, den⟩ := a
 unfold Ra.v at HR ⊢
 obtain ⟨W, hW⟩ : ∃ W, W = (w.alloc (.cells #[.bool neg, .string num, .string den] 31)).alloc (.cells #[.bool false, .string ⟨#[]⟩, .string ⟨#[]⟩] 31) := ⟨_, rfl⟩
 have htwo := Two.new w 31 31 #[.bool neg, .string num, .string den] #[.bool false, .string ⟨#[]⟩, .string ⟨#[]⟩]
 rw [← hW] at htwo
 obtain ⟨hk0, hk1, hba, hsz⟩ := htwo
 obtain ⟨B, hB⟩ : ∃ B, B = w.heap.size := ⟨_, rfl⟩
 have HB := Lib.hid hB
 rw [← hB] at hba hsz hk0 hk1
 have hc0 := hk0.cells
 cases o
 all_goals
  go_enter Tryz.func72, Tryz.ntmps72
  go_wp2_with fail
  simp only [← hW, ← hB]
  clear hW hB
  refine (HR.out _).mono ?_
  rintro e w1 ⟨rfl, hb1⟩
  have hk0' := hk0.below hb1 hk0.lt
  have hk1' := hk1.below hb1 hk1.lt
  have hB1 : Below B w w1 := hba.trans (hb1.mono (by omega))
  have hc1 := hk0'.cells
  have hc2 := hk1'.cells
  have hf2 := hk1'.froz
 ·go_wp2_with fail
  refine (rOf_one _).mono ?_
  rintro e w2 ⟨rfl, hb2⟩
  have hk1'' := hk1'.below hb2 hk1'.lt
  have hB2 : Below B w w2 := hB1.trans (hb2.mono (Nat.le_of_lt hk0'.lt))
  have hc3 := hk1''.cells
  have hf3 := hk1''.froz
  go_wp2
  refine bodyPost_ret (v := .agg #[.bool false, .string ⟨#[]⟩, .string (nbs 1)]) (by simp [results, Tryz.results72, go_sem, hc3]) rfl ⟨by rw [HV.out]; rfl, ?_⟩
  rw [← HB.out]; exact below_at hB2 (Nat.le_succ _) _ _ _
 ·go_wp2
  refine bodyPost_ret (v := .agg #[.bool neg, .string num, .string den]) (by simp [results, Tryz.results72, go_sem, hc2]) rfl ⟨by rw [HV.out]; rfl, ?_⟩
  rw [← HB.out]; exact below_at hB1 (Nat.le_succ _) _ _ _
set_option maxRecDepth 100000 in
set_option maxHeartbeats 800000 in
theorem sOf_any (n : Int) (w : World) (h0 : -9223372036854775808 ≤ n) (h1 : n ≤ 9223372036854775807) :
  Calls Tryz.prog 37 #[.int .i64 n] w fun e w' => e = .returned (ofI n).v ∧ Below w.heap.size w w' := by
 obtain ⟨W, hW⟩ : ∃ W, W = w.alloc (.cells #[.bool false, .string ⟨#[]⟩, .string ⟨#[]⟩] 31) := ⟨_, rfl⟩
 have hba : Below w.heap.size w W := by rw [hW]; exact (Below.refl _ _).alloc (Nat.le_refl _) _
 have hk0 : Blk W w.heap.size 31 [.bool false, .string ⟨#[]⟩, .string ⟨#[]⟩] := by rw [hW]; exact Blk.new w _ _
 have hsz : W.heap.size = w.heap.size + 1 := by rw [hW]; exact Array.size_push _
 obtain ⟨B, hB⟩ : ∃ B, B = w.heap.size := ⟨_, rfl⟩
 have HB := Lib.hid hB
 rw [← hB] at hba hsz hk0
 by_cases hn : n < 0
 ·have HO : Hid (ofI n = ⟨true, nbs (n + 1).natAbs.succ, nbs 1⟩) := by
   show _ = _
   unfold ofI
   rw [decide_eq_true hn, show n.natAbs = (n + 1).natAbs.succ from by omega]
  have HA := Lib.hid (fun w => rAdd_any (nbs (n + 1).natAbs) (nbs 1) w (Nat.le_trans (nbs_size_le _ 9 (by omega)) (by omega)) (Nat.le_trans (nbs_size_le _ 9 (by omega)) (by omega)))
  rw [vbs_nbs, vbs_nbs] at HA
  have hneg : IntKind.i64.wrap (-(n + 1)) = -(n + 1) := IntWalk.i64_in _ (by omega)
  have hng : (-(n + 1)).toNat = (n + 1).natAbs := by omega
  go_enter Tryz.func37, Tryz.ntmps37
  go_wp2_with fail
  simp only [← hW, ← hB]
  clear hW hB
  refine (rOf_any _ _ (by omega) (by omega)).mono ?_
  rintro e w1 ⟨rfl, hb1⟩
  go_wp2_with fail
  refine (rOf_one _).mono ?_
  rintro e w2 ⟨rfl, hb2⟩
  try rw [hng]
  go_wp2_with fail
  refine (HA.out _).mono ?_
  rintro e w3 ⟨rfl, hb3⟩
  go_wp2_with fail
  refine (rOf_one _).mono ?_
  rintro e w4 ⟨rfl, hb4⟩
  have hb14 := bstep (bstep (bstep hb1 hb2) hb3) hb4
  have hk3 := hk0.below hb14 hk0.lt
  have hc := hk3.cells
  have hf := hk3.froz
  have HBW := Lib.hid (hba.trans (hb14.mono (Nat.le_of_lt hk0.lt)))
  clear hb1 hb2 hb3 hb4 hb14
  go_wp2
  refine bodyPost_ret (v := .agg #[.bool true, .string (nbs ((n + 1).natAbs + 1)), .string (nbs 1)]) (by simp [results, Tryz.results37, go_sem, hc]) rfl ⟨?_, by rw [← HB.out]; exact below_set3 HBW.out _ _ _⟩
  rw [HO.out]; rfl
 ·have HO : Hid (ofI n = ⟨false, nbs n.toNat, nbs 1⟩) := by
   show _ = _
   unfold ofI
   rw [decide_eq_false hn, show n.natAbs = n.toNat from by omega]
  go_enter Tryz.func37, Tryz.ntmps37
  go_wp2_with fail
  simp only [← hW, ← hB]
  clear hW hB
  refine (rOf_any _ _ (by omega) (by omega)).mono ?_
  rintro e w1 ⟨rfl, hb1⟩
  go_wp2_with fail
  refine (rOf_one _).mono ?_
  rintro e w2 ⟨rfl, hb2⟩
  have hb14 := bstep hb1 hb2
  have hk3 := hk0.below hb14 hk0.lt
  have hc := hk3.cells
  have hf := hk3.froz
  have HBW := Lib.hid (hba.trans (hb14.mono (Nat.le_of_lt hk0.lt)))
  clear hb1 hb2 hb14
  go_wp2
  refine bodyPost_ret (v := .agg #[.bool false, .string (nbs n.toNat), .string (nbs 1)]) (by simp [results, Tryz.results37, go_sem, hc]) rfl ⟨?_, by rw [← HB.out]; exact below_set3 HBW.out _ _ _⟩
  rw [HO.out]; rfl
set_option maxRecDepth 100000 in
set_option maxHeartbeats 800000 in
theorem sMake_any (neg : Bool) (num den : ByteArray) (w : World) (hn : num.size ≤ 536870912) (hd : den.size ≤ 536870912) :
  Calls Tryz.prog 107 #[.bool neg, .string num, .string den] w fun e w' => e = .returned (.tuple #[(mkR neg num den).1.v, .bool (mkR neg num den).2]) ∧ Below w.heap.size w w' := by
 have HN := Lib.hid (fun w => rRight_any num w)
 have HD := Lib.hid (fun w => rRight_any den w)
 have HM : Hid (mkR neg num den = if rightS den && decide (0 < vbs den) && rightS num then (low neg (vbs num) (vbs den), true) else (⟨false, ⟨#[]⟩, ⟨#[]⟩⟩, false)) := rfl
 have hz : rightS den = true → (den.toList.isEmpty = true ↔ ¬ (0 < vbs den)) := by
  intro h
  have e := (rightS_iff den).1 h
  rw [e, nbs_isEmpty, vbs_nbs, decide_eq_true_eq]; omega
 have HL : rightS num = true → rightS den = true → 0 < vbs den → ∀ w, Calls Tryz.prog 67 #[.bool neg, .string num, .string den] w fun e w' => e = .returned (low neg (vbs num) (vbs den)).v ∧ Below w.heap.size w w' := by
  intro h1 h2 h3 w
  obtain ⟨K, hK⟩ : ∃ K, K = 536870912 := ⟨_, rfl⟩
  have := slowest_any neg (vbs num) (vbs den) K w (by omega) (vbs_le num K (by omega)) (vbs_le den K (by omega)) h3
  rwa [← (rightS_iff num).1 h1, ← (rightS_iff den).1 h2] at this
 clear hn hd
 generalize low neg (vbs num) (vbs den) = lw at *
 generalize mkR neg num den = mk at *
 obtain ⟨m, mb⟩ := mk
 obtain ⟨ln, lu, ld⟩ := lw
 obtain ⟨W, hW⟩ : ∃ W, W = w.alloc (.cells #[.bool false, .string ⟨#[]⟩, .string ⟨#[]⟩] 31) := ⟨_, rfl⟩
 have hba : Below w.heap.size w W := by rw [hW]; exact (Below.refl _ _).alloc (Nat.le_refl _) _
 have hk0 : Blk W w.heap.size 31 [.bool false, .string ⟨#[]⟩, .string ⟨#[]⟩] := by rw [hW]; exact Blk.new w _ _
 have hsz : W.heap.size = w.heap.size + 1 := by rw [hW]; exact Array.size_push _
 obtain ⟨B, hB⟩ : ∃ B, B = w.heap.size := ⟨_, rfl⟩
 have HB := Lib.hid hB
 rw [← hB] at hba hsz hk0
 have hc := hk0.cells
 have hf := hk0.froz
 cases hrn : rightS num
 ·rw [hrn] at HM HN
  cases hrd : rightS den
  all_goals
   rw [hrd] at HM HD
   have HM2 : Hid ((m, mb) = (⟨false, ⟨#[]⟩, ⟨#[]⟩⟩, false)) := by show _ = _; rw [HM.out]; simp
   clear HM HL hz hrn hrd
   go_enter Tryz.func107, Tryz.ntmps107
   go_wp2_with fail
   simp only [← hW, ← hB]
   clear hW hB
   refine (HN.out _).mono ?_
   rintro e w1 ⟨rfl, rfl⟩
   go_wp2_with fail
   refine (HD.out _).mono ?_
   rintro e w1 ⟨rfl, rfl⟩
   go_wp2
   injection HM2.out with e1 e2
   subst e1 e2
   refine bodyPost_ret (v := .tuple #[.agg #[.bool false, .string ⟨#[]⟩, .string ⟨#[]⟩], .bool false]) (by simp [results, Tryz.results107, go_sem, hc]) rfl ⟨rfl, by rw [← HB.out]; exact below_set3 hba _ _ _⟩
 ·rw [hrn] at HM HN
  cases hrd : rightS den
  ·rw [hrd] at HM HD
   have HM2 : Hid ((m, mb) = (⟨false, ⟨#[]⟩, ⟨#[]⟩⟩, false)) := by show _ = _; rw [HM.out]; simp
   clear HM HL hz hrn hrd
   go_enter Tryz.func107, Tryz.ntmps107
   go_wp2_with fail
   simp only [← hW, ← hB]
   clear hW hB
   refine (HN.out _).mono ?_
   rintro e w1 ⟨rfl, rfl⟩
   go_wp2_with fail
   refine (HD.out _).mono ?_
   rintro e w1 ⟨rfl, rfl⟩
   go_wp2
   injection HM2.out with e1 e2
   subst e1 e2
   refine bodyPost_ret (v := .tuple #[.agg #[.bool false, .string ⟨#[]⟩, .string ⟨#[]⟩], .bool false]) (by simp [results, Tryz.results107, go_sem, hc]) rfl ⟨rfl, by rw [← HB.out]; exact below_set3 hba _ _ _⟩
  ·rw [hrd] at HM HD
   have hzz := hz hrd
   by_cases h0 : 0 < vbs den
   ·have HM2 : Hid ((m, mb) = (⟨ln, lu, ld⟩, true)) := by show _ = _; rw [HM.out]; simp [h0]
    have HL := Lib.hid (HL hrn hrd h0)
    have he : den.toList.isEmpty = false := by
     cases hx : den.toList.isEmpty
     ·rfl
     ·exact absurd h0 (hzz.1 hx)
    clear HM hz hzz hrn hrd h0 hc hf
    go_enter Tryz.func107, Tryz.ntmps107
    go_wp2_with fail
    simp only [← hW, ← hB]
    clear hW hB
    refine (HN.out _).mono ?_
    rintro e w1 ⟨rfl, rfl⟩
    go_wp2_with fail
    refine (HD.out _).mono ?_
    rintro e w1 ⟨rfl, rfl⟩
    go_wp2_with fail
    refine (HL.out _).mono ?_
    rintro e w2 ⟨rfl, hb2⟩
    have hk2 := hk0.below hb2 hk0.lt
    have hc := hk2.cells
    have hf := hk2.froz
    have HBW := Lib.hid (hba.trans (hb2.mono (Nat.le_of_lt hk0.lt)))
    simp only [Ra.v]
    clear hb2 hk2
    go_wp2
    injection HM2.out with e1 e2
    subst e1 e2
    refine bodyPost_ret (v := .tuple #[.agg #[.bool ln, .string lu, .string ld], .bool true]) (by simp [results, Tryz.results107, go_sem, hc]) rfl ⟨rfl, by rw [← HB.out]; exact below_set3 HBW.out _ _ _⟩
   ·have HM2 : Hid ((m, mb) = (⟨false, ⟨#[]⟩, ⟨#[]⟩⟩, false)) := by show _ = _; rw [HM.out]; simp [h0]
    have he : den.toList.isEmpty = true := hzz.2 h0
    clear HM HL hz hzz hrn hrd h0
    go_enter Tryz.func107, Tryz.ntmps107
    go_wp2_with fail
    simp only [← hW, ← hB]
    clear hW hB
    refine (HN.out _).mono ?_
    rintro e w1 ⟨rfl, rfl⟩
    go_wp2_with fail
    refine (HD.out _).mono ?_
    rintro e w1 ⟨rfl, rfl⟩
    go_wp2
    injection HM2.out with e1 e2
    subst e1 e2
    refine bodyPost_ret (v := .tuple #[.agg #[.bool false, .string ⟨#[]⟩, .string ⟨#[]⟩], .bool false]) (by simp [results, Tryz.results107, go_sem, hc]) rfl ⟨rfl, by rw [← HB.out]; exact below_set3 hba _ _ _⟩
end Go.Proofs.YtbicehdehiakgaaGreatDoor
