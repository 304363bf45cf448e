/- The proof of the statement, a part of it: E6 E7. -/
import Derived.Test.YtbicehdehiakgaaGreatDoorC24
set_option linter.unusedVariables false
set_option linter.unusedSimpArgs false
namespace Go.Proofs.YtbicehdehiakgaaGreatDoor
open Go.RowKit
def Fine (n : Nd) : Prop := n.num.num.size ≤ 1048576 ∧ n.num.den.size ≤ 1048576
theorem wrong_any (n : Nd) (w : World) (hL : LaidE w) (hf : Fine n) : Calls Tryz.prog 48 #[n.v] w (RetW (wrongN n) w) := by
  obtain ⟨hn, hd⟩ := hf
  by_cases h : n.op < 1 ∨ 24 < n.op
  · have e : wrongN n = 11 := by
      unfold wrongN
      rw [if_pos (by rcases h with h | h; exact .inl h; exact .inr (.inl h))]
    rw [e]
    exact wrong_out n w h
  · obtain ⟨k, hk⟩ : ∃ k : Nat, n.op = k := ⟨n.op.toNat, by omega⟩
    have hk0 : 1 ≤ k := by omega
    have hk1 : k ≤ 24 := by omega
    have HO := fun w hL => of_yes k w hL hk0 hk1
    obtain ⟨f1, f2, f3⟩ := shp_facts k hk1
    have hW : wrongN n = if ((shp (k : Int)).nam = false ∧ n.name ≠ ⟨#[]⟩) ∨ numOk n = false then 11 else if (shp (k : Int)).nam && !nameB n.name.data.toList then 12 else 0 := by
      unfold wrongN
      rw [hk]
      have a1 : ¬ ((k : Int) < 1) := by omega
      have a2 : ¬ (24 < (k : Int)) := by omega
      simp only [a1, a2, false_or]
    have hU : numOk n = if (k : Int) = 4 then decide (n.num = ofI 0) || decide (n.num = ofI 1) else if (shp (k : Int)).lit then fitsR n.num else if (shp (k : Int)).stp then fitsR n.num && decide (0 < signR n.num) else decide (n.num = zR) := by
      unfold numOk; rw [hk]
    have HF := fun W => mFits_any n.num W (by omega) (by omega)
    have HS := fun W => qSign_any n.num W (by omega) (by omega)
    have HI := fun W => isName_any n.name W
    have HQ0 := fun W => eql_ra n.num (ofI 0) W
    have HQ1 := fun W => eql_ra n.num (ofI 1) W
    have HQZ := fun W => eql_ra n.num zR W
    obtain ⟨op, num, nm⟩ := n
    simp only at hk
    subst hk
    have hem : (nm.toList.isEmpty = true) ↔ nm = ⟨#[]⟩ := by
      have e0 : (⟨#[]⟩ : ByteArray).toList = [] := by rw [ByteArray.toList_eq]
      rw [List.isEmpty_iff]
      exact ⟨fun h => toList_inj (by rw [h, e0]), fun h => by rw [h, e0]⟩
    generalize shp (k : Int) = s at *
    obtain ⟨wd, ops, lit, nam, stp⟩ := s
    obtain ⟨neg, nu, de⟩ := num
    simp only at *
    simp only [Sh.v] at HO
    simp only [Ra.v] at HF HS HQ0 HQ1 HQZ
    show Calls _ _ #[.agg #[.int .i64 (k : Int), .bool neg, .string nu, .string de, .string nm]] _ _
    by_cases hno : nam = false ∧ nm ≠ ⟨#[]⟩
    · obtain ⟨rfl, hne⟩ := hno
      refine wrong_noname k ops wd lit stp neg nu de nm w _ hL HO ?_ ?_
      · cases he : nm.toList.isEmpty
        · rfl
        · exact absurd (hem.1 he) hne
      · rw [hW, if_pos (.inl ⟨rfl, hne⟩)]
    · have hnm : nam = true ∨ nm.toList.isEmpty = true := by
        cases nam
        · refine .inr (hem.2 (Classical.byContradiction fun hc => hno ⟨rfl, hc⟩))
        · exact .inl rfl
      have hW2 : wrongN ⟨(k : Int), ⟨neg, nu, de⟩, nm⟩ = if numOk ⟨(k : Int), ⟨neg, nu, de⟩, nm⟩ then (if nam && !nameB nm.data.toList then 12 else 0) else 11 := by
        rw [hW]
        cases numOk ⟨(k : Int), ⟨neg, nu, de⟩, nm⟩
        · rw [if_pos (.inr rfl)]; rfl
        · rw [if_neg (by rintro (h | h); exact hno h; cases h)]; rfl
      by_cases h4 : k = 4
      · have hl : lit = true := f1.2 (by omega)
        have hs : stp = false := by
          cases stp
          · rfl
          · have := f2.1 rfl; omega
        have hn : nam = false := by
          cases nam
          · rfl
          · have := f3.1 rfl; omega
        subst hl hs hn
        refine wrong_tru k ops wd neg nu de nm w _ hL HO (by rw [beq_iff_eq]; omega) (by simpa using hnm) _ _ HQ0 HQ1 ?_
        have h4' : (k : Int) = 4 := by omega
        rw [hW2, hU, if_pos h4']
        simp only [Bool.false_and, Bool.false_eq_true, if_false]
      · have h4' : ((k : Int) == 4) = false := by rw [beq_eq_false_iff_ne]; omega
        have h4'' : ¬ ((k : Int) = 4) := by omega
        cases lit
        · cases stp
          · refine wrong_def k ops wd neg nu de nm w _ hL nam HO h4' hnm _ _ HQZ HI ?_
            rw [hW2, hU, if_neg h4'']
            simp
          · have hn : nam = false := by
              cases nam
              · rfl
              · have := f3.1 rfl; have := f2.1 rfl; omega
            subst hn
            refine wrong_stp k ops wd neg nu de nm w _ hL HO h4' (by simpa using hnm) _ _ HF HS ?_
            rw [hW2, hU, if_neg h4'']
            simp
        · have hs : stp = false := by
            cases stp
            · rfl
            · have := f2.1 rfl; have := f1.1 rfl; omega
          have hn : nam = false := by
            cases nam
            · rfl
            · have := f3.1 rfl; have := f1.1 rfl; omega
          subst hs hn
          refine wrong_lit k ops wd neg nu de nm w _ hL HO h4' (by simpa using hnm) _ HF ?_
          rw [hW2, hU, if_neg h4'']
          simp
def nds (es : List Nd) : List Value := es.flatMap Nd.cells
def NdAt (w : World) (b o : Nat) (n : Nd) : Prop :=
  w.cell? ⟨b, o, none⟩ = some (.int .i64 n.op) ∧ w.cell? ⟨b, o + 1, none⟩ = some (.bool n.num.neg) ∧ w.cell? ⟨b, o + 2, none⟩ = some (.string n.num.num) ∧ w.cell? ⟨b, o + 3, none⟩ = some (.string n.num.den) ∧ w.cell? ⟨b, o + 4, none⟩ = some (.string n.name)
theorem nds_length (es : List Nd) : (nds es).length = es.length * 5 := by
  induction es with
  | nil => rfl
  | cons n es ih => show (n.cells ++ nds es).length = _; rw [List.length_append, ih, List.length_cons]; show 5 + _ = _; omega
theorem nds_get (es : List Nd) (k i : Nat) (hk : k < es.length) (hi : i < 5) : (nds es)[k * 5 + i]? = es[k].cells[i]? := by
  have h := flatMap_get Nd.cells 5 (fun _ => rfl) es k i hi
  rw [List.getElem?_eq_getElem hk] at h
  exact h
theorem Rd.nd {w : World} {A : Option Addr} {es : List Nd} (h : Rd w A (nds es)) {k : Nat} (hk : k < es.length) :
    ∃ b off, A = some ⟨b, off, none⟩ ∧ b < w.heap.size ∧ NdAt w b (off + k * 5) es[k] := by
  obtain ⟨b, off, e, hb, hc⟩ := h.at_ (k := k * 5) (by rw [nds_length]; omega)
  have key : ∀ i (hi : i < 5), w.cell? ⟨b, off + (k * 5 + i), none⟩ = (es[k].cells)[i]? := fun i hi => by
    have hl : k * 5 + i < (nds es).length := by rw [nds_length]; omega
    rw [hc _ hl, ← nds_get es k i hk hi, List.getElem?_eq_getElem hl]
  exact ⟨b, off, e, hb, key 0 (by omega), key 1 (by omega), key 2 (by omega), key 3 (by omega), key 4 (by omega)⟩
end Go.Proofs.YtbicehdehiakgaaGreatDoor
namespace Go.Proofs.YtbicehdehiakgaaGreatDoor
open Go.RowKit
theorem wrongN_op {n : Nd} (h : wrongN n = 0) : 1 ≤ n.op ∧ n.op ≤ 24 := by
  unfold wrongN at h
  split at h
  · cases h
  · next hc =>
    exact ⟨Classical.byContradiction fun hh => hc (.inl (by omega)), Classical.byContradiction fun hh => hc (.inr (.inl (by omega)))⟩
theorem wrongN_vals (n : Nd) : wrongN n = 0 ∨ wrongN n = 11 ∨ wrongN n = 12 := by
  unfold wrongN
  split
  · exact .inr (.inl rfl)
  · split
    · exact .inr (.inr rfl)
    · exact .inl rfl
theorem shp_ops_le (n : Int) : (shp n).ops ≤ 3 := by
  have h : ∀ s ∈ shs, s.ops ≤ 3 := by decide
  unfold shp
  rw [List.getD_eq_getElem?_getD]
  cases hg : shs[n.toNat]? with
  | none => show 0 ≤ 3; omega
  | some s => exact h s (List.mem_of_getElem? hg)
set_option maxRecDepth 100000 in
set_option maxHeartbeats 1600000 in
theorem check_any (es : List Nd) (A : Option Addr) (len cap : Nat) (w : World) (hL : LaidE w) (hlen : len = es.length) (hcap : len ≤ cap) (hm : cap ≤ maxLen) (hr : Rd w A (nds es)) (hf : ∀ n ∈ es, Fine n) :
    Calls Tryz.prog 18 #[.slice A len cap] w fun e w' => e = .returned (.int .i64 (checkE es)) ∧ Below w.heap.size w w' := by
  unfold maxLen at hm
  by_cases h60 : 60 < len
  · have HV : Hid (checkE es = 2) := by show _ = _; unfold checkE; rw [if_pos (by omega)]
    have h60' : (60 : Int) < len := by omega
    clear hlen hL hr hf
    go_enter Tryz.func18, Tryz.ntmps18
    go_wp2
    go_ret
    exact ⟨by rw [HV.out]; rfl, Below.refl _ _⟩
  · have HV : Hid (checkE es = chk es 0) := by show _ = _; unfold checkE; rw [if_neg (by omega)]
    have h60' : ¬ (60 : Int) < len := by omega
    have HL := Lib.hid hL; have HR := Lib.hid hr; have HF := Lib.hid hf; have HLEN := Lib.hid hlen
    have hle : len ≤ 60 := by omega
    clear hlen hL hr hf h60
    go_enter Tryz.func18, Tryz.ntmps18
    go_wp2
    go_loopg [3, 12] len (fun g dv iv wr => ∃ k d : Nat, k + g = len ∧ d ≤ k ∧ dv = .int .i64 d ∧ iv = .int .i64 k ∧ Hid (chk es 0 = chk (es.drop k) d) ∧ Below w.heap.size w wr)
    case atStart => exact ⟨0, 0, by omega, by omega, rfl, rfl, rfl, Below.refl _ _⟩
    case round =>
      obtain ⟨k, d, hk, hd, rfl, rfl, hch, hbw⟩ := hrel
      by_cases hlt : k < len
      · have hke : k < es.length := by rw [← HLEN.out]; exact hlt
        obtain ⟨b, off, rfl, hb, hc0, hc1, hc2, hc3, hc4⟩ := (HR.out.below hbw).nd hke
        have hfin := HF.out _ (List.getElem_mem hke)
        have HD : Hid (chk (es.drop k) d = chk (es[k] :: es.drop (k + 1)) d) := by show _ = _; rw [List.drop_eq_getElem_cons hke]
        have HWR := Lib.hid (fun w hL => wrong_any es[k] w hL hfin)
        generalize es[k] = n at *
        obtain ⟨op, ⟨neg, num, den⟩, nm⟩ := n
        simp only at hc0 hc1 hc2 hc3 hc4
        have hll := HL.out.below hbw
        have hla := hll.alloc (.cells #[.int .i64 op, .bool neg, .string num, .string den, .string nm] 33)
        have HLA := Lib.hid hla
        have hba : Below w.heap.size w (wr.alloc (.cells #[.int .i64 op, .bool neg, .string num, .string den, .string nm] 33)) := hbw.alloc hbw.size _
        have hka := Blk.new wr 33 #[.int .i64 op, .bool neg, .string num, .string den, .string nm]
        have hv := wrongN_vals ⟨op, ⟨neg, num, den⟩, nm⟩
        have hop : wrongN ⟨op, ⟨neg, num, den⟩, nm⟩ = 0 → 1 ≤ op ∧ op ≤ 24 := wrongN_op
        have HCH : Hid (∀ z, wrongN ⟨op, ⟨neg, num, den⟩, nm⟩ = z → chk es 0 = if z ≠ 0 then z else if d < (shp op).ops then 11 else chk (es.drop (k + 1)) (d - (shp op).ops + 1)) := by
          rintro z rfl
          rw [hch.out, HD.out, chk]
        clear hla hll hfin
        obtain ⟨z, hz⟩ : ∃ z, wrongN ⟨op, ⟨neg, num, den⟩, nm⟩ = z := ⟨_, rfl⟩
        have HCH := Lib.hid (HCH.out z hz)
        rw [hz] at HWR hv hop
        clear hz HD hch
        by_cases hz0 : z = 0
        · subst hz0
          obtain ⟨o1, o2⟩ := hop rfl
          obtain ⟨p, rfl⟩ : ∃ p : Nat, op = p := ⟨op.toNat, by omega⟩
          have hol := shp_ops_le (p : Int)
          clear hv
          go_wp2_with fail
          refine (HWR.out _ HLA.out).mono ?_
          rintro e w2 ⟨rfl, hb2⟩
          have hk2 := hka.below hb2 hka.lt
          have hcB := hk2.cells
          have ht := (HLA.out.below hb2).cell p 1 (by omega) (by omega)
          have HC : Hid (chk es 0 = if d < (shp (p : Int)).ops then 11 else chk (es.drop (k + 1)) (d - (shp (p : Int)).ops + 1)) := by
            have := HCH.out
            rwa [if_neg (by simp)] at this
          simp only [Sh.cells, List.getElem?_cons_succ, List.getElem?_cons_zero] at ht
          generalize shp (p : Int) = s at *
          obtain ⟨wd, o, l1, l2, l3⟩ := s
          simp only at ht hol HC
          have HB := Lib.hid (bstep hba hb2)
          clear HCH hk2 hka hb2 hba HWR
          by_cases hdo : d < o
          · have e1 : (d : Int) - o < 0 := by omega
            go_wp2
            go_ret
            exact ⟨by rw [HV.out, HC.out, if_pos hdo]; rfl, HB.out⟩
          · have e1 : 0 ≤ (d : Int) - o := by omega
            go_wp2
            go_roundg (len - (k + 1))
            case measure => omega
            case rel =>
              refine ⟨k + 1, d - o + 1, by omega, by omega, by go_num, by go_num, ?_, HB.out⟩
              show _ = _
              rw [HC.out, if_neg hdo]
        · have e1 : (z == 0) = false := by simp [hz0]
          have e2 : (z != 0) = true := by simp [hz0]
          go_wp2_with fail
          refine (HWR.out _ HLA.out).mono ?_
          rintro e w2 ⟨rfl, hb2⟩
          go_wp2
          go_ret
          exact ⟨by rw [HV.out, HCH.out, if_pos hz0]; rfl, bstep hba hb2⟩
      · have hkl : k = len := by omega
        have hg0 : gk = 0 := by omega
        have HD : Hid (es.drop k = []) := by show _ = _; rw [hkl, HLEN.out, List.drop_length]
        by_cases h1 : d = 1
        · have e1 : ((d : Int) != 1) = false := by rw [h1]; rfl
          go_wp2
          go_ret
          refine ⟨?_, hbw⟩
          rw [HV.out, hch.out, HD.out, h1]; rfl
        · have e1 : ((d : Int) != 1) = true := by rw [bne_iff_ne]; omega
          go_wp2
          go_ret
          refine ⟨?_, hbw⟩
          rw [HV.out, hch.out, HD.out, chk, if_neg h1]; rfl
end Go.Proofs.YtbicehdehiakgaaGreatDoor
