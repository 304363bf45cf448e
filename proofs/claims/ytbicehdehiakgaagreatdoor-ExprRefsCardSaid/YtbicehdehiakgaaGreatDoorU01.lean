/- For every list of ints tithinglaw07.ExprRefs returns true, and its argument reads afterwards as it did. Conditions: the package-level variables that the row lists hold what the program's own text lays in them. -/
import Derived.SevenTiedAt
import Derived.Test.YtbicehdehiakgaaGreatDoorTie
import Derived.Test.YtbicehdehiakgaaGreatDoorCards
import Derived.Test.YtbicehdehiakgaaGreatDoorC31
import Derived.Test.YtbicehdehiakgaaGreatDoorC47
import Derived.Test.YtbicehdehiakgaaGreatDoorT01
import Derived.Test.YtbicehdehiakgaaGreatDoorU00
set_option linter.unusedVariables false
set_option linter.unusedSimpArgs false
namespace Go.Proofs.YtbicehdehiakgaaGreatDoor
open Go.RowKit
structure Zz (w : World) (l : List Int) (A : Option Addr) (n c : Nat) : Prop where
  len : n = l.length
  max : n ≤ maxLen
  rd : Rd w A (Zs l)
  rng : ∀ x ∈ l, -9223372036854775808 ≤ x ∧ x ≤ 9223372036854775807
theorem Zz.below {w w' : World} {l : List Int} {A : Option Addr} {n c : Nat} (h : Zz w l A n c) (hb : Below w.heap.size w w') : Zz w' l A n c := ⟨h.len, h.max, h.rd.below hb, h.rng⟩
theorem made_es {w : World} {l : List Int} {A : Option Addr} {n c : Nat} (h : Zz w l A n c) : Calls Tryz.prog 17 #[.slice A n c] w fun e w' => ∃ A n c, e = .returned (.slice A n c) ∧ Es w' (madeE l) A n c ∧ Below w.heap.size w w' := gMade_any l A n c w h.len h.max h.rd h.rng
end Go.Proofs.YtbicehdehiakgaaGreatDoor
namespace Go.Proofs.YtbicehdehiakgaaGreatDoor
open Go.ChangeShapes Go.WideShapes Go.ChangeAt Go.RowKit
theorem i64_in64 {x : Int} (h : (Lit.int .i64 x).wf = true) : -9223372036854775808 ≤ x ∧ x ≤ 9223372036854775807 := by
  simp only [Lit.wf, Bool.and_eq_true, decide_eq_true_eq] at h
  exact ⟨h.1, h.2⟩
theorem add_nn (b off m : Nat) : (⟨b, off, none⟩ : Addr).add m = ⟨b, off + m, none⟩ := by unfold Addr.add; split <;> simp_all
set_option maxRecDepth 100000 in
theorem zz_of_trod {H : Type} {enc : TypeId × Value → H} {W : World} {base : Nat} {spare : Nat → Bool} {held : Bool} {r : Reach} {b0 : Nat} {v : Value} {d : DataW H} {p : List MemPlace} (hv : Value.okWide Tryz.prog W r b0 27 v) (h : DataW.Trod enc Tryz.prog W base spare held 27 v d p) :
    ∃ l A n c, v = .slice A n c ∧ Zz W l A n c := by
  obtain ⟨fuel, hf⟩ := h
  have k1 : Tryz.prog.cellsOf 3 = 1 := by kernel_rfl
  obtain ⟨A, n, c, rfl⟩ := okWide_slice Tryz.underlying27 hv
  rcases open_ints Tryz.underlying27 Tryz.underlying3 k1 hf with ⟨hcs, _⟩ | ⟨a, len, cap, zs, hcs, hb, hl, hm, hzl, hx, hi, hw⟩
  · have hcs : [Value.slice A n c] = [.slice none 0 0] := hcs
    injection hcs with hcs _
    injection hcs with h1 h2 h3
    subst h1 h2 h3
    exact ⟨[], none, 0, 0, rfl, rfl, Nat.zero_le _, .inl rfl, fun x hx => by cases hx⟩
  · have hcs : [Value.slice A n c] = [.slice (some a) len cap] := hcs
    injection hcs with hcs _
    injection hcs with h1 h2 h3
    subst h1 h2 h3
    have hlz : n ≤ zs.length := by rw [hzl]; split <;> omega
    refine ⟨zs.take n, some a, n, c, rfl, by rw [List.length_take]; omega, Nat.le_trans hl hm, ?_, fun x hx => i64_in64 (hw x (List.mem_of_mem_take hx))⟩
    by_cases hn : n = 0
    · subst hn; exact .inl rfl
    · have h00 := hi 0 (by omega)
      obtain ⟨b, off, spot⟩ := a
      have hspot : spot = none := by
        have := World.cell?_spot h00
        simpa [Addr.add] using this
      subst hspot
      refine .inr ⟨b, off, rfl, ?_, fun i hil => ?_⟩
      · rw [add_nn] at h00
        exact cell_lt h00
      · rw [Zs_length, List.length_take] at hil
        have h1 := hi i (by omega)
        rw [add_nn] at h1
        rw [h1]
        have : (Zs (zs.take n))[i]'(by rw [Zs_length, List.length_take]; exact hil) = .int .i64 (zs.getD i 0) := by
          simp only [Zs, List.getElem_map, List.getElem_take]
          rw [List.getD_eq_getElem?_getD, List.getElem?_eq_getElem (by omega)]; rfl
        rw [this]
end Go.Proofs.YtbicehdehiakgaaGreatDoor
namespace Go.Proofs.YtbicehdehiakgaaGreatDoor
open Go.RowKit
theorem bl_asym {a b : List UInt8} (h : Op.bytesLess a b = true) : Op.bytesLess b a = false ∧ (b == a) = false := by
  constructor
  · cases hb : Op.bytesLess b a
    · rfl
    · have := bl_trans a b a h hb
      rw [bl_irrefl] at this; cases this
  · rw [beq_eq_false_iff_ne]
    rintro rfl
    rw [bl_irrefl] at h; cases h
theorem mem_take_succ {α : Type} [DecidableEq α] (l : List α) (i : Nat) (hi : i < l.length) (x : α) : decide (x ∈ l.take (i + 1)) = (decide (x ∈ l.take i) || decide (l[i] = x)) := by
  rw [List.take_succ_eq_append_getElem hi, Bool.eq_iff_iff]
  simp only [decide_eq_true_eq, List.mem_append, List.mem_singleton, Bool.or_eq_true]
  exact ⟨fun h => h.imp id Eq.symm, fun h => h.imp id Eq.symm⟩
theorem ins_len (out : List Nd) (n : Nd) : (ins out n).length ≤ out.length + 1 := by
  unfold ins
  split
  · omega
  · simp only [List.length_append, List.length_take, List.length_drop, List.length_singleton]; omega
theorem refsE_len (e : List Nd) : (refsE e).length ≤ e.length := by
  have h : ∀ (l out : List Nd), (l.foldl ins out).length ≤ out.length + l.length := by
    intro l
    induction l with
    | nil => intro out; exact Nat.le_refl _
    | cons n l ih =>
      intro out
      have h1 := ih (ins out n)
      have h2 := ins_len out n
      rw [List.foldl_cons, List.length_cons]; omega
  unfold refsE
  split
  · have h1 := h (nmd e) []
    have h2 : (nmd e).length ≤ e.length := List.length_filter_le _ _
    unfold insL
    simp at h1; omega
  · simp
set_option maxRecDepth 100000 in
set_option maxHeartbeats 3200000 in
theorem exprRefs_core (l : List Int) (A1 : Option Addr) (l1 c1 : Nat) (w : World) (hL : LaidE w) (h1 : Zz w l A1 l1 c1) :
    Calls Tryz.prog 8 #[.slice A1 l1 c1] w fun e w' => e = .returned (.bool true) ∧ Below w.heap.size w w' := by
  have HL : Hid (∀ W, Below w.heap.size w W → LaidE W) := fun W hb => hL.below hb
  have H1 := Lib.hid h1
  have HCA := Lib.hid (madeE_check l)
  have HFA := Lib.hid (madeE_fine l)
  have HLN := (madeE_len l).1
  clear h1
  go_enter Tryz.func8, Tryz.ntmps8
  go_wp2_with fail
  refine (lsanity_any _ hL).mono ?_
  rintro e w1 ⟨rfl, hb1⟩
  go_wp2_with fail
  refine (made_es (H1.out.below hb1)).mono ?_
  rintro e w2 ⟨Aa, na, ca, rfl, ha, hb2⟩
  have hb2 := bstep hb1 hb2
  clear hb1
  generalize madeE l = xs at *
  obtain ⟨hst, hmem⟩ := refsE_spec HCA.out
  have HST := Lib.hid hst; have HMEM := Lib.hid hmem
  have HZR : Hid (∀ n ∈ refsE xs, n.num = zR ∧ n ∈ xs) := fun n hn => ⟨nmd_zr (checkE_wr HCA.out) n ((hmem n).1 hn), (List.mem_filter.1 ((hmem n).1 hn)).1⟩
  have HNM : Hid (∀ n ∈ xs, n.name = ⟨#[]⟩ ∨ n ∈ refsE xs) := by
    intro n hn
    cases h : (shp n.op).nam
    · exact .inl ((wrongN_parts (checkE_wr HCA.out n hn)).2.2.1 h)
    · exact .inr ((hmem n).2 (List.mem_filter.2 ⟨hn, h⟩))
  have hrl : (refsE xs).length ≤ 60 := Nat.le_trans (refsE_len xs) HLN
  clear hst hmem
  go_wp2_with fail
  refine (eRefs_any xs Aa na ca _ (HL.out _ hb2) ha HFA.out).mono ?_
  rintro e w3 ⟨Ab, nb, cb, rfl, hr, hb3⟩
  have ha := ha.below hb3
  have hb3 := bstep hb2 hb3
  clear hb2
  generalize refsE xs = rs at *
  obtain rfl : na = xs.length := ha.len
  obtain rfl : nb = rs.length := hr.len
  have HA := Lib.hid ha; have HR := Lib.hid hr; have HB := Lib.hid hb3
  clear ha hr hb3 HCA HFA
  go_wp2
  go_loopg [6] rs.length (fun g iv wr => ∃ k : Nat, k + g = rs.length ∧ iv = .int .i64 k ∧ Below w3.heap.size w3 wr)
  case atStart => exact ⟨0, by omega, rfl, Below.refl _ _⟩
  case round =>
    obtain ⟨k, hk, rfl, hbr⟩ := hrel
    by_cases hlt : k < rs.length
    · have hcur := HZR.out rs[k] (List.getElem_mem hlt)
      have hprev : ∀ j, k = j + 1 → ∀ (h : j < rs.length), befN rs[j] rs[k] = true := fun j hj h => List.pairwise_iff_getElem.1 HST.out j k h hlt (by omega)
      have HPV := Lib.hid hprev
      clear hprev
      obtain ⟨b, off, hA, hb, hc0, hc1, hc2, hc3, hc4⟩ := HR.out.rd.nd hlt
      subst hA
      obtain ⟨cur, hcq⟩ : ∃ cur, rs[k] = cur := ⟨_, rfl⟩
      rw [hcq] at hc0 hc1 hc2 hc3 hc4 hcur HPV
      obtain ⟨cop, ⟨cneg, cnum, cden⟩, cnm⟩ := cur
      obtain ⟨hz, hin⟩ := hcur
      unfold zR at hz
      injection hz with z1 z2 z3
      simp only at z1 z2 z3 hc0 hc1 hc2 hc3 hc4
      subst z1 z2 z3
      have HIN := Lib.hid hin
      have HCC : Hid (∀ W, Below w3.heap.size w3 W → W.cell? ⟨b, off + k * 5, none⟩ = some (.int .i64 cop) ∧ W.cell? ⟨b, off + k * 5 + 1, none⟩ = some (.bool false) ∧ W.cell? ⟨b, off + k * 5 + 2, none⟩ = some (.string ⟨#[]⟩) ∧ W.cell? ⟨b, off + k * 5 + 3, none⟩ = some (.string ⟨#[]⟩) ∧ W.cell? ⟨b, off + k * 5 + 4, none⟩ = some (.string cnm)) := fun W hW => ⟨(hW.cell hb).trans hc0, (hW.cell hb).trans hc1, (hW.cell hb).trans hc2, (hW.cell hb).trans hc3, (hW.cell hb).trans hc4⟩
      clear hc0 hc1 hc2 hc3 hc4 hin
      obtain ⟨hc0, hc1, hc2, hc3, hc4⟩ := HCC.out _ hbr
      rcases Nat.eq_zero_or_pos k with hk0 | hk0
      · subst hk0
        simp only [Nat.zero_mul, Nat.add_zero] at HCC hc0 hc1 hc2 hc3 hc4
        go_wp2
        go_quiet (fail)
        have HBR := Lib.hid (below_drewN hbr nq)
        clear hc0 hc1 hc2 hc3 hc4 hbr
        go_wp2
        go_loopg [7, 8] xs.length (fun g fv iv wq => ∃ (i : Nat) (fb : Bool), i + g = xs.length ∧ iv = .int .i64 i ∧ fv = .bool fb ∧ Hid (fb = decide ((⟨cop, ⟨false, ⟨#[]⟩, ⟨#[]⟩⟩, cnm⟩ : Nd) ∈ xs.take i)) ∧ Below w3.heap.size w3 wq)
        case atStart => exact ⟨0, false, by omega, rfl, rfl, by show _ = _; simp, HBR.out⟩
        case round =>
          obtain ⟨i, fb, hi, rfl, rfl, hfb, hbq⟩ := hrel
          by_cases hil : i < xs.length
          · have hil' : i < xs.length := hil
            obtain ⟨b2, off2, hA2, hb2, y0, y1, y2, y3, y4⟩ := HA.out.rd.nd hil
            subst hA2
            have HSU : Hid (decide ((⟨cop, ⟨false, ⟨#[]⟩, ⟨#[]⟩⟩, cnm⟩ : Nd) ∈ xs.take (i + 1)) = (fb || decide (xs[i] = (⟨cop, ⟨false, ⟨#[]⟩, ⟨#[]⟩⟩, cnm⟩ : Nd)))) := by show _ = _; rw [mem_take_succ xs i hil, hfb.out]
            have hq := fun W => eql_nd xs[i] (⟨cop, ⟨false, ⟨#[]⟩, ⟨#[]⟩⟩, cnm⟩ : Nd) W
            obtain ⟨dq, hdq⟩ : ∃ dq, decide (xs[i] = (⟨cop, ⟨false, ⟨#[]⟩, ⟨#[]⟩⟩, cnm⟩ : Nd)) = dq := ⟨_, rfl⟩
            rw [hdq] at hq HSU
            generalize xs[i] = x at *
            obtain ⟨xop, ⟨xneg, xnum, xden⟩, xnm⟩ := x
            unfold Nd.v at hq
            simp only at y0 y1 y2 y3 y4 hq
            have y0 := (hbq.cell hb2).trans y0
            have y1 := (hbq.cell hb2).trans y1
            have y2 := (hbq.cell hb2).trans y2
            have y3 := (hbq.cell hb2).trans y3
            have y4 := (hbq.cell hb2).trans y4
            obtain ⟨hd0, hd1, hd2, hd3, hd4⟩ := HCC.out _ hbq
            have HBQ := Lib.hid hbq
            clear hbq hfb hdq hb2
            cases fb
            · go_wp2
              go_quiet (fail)
              go_wp2
              go_roundg (xs.length - (i + 1))
              case measure => omega
              case rel => exact ⟨i + 1, dq, by omega, by go_num, rfl, by show _ = _; rw [HSU.out]; rfl, below_drewN HBQ.out _⟩
            · go_wp2
              go_quiet (fail)
              go_wp2
              go_roundg (xs.length - (i + 1))
              case measure => omega
              case rel => exact ⟨i + 1, true, by omega, by go_num, rfl, by show _ = _; rw [HSU.out]; rfl, below_drewN HBQ.out _⟩
          · obtain rfl : fb = true := by rw [hfb.out, List.take_of_length_le (by omega)]; exact decide_eq_true HIN.out
            have hx2 : decide (i < xs.length) = false := decide_eq_false hil
            have HBQ := Lib.hid hbq
            obtain ⟨hd0, hd1, hd2, hd3, hd4⟩ := HCC.out _ hbq
            clear hbq hfb
            go_wp2
            go_roundg (rs.length - (0 + 1))
            case measure => omega
            case rel => exact ⟨0 + 1, by omega, by go_num, HBQ.out⟩
      · obtain ⟨j, rfl⟩ : ∃ j, k = j + 1 := ⟨k - 1, by omega⟩
        have hjl : j < rs.length := by omega
        have hbf := HPV.out j rfl hjl
        rw [bef_iff] at hbf
        obtain ⟨b', off', hA', _, hp0, _, _, _, hp4⟩ := HR.out.rd.nd hjl
        injection hA' with hA'
        injection hA' with q1 q2
        subst q1 q2
        generalize rs[j] = prev at *
        obtain ⟨pop, pnum, pnm⟩ := prev
        simp only at hp0 hp4 hbf
        have hp0 := (hbr.cell hb).trans hp0
        have hp4 := (hbr.cell hb).trans hp4
        have hwj : IntKind.i64.wrap (((j + 1 : Nat) : Int) - 1) = j := by rw [IntWalk.i64_in _ (by omega)]; omega
        have hk1 : (0 : Int) < ((j + 1 : Nat) : Int) := by omega
        have hk2 : ((j + 1 : Nat) : Int) - 1 = j := by omega
        clear HPV
        rcases hbf with hlt2 | ⟨heq, hbl⟩
        · have g1 : decide (cop < pop) = false := by rw [decide_eq_false_iff_not]; omega
          have g2 : (cop == pop) = false := by rw [beq_eq_false_iff_ne]; omega
          have g3 : ¬ cop < pop := by omega
          clear hlt2
          go_wp2
          go_quiet (fail)
          have HBR := Lib.hid (below_drewN hbr nq)
          clear hp0 hp4 hc0 hc1 hc2 hc3 hc4 hbr
          go_wp2
          go_loopg [7, 8] xs.length (fun g fv iv wq => ∃ (i : Nat) (fb : Bool), i + g = xs.length ∧ iv = .int .i64 i ∧ fv = .bool fb ∧ Hid (fb = decide ((⟨cop, ⟨false, ⟨#[]⟩, ⟨#[]⟩⟩, cnm⟩ : Nd) ∈ xs.take i)) ∧ Below w3.heap.size w3 wq)
          case atStart => exact ⟨0, false, by omega, rfl, rfl, by show _ = _; simp, HBR.out⟩
          case round =>
            obtain ⟨i, fb, hi, rfl, rfl, hfb, hbq⟩ := hrel
            by_cases hil : i < xs.length
            · have hil' : i < xs.length := hil
              obtain ⟨b2, off2, hA2, hb2, y0, y1, y2, y3, y4⟩ := HA.out.rd.nd hil
              subst hA2
              have HSU : Hid (decide ((⟨cop, ⟨false, ⟨#[]⟩, ⟨#[]⟩⟩, cnm⟩ : Nd) ∈ xs.take (i + 1)) = (fb || decide (xs[i] = (⟨cop, ⟨false, ⟨#[]⟩, ⟨#[]⟩⟩, cnm⟩ : Nd)))) := by show _ = _; rw [mem_take_succ xs i hil, hfb.out]
              have hq := fun W => eql_nd xs[i] (⟨cop, ⟨false, ⟨#[]⟩, ⟨#[]⟩⟩, cnm⟩ : Nd) W
              obtain ⟨dq, hdq⟩ : ∃ dq, decide (xs[i] = (⟨cop, ⟨false, ⟨#[]⟩, ⟨#[]⟩⟩, cnm⟩ : Nd)) = dq := ⟨_, rfl⟩
              rw [hdq] at hq HSU
              generalize xs[i] = x at *
              obtain ⟨xop, ⟨xneg, xnum, xden⟩, xnm⟩ := x
              unfold Nd.v at hq
              simp only at y0 y1 y2 y3 y4 hq
              have y0 := (hbq.cell hb2).trans y0
              have y1 := (hbq.cell hb2).trans y1
              have y2 := (hbq.cell hb2).trans y2
              have y3 := (hbq.cell hb2).trans y3
              have y4 := (hbq.cell hb2).trans y4
              obtain ⟨hd0, hd1, hd2, hd3, hd4⟩ := HCC.out _ hbq
              have HBQ := Lib.hid hbq
              clear hbq hfb hdq hb2
              cases fb
              · go_wp2
                go_quiet (fail)
                go_wp2
                go_roundg (xs.length - (i + 1))
                case measure => omega
                case rel => exact ⟨i + 1, dq, by omega, by go_num, rfl, by show _ = _; rw [HSU.out]; rfl, below_drewN HBQ.out _⟩
              · go_wp2
                go_quiet (fail)
                go_wp2
                go_roundg (xs.length - (i + 1))
                case measure => omega
                case rel => exact ⟨i + 1, true, by omega, by go_num, rfl, by show _ = _; rw [HSU.out]; rfl, below_drewN HBQ.out _⟩
            · obtain rfl : fb = true := by rw [hfb.out, List.take_of_length_le (by omega)]; exact decide_eq_true HIN.out
              have hx2 : decide (i < xs.length) = false := decide_eq_false hil
              have HBQ := Lib.hid hbq
              obtain ⟨hd0, hd1, hd2, hd3, hd4⟩ := HCC.out _ hbq
              clear hbq hfb
              go_wp2
              go_roundg (rs.length - (j + 1 + 1))
              case measure => omega
              case rel => exact ⟨j + 1 + 1, by omega, by go_num, HBQ.out⟩
        · subst heq
          have g1 : ¬ pop < pop := by omega
          obtain ⟨g2, g3⟩ := bl_asym hbl
          rw [← Lib.toList_data, ← Lib.toList_data] at g2 g3
          clear hbl
          go_wp2
          go_quiet (fail)
          have HBR := Lib.hid (below_drewN hbr nq)
          clear hp0 hp4 hc0 hc1 hc2 hc3 hc4 hbr
          go_wp2
          go_loopg [7, 8] xs.length (fun g fv iv wq => ∃ (i : Nat) (fb : Bool), i + g = xs.length ∧ iv = .int .i64 i ∧ fv = .bool fb ∧ Hid (fb = decide ((⟨pop, ⟨false, ⟨#[]⟩, ⟨#[]⟩⟩, cnm⟩ : Nd) ∈ xs.take i)) ∧ Below w3.heap.size w3 wq)
          case atStart => exact ⟨0, false, by omega, rfl, rfl, by show _ = _; simp, HBR.out⟩
          case round =>
            obtain ⟨i, fb, hi, rfl, rfl, hfb, hbq⟩ := hrel
            by_cases hil : i < xs.length
            · have hil' : i < xs.length := hil
              obtain ⟨b2, off2, hA2, hb2, y0, y1, y2, y3, y4⟩ := HA.out.rd.nd hil
              subst hA2
              have HSU : Hid (decide ((⟨pop, ⟨false, ⟨#[]⟩, ⟨#[]⟩⟩, cnm⟩ : Nd) ∈ xs.take (i + 1)) = (fb || decide (xs[i] = (⟨pop, ⟨false, ⟨#[]⟩, ⟨#[]⟩⟩, cnm⟩ : Nd)))) := by show _ = _; rw [mem_take_succ xs i hil, hfb.out]
              have hq := fun W => eql_nd xs[i] (⟨pop, ⟨false, ⟨#[]⟩, ⟨#[]⟩⟩, cnm⟩ : Nd) W
              obtain ⟨dq, hdq⟩ : ∃ dq, decide (xs[i] = (⟨pop, ⟨false, ⟨#[]⟩, ⟨#[]⟩⟩, cnm⟩ : Nd)) = dq := ⟨_, rfl⟩
              rw [hdq] at hq HSU
              generalize xs[i] = x at *
              obtain ⟨xop, ⟨xneg, xnum, xden⟩, xnm⟩ := x
              unfold Nd.v at hq
              simp only at y0 y1 y2 y3 y4 hq
              have y0 := (hbq.cell hb2).trans y0
              have y1 := (hbq.cell hb2).trans y1
              have y2 := (hbq.cell hb2).trans y2
              have y3 := (hbq.cell hb2).trans y3
              have y4 := (hbq.cell hb2).trans y4
              obtain ⟨hd0, hd1, hd2, hd3, hd4⟩ := HCC.out _ hbq
              have HBQ := Lib.hid hbq
              clear hbq hfb hdq hb2
              cases fb
              · go_wp2
                go_quiet (fail)
                go_wp2
                go_roundg (xs.length - (i + 1))
                case measure => omega
                case rel => exact ⟨i + 1, dq, by omega, by go_num, rfl, by show _ = _; rw [HSU.out]; rfl, below_drewN HBQ.out _⟩
              · go_wp2
                go_quiet (fail)
                go_wp2
                go_roundg (xs.length - (i + 1))
                case measure => omega
                case rel => exact ⟨i + 1, true, by omega, by go_num, rfl, by show _ = _; rw [HSU.out]; rfl, below_drewN HBQ.out _⟩
            · obtain rfl : fb = true := by rw [hfb.out, List.take_of_length_le (by omega)]; exact decide_eq_true HIN.out
              have hx2 : decide (i < xs.length) = false := decide_eq_false hil
              have HBQ := Lib.hid hbq
              obtain ⟨hd0, hd1, hd2, hd3, hd4⟩ := HCC.out _ hbq
              clear hbq hfb
              go_wp2
              go_roundg (rs.length - (j + 1 + 1))
              case measure => omega
              case rel => exact ⟨j + 1 + 1, by omega, by go_num, HBQ.out⟩
    · have hx1 : decide (k < rs.length) = false := decide_eq_false hlt
      have HBR := Lib.hid hbr
      clear hbr HZR HST HMEM
      go_wp2
      go_loopg [9] xs.length (fun g iv wq => ∃ i : Nat, i + g = xs.length ∧ iv = .int .i64 i ∧ Below w3.heap.size w3 wq)
      case atStart => exact ⟨0, by omega, rfl, HBR.out⟩
      case round =>
        obtain ⟨i, hi, rfl, hbq⟩ := hrel
        by_cases hil : i < xs.length
        · have hnm := HNM.out xs[i] (List.getElem_mem hil)
          obtain ⟨b2, off2, hA2, hb2, y0, y1, y2, y3, y4⟩ := HA.out.rd.nd hil
          subst hA2
          obtain ⟨x, hx⟩ : ∃ x, xs[i] = x := ⟨_, rfl⟩
          rw [hx] at y0 y1 y2 y3 y4 hnm
          obtain ⟨xop, ⟨xneg, xnum, xden⟩, xnm⟩ := x
          simp only at y0 y1 y2 y3 y4 hnm
          obtain ⟨ne, hne⟩ : ∃ ne, decide (xnm = ⟨#[]⟩) = ne := ⟨_, rfl⟩
          have n1 : (xnm.toList == (⟨#[]⟩ : ByteArray).toList) = ne := by rw [beq_toList, hne]
          have n3 : xnm.toList.isEmpty = ne := by
            rw [← hne, Bool.eq_iff_iff, emp_nil, decide_eq_true_eq]
          have n2 : (xnm.toList == []) = ne := by rw [← n3]; cases xnm.toList <;> rfl
          have HNE : Hid (ne = true ∨ (⟨xop, ⟨xneg, xnum, xden⟩, xnm⟩ : Nd) ∈ rs) := hnm.imp (fun h => by rw [← hne]; exact decide_eq_true h) id
          have HYY : Hid (∀ W, Below w3.heap.size w3 W → W.cell? ⟨b2, off2 + i * 5, none⟩ = some (.int .i64 xop) ∧ W.cell? ⟨b2, off2 + i * 5 + 1, none⟩ = some (.bool xneg) ∧ W.cell? ⟨b2, off2 + i * 5 + 2, none⟩ = some (.string xnum) ∧ W.cell? ⟨b2, off2 + i * 5 + 3, none⟩ = some (.string xden) ∧ W.cell? ⟨b2, off2 + i * 5 + 4, none⟩ = some (.string xnm)) := fun W hW => ⟨(hW.cell hb2).trans y0, (hW.cell hb2).trans y1, (hW.cell hb2).trans y2, (hW.cell hb2).trans y3, (hW.cell hb2).trans y4⟩
          clear y0 y1 y2 y3 y4 hnm hne
          obtain ⟨y0, y1, y2, y3, y4⟩ := HYY.out _ hbq
          have HBQ := Lib.hid hbq
          clear hbq
          go_wp2
          clear n1 n2 n3
          go_loopg [10, 11] rs.length (fun g fv kv wz => ∃ (j : Nat) (fb : Bool), j + g = rs.length ∧ kv = .int .i64 j ∧ fv = .bool fb ∧ Hid (fb = (ne || decide ((⟨xop, ⟨xneg, xnum, xden⟩, xnm⟩ : Nd) ∈ rs.take j))) ∧ Below w3.heap.size w3 wz)
          case atStart => exact ⟨0, ne, by omega, rfl, rfl, by show _ = _; simp, HBQ.out⟩
          case round =>
            obtain ⟨j, fb, hj, rfl, rfl, hfb, hbz⟩ := hrel
            by_cases hjl : j < rs.length
            · obtain ⟨b3, off3, hA3, hb3, v0, v1, v2, v3, v4⟩ := HR.out.rd.nd hjl
              subst hA3
              have HSU : Hid ((ne || decide ((⟨xop, ⟨xneg, xnum, xden⟩, xnm⟩ : Nd) ∈ rs.take (j + 1))) = (fb || decide ((⟨xop, ⟨xneg, xnum, xden⟩, xnm⟩ : Nd) = rs[j]))) := by
                show _ = _
                rw [mem_take_succ rs j hjl, hfb.out, Bool.or_assoc]
                congr 2
                rw [decide_eq_decide]; exact eq_comm
              have hq := fun W => eql_nd ⟨xop, ⟨xneg, xnum, xden⟩, xnm⟩ rs[j] W
              obtain ⟨dq, hdq⟩ : ∃ dq, decide ((⟨xop, ⟨xneg, xnum, xden⟩, xnm⟩ : Nd) = rs[j]) = dq := ⟨_, rfl⟩
              rw [hdq] at hq HSU
              generalize rs[j] = y at *
              obtain ⟨yop, ⟨yneg, ynum, yden⟩, ynm⟩ := y
              unfold Nd.v at hq
              simp only at v0 v1 v2 v3 v4 hq
              have v0 := (hbz.cell hb3).trans v0
              have v1 := (hbz.cell hb3).trans v1
              have v2 := (hbz.cell hb3).trans v2
              have v3 := (hbz.cell hb3).trans v3
              have v4 := (hbz.cell hb3).trans v4
              obtain ⟨y0, y1, y2, y3, y4⟩ := HYY.out _ hbz
              have HBZ := Lib.hid hbz
              clear hbz hfb hdq hb3
              cases fb
              · go_wp2
                go_quiet (fail)
                go_wp2
                go_roundg (rs.length - (j + 1))
                case measure => omega
                case rel => exact ⟨j + 1, dq, by omega, by go_num, rfl, by show _ = _; rw [HSU.out]; rfl, below_drewN HBZ.out _⟩
              · go_wp2
                go_quiet (fail)
                go_wp2
                go_roundg (rs.length - (j + 1))
                case measure => omega
                case rel => exact ⟨j + 1, true, by omega, by go_num, rfl, by show _ = _; rw [HSU.out]; rfl, below_drewN HBZ.out _⟩
            · obtain rfl : fb = true := by
                rw [hfb.out, List.take_of_length_le (by omega)]
                rcases HNE.out with h | h
                · rw [h]; rfl
                · rw [decide_eq_true h, Bool.or_true]
              have hx3 : decide (j < rs.length) = false := decide_eq_false hjl
              have HBZ := Lib.hid hbz
              clear hbz hfb
              go_wp2
              go_roundg (xs.length - (i + 1))
              case measure => omega
              case rel => exact ⟨i + 1, by omega, by go_num, HBZ.out⟩
        · have hx3 : decide (i < xs.length) = false := decide_eq_false hil
          have HBQ := Lib.hid hbq
          clear hbq
          go_wp2
          go_ret
          exact ⟨rfl, HB.out.trans (HBQ.out.mono HB.out.size)⟩
end Go.Proofs.YtbicehdehiakgaaGreatDoor
namespace Go.Proofs.YtbicehdehiakgaaGreatDoor
open Go.ChangeShapes Go.WideShapes Go.ChangeAt Go.RowKit
theorem exprRefs_types : ∀ t ∈ Tryz.f8.params.toList, Tryz.prog.readableRec t = true ∧ t < Tryz.prog.types.size := by
  have hall : ([27].all fun t => Tryz.prog.readableRec t && decide (t < Tryz.prog.types.size)) = true := by kernel_rfl
  rw [Tryz.params8]
  intro t ht
  have hm : t ∈ [27] := by simpa using ht
  simpa using List.all_eq_true.1 hall t hm
set_option maxRecDepth 100000 in
theorem exprRefs_lifted (os : Os) (started : os.Started) (H : Type) (enc : TypeId × Value → H) :
    ReturnsInHanded {} Tryz.checked os 8 .any (fun w args => (Rows.exprRefsSpec.pre enc Tryz.prog Tryz.f8 [] false w args ∧ laidMetH Tryz.prog lds w) ∧ sizedMet enc Tryz.prog Tryz.f8 (OpenSpec.ofChange Rows.exprRefsSpec) false w args)
      (Rows.exprRefsSpec.post enc Tryz.prog Tryz.f8 false true false false) := by
  refine returns_shaped (C := Tryz.checked) (X := fun w _ => laidMetH Tryz.prog lds w) (fun _ _ _ hh h => h.of_heap hh) Tryz.own started (by kernel_rfl) Tryz.func8
    (ChangeSpec.witness_shaped (enc := enc) (C := Tryz.checked) (os := os) (X := fun w _ => laidMetH Tryz.prog lds w) false (World.laidAll Tryz.prog os lds) #[.slice none 0 0] 8 (World.laidAll_os _ _ _)
      (World.shaped_of_ZipB (by kernel_rfl) (by kernel_rfl)) (by kernel_rfl) (by kernel_rfl) (by kernel_rfl) (world_met os _)) ?_
  intro W base args ds gs before hval0 hW hL hsh
  have hval : ∀ (j : Nat) t v, Tryz.f8.params[j]? = some t → args[j]? = some v → Value.okWide Tryz.prog W .any base t v := hval0
  have hW' : DataW.Whole enc Tryz.prog Tryz.f8.params.toList Rows.exprRefsSpec.vars false W args.toList ds gs before := hW
  obtain ⟨p, q, hA0, hV, rfl, _, _⟩ := hW
  have hA : DataW.TrodAll enc Tryz.prog W 0 (fun _ => true) true Tryz.f8.params.toList args.toList ds p := hA0
  rw [Tryz.params8] at hA hval
  obtain ⟨v0, d0, rfl, rfl, h0⟩ := trodAll_one hA
  obtain ⟨rfl, rfl⟩ := trodVars_none hV
  obtain ⟨l, A1, n1, c1, rfl, hE1⟩ := zz_of_trod (hval 0 27 v0 rfl rfl) h0
  refine (exprRefs_core l A1 n1 c1 W (laidE_of hL hsh) hE1).mono fun e W' ⟨he, hb⟩ => ?_
  subst he
  exact ⟨_, rfl, post_true (H := H) (enc := enc) (P := Tryz.prog) (f := Tryz.f8) (s := Rows.exprRefsSpec) (tb := 4) Tryz.laidOut rfl rfl rfl Tryz.underlying4 exprRefs_types hW' hb⟩
theorem exprRefs_holds : Rows.ExprRefsSaid :=
  OpenClaim.holds_of_wide 8 Tryz.f8 rfl rfl rfl rfl rfl rfl rfl ⟨rfl, rfl, rfl, rfl, rfl⟩ rfl rfl rfl rfl rfl (by kernel_rfl) Tryz.func8 (by kernel_rfl)
    (of_decide_eq_true (by kernel_rfl)) (by unfold Func.isWrapper; first | (rw [if_pos (by decide +kernel)]; kernel_rfl) | (rw [if_neg (by decide +kernel)]; exact ⟨rfl, rfl⟩))
    (fun os started H enc _ => exprRefs_lifted os started H enc)
theorem exprRefs_card : Rows.ExprRefsCardSaid :=
  Claim7.holds_tied_plain_at .later [] [.data, .data, .data, .data, .sentinel, .sentinel, .widerDeep, .pinned] true Rows.exprRefsCard.stood.harness true
    exprRefs_holds (fun _ h => by cases h) (by kernel_rfl) (fun _ h => by cases h) exprRefs_row_tie rfl ⟨rfl, rfl⟩ (by kernel_rfl) rfl
    (fun f fn hf hfn => by
      obtain rfl : f = 8 := Option.some.inj ((show Tryz.prog.funcNamed "tithing/tithinglaw07.ExprRefs" = some 8 by kernel_rfl).symm.trans hf) |>.symm
      obtain rfl : fn = Tryz.f8 := (Option.some.inj (Tryz.func8.symm.trans hfn)).symm
      exact ⟨by kernel_rfl, fun j t ht => by
        rw [Tryz.params8] at ht
        have hm : t ∈ [27] := by simpa using Array.mem_of_getElem? ht
        have hall : ([27].all fun u => !Tryz.prog.wantsStandIn u) = true := by kernel_rfl
        exact (show Tryz.prog.wantsStandIn t = false by simpa using List.all_eq_true.1 hall t hm)⟩)
    (by kernel_rfl)
#print axioms exprRefs_card
end Go.Proofs.YtbicehdehiakgaaGreatDoor
