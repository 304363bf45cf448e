/- A part of the proof: G8 G9. -/
import Derived.Maps.AppendAt
import Derived.Test.YtbicehdehiakgaaGreatDoorC28
import Derived.Test.YtbicehdehiakgaaGreatDoorC29
set_option linter.unusedVariables false
set_option linter.unusedSimpArgs false
namespace Go.Proofs.YtbicehdehiakgaaGreatDoor
open Go.RowKit
section
variable {P : Program}
end
theorem own_apart {w : World} {b1 b2 : Nat} {e1 e2 : TypeId} {s1 s2 : Nat} {v1 v2 : Value} {n1 n2 : Nat} {x1 x2 : List Value} (h1 : w.ownsRow b1 e1 s1 v1 n1 x1) (h2 : w.ownsRow b2 e2 s2 v2 n2 x2) (he : e1 ≠ e2) : v1.ownBlock = none ∨ v1.ownBlock ≠ v2.ownBlock := by
  rcases h1.2 with ⟨rfl, _⟩ | ⟨g, cap, cur, rfl, _, hh, _⟩
  · exact .inl rfl
  · refine .inr ?_
    rcases h2.2 with ⟨rfl, _⟩ | ⟨g', cap', cur', rfl, _, hh', _⟩
    · intro h; cases h
    · intro h
      have : g = g' := by simpa [Value.ownBlock] using h
      subst this
      rw [hh] at hh'
      injection hh' with hh'; injection hh' with _ ht
      exact he ht
end Go.Proofs.YtbicehdehiakgaaGreatDoor
namespace Go.Proofs.YtbicehdehiakgaaGreatDoor
open Go.RowKit
set_option maxRecDepth 100000 in
set_option maxHeartbeats 3200000 in
theorem gArgs_any (es : List Nd) (A1 : Option Addr) (l1 c1 : Nat) (w : World) (h1 : Es w es A1 l1 c1) (hf1 : ∀ n ∈ es, Fine n) :
    Calls Tryz.prog 41 #[.slice A1 l1 c1] w (RetArgs (checkE es == 0) (if checkE es = 0 then argsE es else []) w) := by
  have HC := Lib.hid (gCheck_any es A1 l1 c1 w h1.len h1.cap h1.max h1.rd hf1)
  have H1 := Lib.hid h1
  by_cases hz : checkE es = 0
  · have hk := ((checkE_iff es).1 hz).1
    rw [← h1.len] at hk
    have hch : chk es 0 = 0 := by
      have := hz
      unfold checkE at this
      rwa [if_neg (by have := h1.len; omega)] at this
    have HCH := Lib.hid hch
    rw [hz] at HC ⊢
    rw [if_pos rfl]
    clear hz h1 hf1 hch
    go_enter Tryz.func41, Tryz.ntmps41
    go_wp2_with fail
    refine HC.out.mono ?_
    rintro e w1 ⟨rfl, hb1⟩
    go_wp2
    go_loopg [5, 6, 7] l1 (fun g ov sv iv wr => ∃ (k : Nat) (st : List Nat) (done : List (List Nat)) (cs : List Value) (A : Option Addr) (cp : Nat), k + g = l1 ∧ iv = .int .i64 k ∧ sv = .slice A st.length cp ∧ st.length ≤ k ∧
      Hid (wr.ownsRow w.heap.size 27 1 ov k cs) ∧ Hid (wr.ownsRow w.heap.size 3 1 (.slice A st.length cp) st.length (I st)) ∧ Hid (argsE es = done ++ runA (es.drop k) k st.reverse) ∧
      Hid (LL wr (fun g => (Value.slice A st.length cp).ownBlock = some g ∨ ov.ownBlock = some g) done cs) ∧ Hid (chk (es.drop k) st.length = 0) ∧ Hid (done.length = k) ∧ Below w.heap.size w wr)
    case atStart =>
      refine ⟨0, [], [], [], none, 0, by omega, rfl, rfl, by simp, World.ownsRow_nil _ _ _ _, World.ownsRow_nil _ _ _ _, rfl, ?_, HCH.out, rfl, hb1⟩
      exact ⟨rfl, fun i l h => by simp at h⟩
    case round =>
      obtain ⟨k, st, done, cs, A, cp, hk', rfl, rfl, hstk, hoo, hos, har, hll, hck, hdl, hbr⟩ := hrel
      clear hb1
      by_cases hlt : k < l1
      · have hke : k < es.length := by rw [← H1.out.len]; exact hlt
        obtain ⟨b, off, hA, hb, hc0, _⟩ := (H1.out.rd.below hbr).nd hke
        subst hA
        have hcons := List.drop_eq_getElem_cons hke
        have hck2 := hck.out
        rw [hcons] at hck2
        obtain ⟨_, hops, hck3⟩ := chk_zero hck2
        have har2 : Hid (argsE es = done ++ (((st.reverse.take (shp es[k].op).ops).reverse) :: runA (es.drop (k + 1)) (k + 1) (k :: st.reverse.drop (shp es[k].op).ops))) := by
          show _ = _; rw [har.out, hcons, runA]
        have HAR := Lib.hid (fun W => gArity_any es[k].op W)
        generalize (shp es[k].op).ops = o at *
        generalize es[k].op = op at *
        have HCK := Lib.hid hck3
        clear hcons hck2 hck hck3 har
        have hro := rev_take st o hops
        rw [hro.1, hro.2] at har2
        have hrest : IntKind.i64.wrap ((st.length : Int) - o) = ((st.length - o : Nat) : Int) := by rw [IntWalk.i64_in _ (by omega)]; omega
        obtain ⟨rst, hrst⟩ : ∃ rst, st.length - o = rst := ⟨_, rfl⟩
        have hrs1 : rst + o = st.length := by omega
        have hrs2 : (st.length : Int) - o = (rst : Int) := by omega
        rw [hrst] at har2 hrest
        have HRST := Lib.hid hrst
        clear hro hrst
        go_wp2_with fail
        refine (HAR.out _).mono ?_
        rintro e w2 ⟨rfl, rfl⟩
        obtain ⟨W0, rfl⟩ : ∃ W0 : World, W0 = wr := ⟨_, rfl⟩
        have hrd0 : Rd W0 A (I st) := by
          obtain ⟨A', cp', hv, _, _, hr, _⟩ := own_rd hos.out
          injection hv with e1 e2 e3
          subst e1; exact hr
        have hcps : st.length ≤ cp ∧ cp ≤ maxLen := by
          obtain ⟨A', cp', hv, a1, a2, hr, _⟩ := own_rd hos.out
          injection hv with e1 e2 e3
          subst e3; exact ⟨a1, a2⟩
        obtain ⟨hcp1, hcp2⟩ := hcps
        unfold maxLen at hcp2
        have HRD := Lib.hid hrd0
        clear hrd0
        go_wp2
        go_loopg [9, 10] o (fun g ov iv wq => ∃ j : Nat, j + g = o ∧ iv = .int .i64 ((rst : Int) + (j : Int)) ∧ Hid (wq.ownsRow W0.heap.size 3 1 ov j (I ((st.drop rst).take j))) ∧ Below W0.heap.size W0 wq)
        case atStart => exact ⟨0, by omega, by simp, World.ownsRow_nil _ _ _ _, Below.refl _ _⟩
        case round =>
          obtain ⟨j, hj, rfl, how, hbq⟩ := hrel
          by_cases hjo : j < o
          · have hj1 : (rst : Int) + j < st.length := by omega
            have hj2 : 0 ≤ (rst : Int) + j := by omega
            have hj3 : ((rst : Int) + j).toNat = rst + j := by omega
            obtain ⟨b2, off2, hA2, hb2, hcc⟩ := (HRD.out.below hbq).at_ (k := rst + j) (by rw [I_length]; omega)
            subst hA2
            have hcell := hcc (rst + j) (by rw [I_length]; omega)
            rw [I_get] at hcell
            have hT : Hid (I ((st.drop rst).take (j + 1)) = I ((st.drop rst).take j) ++ [.int .i64 (st.getD (rst + j) 0 : Nat)]) := by
              show _ = _
              rw [List.take_succ_eq_append_getElem (by rw [List.length_drop]; omega), I, List.map_append, List.map_singleton, List.getElem_drop, List.getD_eq_getElem?_getD, List.getElem?_eq_getElem (by omega)]
              rfl
            generalize st.getD (rst + j) 0 = x at *
            have HBQ := Lib.hid hbq
            clear hcc hb2 hbq
            go_wp2_with (at_builtin; go_must (refine wpList_push wr #[.int .i64 (x : Int)] rfl _ _ 27 rfl W0.heap.size 3 (.int .i64 0) 1 8 1 Tryz.underlying27 info_int rfl (by decide) u9 j _ rfl how.out rfl rfl ?_ ?_ ?_ ?_ ?_))
            any_goals first | rfl | (unfold maxLen; omega) | omega
            · exact HBQ.out.size
            intro v' w' hown' hb'
            have HOWN : Hid (w'.ownsRow W0.heap.size 3 1 v' (j + 1) (I ((st.drop rst).take (j + 1)))) := by show World.ownsRow _ _ _ _ _ _ _; rw [hT.out]; exact hown'
            have HB := Lib.hid (HBQ.out.trans hb')
            clear hown' hb'
            go_wp2
            go_roundg (o - (j + 1))
            case measure => omega
            case rel => exact ⟨j + 1, by omega, by first | go_num | (congr 1; omega), HOWN, HB.out⟩
          · have hjo' : j = o := by omega
            have hx1 : decide ((rst : Int) + j < st.length) = false := by rw [decide_eq_false_iff_not]; omega
            have hro : (st.drop rst).take j = st.drop rst := List.take_of_length_le (by rw [List.length_drop]; omega)
            have how2 := how.out
            rw [hro, show j = (st.drop rst).length from by rw [List.length_drop]; omega] at how2
            have har3 := har2.out
            obtain ⟨l9, hl9⟩ : ∃ l9, st.drop rst = l9 := ⟨_, rfl⟩
            rw [hl9] at how2 har3
            have HAR3 := Lib.hid har3
            have hs2 := own_below hos.out hbq
            have hs3 := own_cut hs2 (show rst ≤ st.length from by omega)
            rw [I_take] at hs3
            have ho2 := own_below hoo.out hbq
            have hll2 := hll.out.below hbq
            have hrow : Row1 wr (fun g => (Value.slice A st.length cp).ownBlock = some g ∨ u5.ownBlock = some g) u9 l9 :=
              own_row how2 (fun g hg => by
                rcases hg with hg | hg
                · exact (hos.out.lt g hg).2
                · exact (hoo.out.lt g hg).2)
            have hbw : Below w.heap.size w wr := hbr.trans (hbq.mono hbr.size)
            have HS3 := Lib.hid hs3; have HO2 := Lib.hid ho2; have HLL2 := Lib.hid hll2; have HROW := Lib.hid hrow; have HBW := Lib.hid hbw
            have hrsc : rst ≤ cp := by omega
            have hkk : k ≤ 60 := by omega
            obtain ⟨A9, c9, hu9, _⟩ := hrow
            subst hu9
            clear har3 hl9 har2 hro how2 hs2 hs3 ho2 hll2 hbw hos hoo hll how hbq hbr HRD
            go_wp2_with (at_builtin; go_must (refine wpList_push_at wr #[.int .i64 (k : Int)] rfl _ _ 27 rfl w.heap.size 3 (.int .i64 0) 1 8 1 Tryz.underlying27 info_int rfl (by decide) (.slice A rst cp) rst _ rfl HS3.out rfl rfl ?_ ?_ ?_ ?_ ?_))
            any_goals first | rfl | (unfold maxLen; omega) | omega
            · exact HBW.out.size
            intro v1 w2 hown1 hg1 hv1
            have hb1 : Below w.heap.size w w2 := HBW.out.grown hg1 HBW.out.size (fun g hg => (HS3.out.lt g hg).1)
            have hown1' : w2.ownsRow w.heap.size 3 1 v1 (rst + 1) (I (st.take rst ++ [k])) := by rw [← I_snoc]; exact hown1
            have ho3 := HO2.out.kept hg1 (own_apart HO2.out HS3.out (by decide))
            have hX1 : ∀ g, (v1.ownBlock = some g ∨ u5.ownBlock = some g) → (((Value.slice A st.length cp).ownBlock = some g ∨ u5.ownBlock = some g) ∨ wr.heap.size ≤ g) := fun g hg => by
              rcases hg with hg | hg
              · rcases hv1 g hg with h | h
                · exact .inl (.inl ((blk_same _ _ _ _ _).trans h))
                · exact .inr h
              · exact .inl (.inr hg)
            have hrow2 := HROW.out.step hg1 (fun g hg => .inl ((blk_same _ _ _ _ _).trans hg)) hX1
            have hll3 := (HLL2.out.step hg1 (fun g hg => .inl ((blk_same _ _ _ _ _).trans hg)) hX1).snoc hrow2
            have HB1 := Lib.hid hb1; have HS4 := Lib.hid hown1'; have HO3 := Lib.hid ho3; have HLL3 := Lib.hid hll3
            clear hb1 hown1 hown1' hg1 hv1 ho3 hX1 hrow2 hll3 HS3 HO2 HLL2 HROW HBW
            go_wp2_with (at_builtin; go_must (refine wpList_push_at w2 #[.slice A9 l9.length c9] rfl _ _ 45 rfl w.heap.size 27 (.slice none 0 0) 1 24 1 Tryz.underlying45 info_ints rfl (by decide) u5 k cs rfl HO3.out rfl rfl ?_ ?_ ?_ ?_ ?_))
            any_goals first | rfl | (unfold maxLen; omega) | omega
            · exact HB1.out.size
            intro v2 w3 hown2 hg2 hv2
            have hb2 : Below w.heap.size w w3 := HB1.out.grown hg2 HB1.out.size (fun g hg => (HO3.out.lt g hg).1)
            have hs5 := HS4.out.kept hg2 (own_apart HS4.out HO3.out (by decide))
            have hll4 := HLL3.out.step (X' := fun g => v1.ownBlock = some g ∨ v2.ownBlock = some g) hg2 (fun g hg => .inr hg) (fun g hg => by
              rcases hg with hg | hg
              · exact .inl (.inl hg)
              · rcases hv2 g hg with h | h
                · exact .inl (.inr h)
                · exact .inr h)
            have hsl : (st.take rst ++ [k]).length = rst + 1 := by rw [List.length_append, List.length_take]; simp; omega
            obtain ⟨A', cp', rfl, _, _, _, _⟩ := own_rd hs5
            rw [← hsl] at hs5 hll4
            have HB2 := Lib.hid hb2; have HS5 := Lib.hid hs5; have HLL4 := Lib.hid hll4; have HO5 : Hid (w3.ownsRow w.heap.size 27 1 v2 (k + 1) (cs ++ [.slice A9 l9.length c9])) := hown2
            have HSL := Lib.hid hsl
            clear hb2 hown2 hg2 hv2 hs5 hll4 HB1 HS4 HO3 HLL3 hsl
            go_wp2
            go_roundg (l1 - (k + 1))
            case measure => omega
            case rel =>
              refine ⟨k + 1, st.take rst ++ [k], done ++ [l9], cs ++ [.slice A9 l9.length c9], A', cp', by omega, by go_num, by rw [HSL.out], by rw [HSL.out]; omega, HO5, HS5, ?_, HLL4, ?_, ?_, HB2.out⟩
              · show _ = _
                rw [HAR3.out, List.reverse_append, List.append_assoc]; rfl
              · show _ = _
                rw [HSL.out, ← HRST.out]; exact HCK.out
              · show _ = _
                rw [List.length_append, hdl.out]; rfl
      · have hkl : k = l1 := by omega
        have har2 : Hid (argsE es = done) := by
          show _ = _
          rw [har.out, hkl, H1.out.len, List.drop_length]; simp [runA]
        obtain ⟨Ao, co, rfl, g1, g2, g3, g4⟩ := own_rd hoo.out
        have hll2 : LL wr (fun _ => False) done cs := hll.out.step (below_grown (Below.refl _ _)) (fun g h => by cases h) (fun g h => h.elim)
        have HLL2 := Lib.hid hll2; have G3 := Lib.hid g3
        have hx1 : decide (k < l1) = false := decide_eq_false hlt
        clear hll2 g3 g4 hoo hos hll hck har
        go_wp2
        go_ret2
        refine ⟨Ao, k, co, rfl, ⟨?_, g1, g2, cs, G3.out, ?_⟩, hbr⟩
        · rw [har2.out, hdl.out]
        · rw [har2.out]; exact HLL2.out
  · rw [if_neg hz]
    obtain ⟨zz, hzz⟩ : ∃ zz, checkE es = zz := ⟨_, rfl⟩
    rw [hzz] at hz HC ⊢
    have e1 : (zz != 0) = true := by simp [hz]
    have e2 : (zz == 0) = false := by simp [hz]
    rw [e2]
    clear hz h1 hf1 hzz
    go_enter Tryz.func41, Tryz.ntmps41
    go_wp2_with fail
    refine HC.out.mono ?_
    rintro e w1 ⟨rfl, hb1⟩
    go_wp2
    go_ret2
    exact RetArgs.bad hb1
end Go.Proofs.YtbicehdehiakgaaGreatDoor
