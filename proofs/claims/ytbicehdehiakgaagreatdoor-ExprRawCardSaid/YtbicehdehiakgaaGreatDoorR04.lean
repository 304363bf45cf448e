/- For every two lists of nodes tithinglaw07.ExprRaw returns true, and its arguments read afterwards as they did. Conditions: the package-level variables that the row lists hold what the program's own text lays in them. -/
import Derived.SevenTiedAt
import Derived.Deep.Slices
import Derived.Test.YtbicehdehiakgaaGreatDoorTie
import Derived.Test.YtbicehdehiakgaaGreatDoorCards
import Derived.Test.YtbicehdehiakgaaGreatDoorC31
import Derived.Test.YtbicehdehiakgaaGreatDoorR00
import Derived.Test.YtbicehdehiakgaaGreatDoorR01
import Derived.Test.YtbicehdehiakgaaGreatDoorR02
import Derived.Test.YtbicehdehiakgaaGreatDoorR03
set_option linter.unusedVariables false
set_option linter.unusedSimpArgs false
namespace Go.Proofs.YtbicehdehiakgaaGreatDoor
open Go.ChangeShapes Go.WideShapes Go.ChangeAt Go.RowKit Go.Deep
theorem len5 {α : Type} : ∀ {l : List α}, l.length = 5 → ∃ a b c d e, l = [a, b, c, d, e]
  | [a, b, c, d, e], _ => ⟨a, b, c, d, e, rfl⟩
theorem len3 {α : Type} : ∀ {l : List α}, l.length = 3 → ∃ a b c, l = [a, b, c]
  | [a, b, c], _ => ⟨a, b, c, rfl⟩
theorem add_none (b off m : Nat) : (⟨b, off, none⟩ : Addr).add m = ⟨b, off + m, none⟩ := by unfold Addr.add; split <;> simp_all
set_option maxRecDepth 100000 in
theorem nd_of_trod {H : Type} {enc : TypeId × Value → H} {w : World} {base : Nat} {spare : Nat → Bool} {held : Bool} {fuel : Nat} {cs : List Value} {x : DataW H × List MemPlace} (h : DataW.trod enc Tryz.prog w base spare held fuel 33 cs = some x) : ∃ n : Nd, cs = n.cells := by
  have k0 : Tryz.prog.cellsOf 9 = 1 := by kernel_rfl
  have k1 : Tryz.prog.cellsOf 3 = 1 := by kernel_rfl
  have k2 : Tryz.prog.cellsOf 4 = 1 := by kernel_rfl
  have k3 : Tryz.prog.cellsOf 31 = 3 := by kernel_rfl
  have k4 : Tryz.prog.cellsOf 29 = 1 := by kernel_rfl
  have k5 : Tryz.prog.cellsOf 33 = 5 := by kernel_rfl
  obtain ⟨ys, n', _, ey, hyc, hyl, hf⟩ := DataW.trod_struct Tryz.underlying33 h
  rw [k5] at hyc
  obtain ⟨y0, y1, y2, rfl⟩ := len3 hyl
  obtain ⟨c0, c1, c2, c3, c4, rfl⟩ := len5 hyc
  have f0 := hf 0 _ rfl
  have f1 := hf 1 _ rfl
  have f2 := hf 2 _ rfl
  simp only [List.getElem_toArray, List.getElem_cons_zero, List.getElem_cons_succ, k0, k1, k3, List.drop_zero, List.take_succ_cons, List.take_zero, List.drop_succ_cons, List.getElem?_cons_zero, List.getElem?_cons_succ] at f0 f1 f2
  obtain ⟨op, a0, _, _⟩ := DataW.trod_int Tryz.underlying3 f0
  obtain ⟨nm, a4, _, _⟩ := DataW.trod_string Tryz.underlying9 f2
  obtain ⟨zs, n2, _, ez, hzc, hzl, hg⟩ := DataW.trod_struct Tryz.underlying31 f1
  obtain ⟨z0, z1, z2, rfl⟩ := len3 hzl
  have g0 := hg 0 _ rfl
  have g1 := hg 1 _ rfl
  have g2 := hg 2 _ rfl
  simp only [List.getElem_toArray, List.getElem_cons_zero, List.getElem_cons_succ, k2, k4, List.drop_zero, List.take_succ_cons, List.take_zero, List.drop_succ_cons, List.getElem?_cons_zero, List.getElem?_cons_succ] at g0 g1 g2
  obtain ⟨neg, a1, _⟩ := DataW.trod_bool Tryz.underlying4 g0
  obtain ⟨num, a2, _, _⟩ := DataW.trod_string Tryz.underlying29 g1
  obtain ⟨den, a3, _, _⟩ := DataW.trod_string Tryz.underlying29 g2
  injection a0 with a0; injection a1 with a1; injection a2 with a2; injection a3 with a3; injection a4 with a4
  subst a0 a1 a2 a3 a4
  exact ⟨⟨op, ⟨neg, num, den⟩, nm⟩, rfl⟩
set_option maxRecDepth 100000 in
theorem es_of_trod {H : Type} {enc : TypeId × Value → H} {W : World} {base : Nat} {spare : Nat → Bool} {held : Bool} {r : Reach} {b0 : Nat} {v : Value} {d : DataW H} {p : List MemPlace} (hv : Value.okWide Tryz.prog W r b0 22 v) (h : DataW.Trod enc Tryz.prog W base spare held 22 v d p) :
    ∃ es A n c, v = .slice A n c ∧ Es W es A n c := by
  obtain ⟨fuel, hf⟩ := h
  have k5 : Tryz.prog.cellsOf 33 = 5 := by kernel_rfl
  obtain ⟨A, n, c, rfl⟩ := okWide_slice Tryz.underlying22 hv
  rcases open_slice Tryz.underlying22 hf with ⟨hcs, _⟩ | ⟨a, len, cap, m, n', D, Pl, hcs, hb, hl, hm, hmm, hx, hi⟩
  · have hcs : [Value.slice A n c] = [.slice none 0 0] := hcs
    injection hcs with hcs _
    injection hcs with h1 h2 h3
    subst h1 h2 h3
    exact ⟨[], none, 0, 0, rfl, Es.nil W⟩
  · have hcs : [Value.slice A n c] = [.slice (some a) len cap] := hcs
    injection hcs with hcs _
    injection hcs with h1 h2 h3
    subst h1 h2 h3
    have hlm : n ≤ m := by rw [hmm]; split <;> omega
    rw [k5] at hi
    have hex : ∀ i, ∃ x : Nd, i < n → ∀ j, j < 5 → W.cell? ((a.add (i * 5)).add j) = x.cells[j]? := by
      intro i
      by_cases hin : i < n
      · obtain ⟨cs', h1, h2⟩ := hi i (Nat.lt_of_lt_of_le hin hlm)
        obtain ⟨_, _, h3⟩ := World.cells?_some h1
        obtain ⟨x, rfl⟩ := nd_of_trod h2
        exact ⟨x, fun _ j hj => h3 j hj⟩
      · exact ⟨⟨0, zR, ⟨#[]⟩⟩, fun h => absurd h hin⟩
    obtain ⟨f, hf⟩ := Classical.axiomOfChoice hex
    refine ⟨(List.range n).map f, some a, n, c, rfl, by simp, hl, hm, ?_⟩
    by_cases hn : n = 0
    · subst hn; exact .inl rfl
    · have h00 := hf 0 (by omega) 0 (by omega)
      obtain ⟨b, off, spot⟩ := a
      have hspot : spot = none := by
        have := World.cell?_spot h00
        simpa [Addr.add] using this
      subst hspot
      refine .inr ⟨b, off, rfl, ?_, fun i hil => ?_⟩
      · rw [add_none, add_none] at h00
        exact cell_lt h00
      · rw [nds_length, List.length_map, List.length_range] at hil
        obtain ⟨k, j, hj, rfl⟩ : ∃ k j, j < 5 ∧ i = k * 5 + j := ⟨i / 5, i % 5, Nat.mod_lt _ (by omega), by omega⟩
        have h1 := hf k (by omega) j hj
        rw [add_none, add_none, Nat.add_assoc] at h1
        rw [h1]
        have h2 := nds_get ((List.range n).map f) k j (by simp; omega) hj
        rw [← List.getElem?_eq_getElem, h2]
        simp
theorem exprRaw_types : ∀ t ∈ Tryz.f3.params.toList, Tryz.prog.readableRec t = true ∧ t < Tryz.prog.types.size := by
  have hall : ([22].all fun t => Tryz.prog.readableRec t && decide (t < Tryz.prog.types.size)) = true := by kernel_rfl
  rw [Tryz.params3]
  intro t ht
  have hm : t ∈ [22] := by simpa using ht
  simpa using List.all_eq_true.1 hall t hm
set_option maxRecDepth 100000 in
theorem exprRaw_lifted (os : Os) (started : os.Started) (H : Type) (enc : TypeId × Value → H) :
    ReturnsInHanded {} Tryz.checked os 3 .any (fun w args => (Rows.exprRawSpec.pre enc Tryz.prog Tryz.f3 [] false w args ∧ laidMetH Tryz.prog lds w) ∧ sizedMet enc Tryz.prog Tryz.f3 (OpenSpec.ofChange Rows.exprRawSpec) false w args)
      (Rows.exprRawSpec.post enc Tryz.prog Tryz.f3 false true false false) := by
  refine returns_shaped (C := Tryz.checked) (X := fun w _ => laidMetH Tryz.prog lds w) (fun _ _ _ hh h => h.of_heap hh) Tryz.own started (by kernel_rfl) Tryz.func3
    (ChangeSpec.witness_shaped (enc := enc) (C := Tryz.checked) (os := os) (X := fun w _ => laidMetH Tryz.prog lds w) false (World.laidAll Tryz.prog os lds) #[.slice none 0 0, .slice none 0 0] 8 (World.laidAll_os _ _ _)
      (World.shaped_of_ZipB (by kernel_rfl) (by kernel_rfl)) (by kernel_rfl) (by kernel_rfl) (by kernel_rfl) (world_met os _)) ?_
  intro W base args ds gs before hval0 hW hL hsh
  have hval : ∀ (j : Nat) t v, Tryz.f3.params[j]? = some t → args[j]? = some v → Value.okWide Tryz.prog W .any base t v := hval0
  have hW' : DataW.Whole enc Tryz.prog Tryz.f3.params.toList Rows.exprRawSpec.vars false W args.toList ds gs before := hW
  obtain ⟨p, q, hA0, hV, rfl, _, _⟩ := hW
  have hA : DataW.TrodAll enc Tryz.prog W 0 (fun _ => true) true Tryz.f3.params.toList args.toList ds p := hA0
  rw [Tryz.params3] at hA hval
  obtain ⟨v0, v1, d0, d1, p0, p1, rfl, rfl, rfl, h0, h1⟩ := trodAll_two hA
  obtain ⟨rfl, rfl⟩ := trodVars_none hV
  obtain ⟨es, A1, n1, c1, rfl, hE1⟩ := es_of_trod (hval 0 22 v0 rfl rfl) h0
  obtain ⟨fs, A2, n2, c2, rfl, hE2⟩ := es_of_trod (hval 1 22 v1 rfl rfl) h1
  refine (exprRaw_core es fs A1 A2 n1 c1 n2 c2 W (laidE_of hL hsh) hE1 hE2).mono fun e W' ⟨he, hb⟩ => ?_
  subst he
  exact ⟨_, rfl, post_true (H := H) (enc := enc) (P := Tryz.prog) (f := Tryz.f3) (s := Rows.exprRawSpec) (tb := 4) Tryz.laidOut rfl rfl rfl Tryz.underlying4 exprRaw_types hW' hb⟩
theorem exprRaw_holds : Rows.ExprRawSaid :=
  OpenClaim.holds_of_wide 3 Tryz.f3 rfl rfl rfl rfl rfl rfl rfl ⟨rfl, rfl, rfl, rfl, rfl⟩ rfl rfl rfl rfl rfl (by kernel_rfl) Tryz.func3 (by kernel_rfl)
    (of_decide_eq_true (by kernel_rfl)) (by unfold Func.isWrapper; first | (rw [if_pos (by decide +kernel)]; kernel_rfl) | (rw [if_neg (by decide +kernel)]; exact ⟨rfl, rfl⟩))
    (fun os started H enc _ => exprRaw_lifted os started H enc)
theorem exprRaw_card : Rows.ExprRawCardSaid :=
  Claim7.holds_tied_plain_at .later [] [.data, .data, .data, .data, .sentinel, .sentinel, .widerDeep, .pinned] true Rows.exprRawCard.stood.harness true
    exprRaw_holds (fun _ h => by cases h) (by kernel_rfl) (fun _ h => by cases h) exprRaw_row_tie rfl ⟨rfl, rfl⟩ (by kernel_rfl) rfl
    (fun f fn hf hfn => by
      obtain rfl : f = 3 := Option.some.inj ((show Tryz.prog.funcNamed "tithing/tithinglaw07.ExprRaw" = some 3 by kernel_rfl).symm.trans hf) |>.symm
      obtain rfl : fn = Tryz.f3 := (Option.some.inj (Tryz.func3.symm.trans hfn)).symm
      exact ⟨by kernel_rfl, fun j t ht => by
        rw [Tryz.params3] at ht
        have hm : t ∈ [22] := by simpa using Array.mem_of_getElem? ht
        have hall : ([22].all fun u => !Tryz.prog.wantsStandIn u) = true := by kernel_rfl
        exact (show Tryz.prog.wantsStandIn t = false by simpa using List.all_eq_true.1 hall t hm)⟩)
    (by kernel_rfl)
#print axioms exprRaw_card
end Go.Proofs.YtbicehdehiakgaaGreatDoor
