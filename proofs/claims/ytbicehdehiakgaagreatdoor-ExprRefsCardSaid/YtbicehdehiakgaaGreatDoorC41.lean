/- The proof of the statement, a part of it: Eu Ey. -/
import Derived.Shelf.SlSortCmp.WholeK
import Derived.Test.YtbicehdehiakgaaGreatDoorC33
import Derived.Test.YtbicehdehiakgaaGreatDoorC40
set_option linter.unusedVariables false
set_option linter.unusedSimpArgs false
namespace Go.Proofs.YtbicehdehiakgaaGreatDoor
open Go.RowKit
theorem expr_any (w0 : World) (hL : LaidE w0) (R : Nat) (hR0 : w0.heap.size ≤ R) (f : Nat) : ∀ (s : List UInt8) (ns : List Nd) (b : Nat) (v : Value) (w : World), Below w0.heap.size w0 w → Blk w R 84 [.string ⟨s.toArray⟩, v, .int .i64 (b : Int)] →
    w.ownsRow (R + 1) 33 5 v ns.length (nds ns) → s.length ≤ 1048576 → ns.length ≤ b → b ≤ 60 → 61 ≤ b + f → Calls Tryz.prog 53 #[.pointer (some ⟨R, 0, none⟩)] w (ExPost (parA f s ns b) R v w) := by
  induction f with
  | zero => intro s ns b v w _ _ _ _ _ h1 h2; omega
  | succ f ih =>
    intro s ns b v w hw0 hR hown hs hns hb hbf
    rw [parA]
    by_cases h60 : b = 60
    · rw [if_pos (by omega)]
      exact ex_over w0 hL R hR0 s ns b v w hw0 hR hown hs h60
    · rw [if_neg (by omega)]
      have hb9 : b ≤ 59 := by omega
      cases hq : litA s with
      | none => exact ex_lit_no w0 hL R hR0 s ns b v w hw0 hR hown hs hb9 hq
      | some o =>
        cases o with
        | some q => exact ex_lit w0 hL R hR0 s ns b v w hw0 hR hown hs hb9 (by omega) q hq
        | none =>
          simp only [Option.bind_some]
          by_cases hy : spanW lettersL s = yesL
          · rw [if_pos hy]
            exact ex_yes w0 hL R hR0 s ns b v w hw0 hR hown hs hb9 (by omega) hq hy
          · rw [if_neg hy]
            by_cases hn : spanW lettersL s = noL
            · rw [if_pos hn]
              exact ex_no w0 hL R hR0 s ns b v w hw0 hR hown hs hb9 (by omega) hq hn
            · rw [if_neg hn]
              rcases place_neg ⟨(dotA s).1.toArray⟩ with hp | ⟨k, hp⟩
              · rw [if_pos (by rw [hp]; decide)]
                cases hdot : Lib.hasPrefix (spanR lettersL s) [46]
                · exact ex_badf w0 hL R hR0 s ns b v w hw0 hR hown hs hb9 (by omega) hq hy hn hdot hp
                · exact ex_badt w0 hL R hR0 s ns b v w hw0 hR hown hs hb9 (by omega) hq hy hn hdot hp
              · rw [if_neg (by rw [hp]; omega), hp]
                obtain ⟨hk, hkw, hkn⟩ := place_spec hp
                have hnam := dot_nam hp
                cases hdot : Lib.hasPrefix (spanR lettersL s) [46]
                · cases hst : (shp (k : Int)).stp
                  · exact ex_op2 w0 hL R hR0 s ns b v w hw0 hR hown hs hb9 hns hq hy hn hdot k hp hst f ih (by omega)
                  · exact ex_op3 w0 hL R hR0 s ns b v w hw0 hR hown hs hb9 hns hq hy hn hdot k hp hst f ih (by omega)
                · have hst : (shp (k : Int)).stp = false := by
                    cases hst : (shp (k : Int)).stp
                    · rfl
                    · have := (shp_word_last k hk (by rw [hkw]; exact hkn)).2 hst
                      rw [hnam, hdot] at this; cases this
                  exact ex_op1 w0 hL R hR0 s ns b v w hw0 hR hown hs hb9 hns hq hy hn hdot k hp hst f ih (by omega)
theorem numA_fine {s : List UInt8} {a : Ra} {r : List UInt8} (h : numA s = some (a, r)) (hs : s.length ≤ 1048576) : a.num.size ≤ 1048576 ∧ a.den.size ≤ 1048576 := by
  unfold numA at h
  split at h
  · next hp =>
    injection h with h
    injection h with h1 _
    have hw := spanW_len numL s
    rw [← h1]
    generalize spanW numL s = x at *
    unfold ratParse at *
    simp only at *
    split
    · obtain ⟨hc1, hc2⟩ := cut_len (Lib.trimPrefix x [45]) [47]
      have htl := trimPrefix_len x [45]
      have h1 := natParse_size (cutR x).2.1
      have h2 := natParse_size (cutR x).2.2
      have e1 : (cutR x).2.1.length ≤ 1048576 := by unfold cutR; simp only; omega
      have e2 : (cutR x).2.2.length ≤ 1048576 := by
        unfold cutR
        simp only
        split
        · omega
        · simp
      exact mkR_size _ _ _ 1048576 (by omega) (by omega)
    · exact ⟨Nat.zero_le _, Nat.zero_le _⟩
  · cases h
theorem fine_nd {k : Int} {a : Ra} {nm : List UInt8} (h : a.num.size ≤ 1048576 ∧ a.den.size ≤ 1048576) : Fine (nd k a nm) := h
theorem fine_of (n : Int) (h : n = 0 ∨ n = 1) : (ofI n).num.size ≤ 1048576 ∧ (ofI n).den.size ≤ 1048576 := by
  rcases h with rfl | rfl <;> decide +kernel
theorem litA_fine {s : List UInt8} {q : Nd × List UInt8} (h : litA s = some (some q)) (hs : s.length ≤ 1048576) : Fine q.1 := by
  unfold litA at h
  split at h
  · cases hn : numA (s.drop 1) with
    | none => rw [hn] at h; cases h
    | some ar =>
      rw [hn] at h
      injection h with h; injection h with h
      rw [← h]; exact fine_nd (numA_fine (a := ar.1) (r := ar.2) hn (by have := drop_len s 1; omega))
  · split at h
    · cases h
    · cases hn : numA s with
      | none => rw [hn] at h; cases h
      | some ar =>
        rw [hn] at h
        have h1 := numA_fine (a := ar.1) (r := ar.2) hn hs
        simp only [Option.map_some] at h
        split at h
        · injection h with h; injection h with h; rw [← h]; exact fine_nd h1
        · injection h with h; injection h with h; rw [← h]; exact fine_nd h1
theorem opsA_fine {p : List UInt8 → List Nd → Nat → Option PS} (hp : ∀ s ns b q, p s ns b = some q → s.length ≤ 1048576 → (∀ n ∈ ns, Fine n) → q.1.length ≤ s.length ∧ ∀ n ∈ q.2.1, Fine n) (m : Nat) :
    ∀ k s ns b q, opsA p m k s ns b = some q → s.length ≤ 1048576 → (∀ n ∈ ns, Fine n) → q.1.length ≤ s.length ∧ ∀ n ∈ q.2.1, Fine n := by
  induction m with
  | zero =>
    intro k s ns b q h hs hf
    injection h with h
    subst h
    exact ⟨Nat.le_refl _, hf⟩
  | succ m ih =>
    intro k s ns b q h hs hf
    rw [opsA] at h
    split at h
    · obtain ⟨t, h1, h2⟩ := Option.bind_eq_some_iff.1 h
      have hd := drop_len s (sepW k).length
      have p1 := hp _ _ _ _ h1 (by omega) hf
      have p2 := ih _ _ _ _ _ h2 (by omega) p1.2
      exact ⟨by omega, p2.2⟩
    · cases h
theorem stpA_fine {y : Bool} {s : List UInt8} {q : Ra × List UInt8} (h : stpA y s = some q) (hs : s.length ≤ 1048576) : q.1.num.size ≤ 1048576 ∧ q.1.den.size ≤ 1048576 := by
  unfold stpA at h
  split at h
  · split at h
    · obtain ⟨t, h1, h2⟩ := Option.bind_eq_some_iff.1 h
      split at h2
      · injection h2 with h2
        have hd := drop_len s 1
        rw [← h2]; exact numA_fine (a := t.1) (r := t.2) h1 (by omega)
      · cases h2
    · cases h
  · injection h with h; rw [← h]; exact ⟨Nat.zero_le _, Nat.zero_le _⟩
theorem fine_snoc {ns : List Nd} {n : Nd} (h : ∀ m ∈ ns, Fine m) (hn : Fine n) : ∀ m ∈ ns ++ [n], Fine m := by
  intro m hm
  rcases List.mem_append.1 hm with hm | hm
  · exact h m hm
  · obtain rfl : m = n := by simpa using hm
    exact hn
theorem parA_fine (f : Nat) : ∀ s ns b q, parA f s ns b = some q → s.length ≤ 1048576 → (∀ n ∈ ns, Fine n) → q.1.length ≤ s.length ∧ ∀ n ∈ q.2.1, Fine n := by
  induction f with
  | zero => intro s ns b q h; cases h
  | succ f ih =>
    intro s ns b q h hs hf
    refine ⟨(parA_pb _ _ _ _ _ h).1.rest, ?_⟩
    rw [parA] at h
    split at h
    · cases h
    · obtain ⟨t, h1, h2⟩ := Option.bind_eq_some_iff.1 h
      cases t with
      | some t =>
        injection h2 with h2
        subst h2
        exact fine_snoc hf (litA_fine h1 hs)
      | none =>
        simp only at h2
        split at h2
        · injection h2 with h2; subst h2
          exact fine_snoc hf (fine_nd (fine_of 1 (.inr rfl)))
        · split at h2
          · injection h2 with h2; subst h2
            exact fine_snoc hf (fine_nd (fine_of 0 (.inl rfl)))
          · split at h2
            · cases h2
            · have hd := (dotA_len s).1
              unfold tailA at h2
              obtain ⟨u, h3, h4⟩ := Option.bind_eq_some_iff.1 h2
              obtain ⟨x, h5, h6⟩ := Option.bind_eq_some_iff.1 h4
              have a2 : (if (shp (placeOf ⟨(dotA s).1.toArray⟩)).nam = true then spanR namesL (dotA s).2 else (dotA s).2).length ≤ (dotA s).2.length := by
                split
                · exact spanR_len _ _
                · exact Nat.le_refl _
              have a1 := stpA_len h3
              have a3 := stpA_fine h3 (by omega)
              have a4 := opsA_fine ih _ _ _ _ _ _ h5 (by omega) hf
              split at h6
              · split at h6
                · injection h6 with h6; subst h6
                  exact fine_snoc a4.2 (fine_nd a3)
                · cases h6
              · injection h6 with h6; subst h6
                exact fine_snoc a4.2 (fine_nd a3)
end Go.Proofs.YtbicehdehiakgaaGreatDoor
namespace Go.Proofs.YtbicehdehiakgaaGreatDoor
open Go.RowKit
set_option maxRecDepth 100000 in
set_option maxHeartbeats 800000 in
theorem ordN_dr (a b : Nd) (w : World) : Calls Tryz.prog 60 #[a.v, b.v] w fun e w' => e = .returned (.int .i64 (ordN a b)) ∧ Below w.heap.size w w' ∧ w.drawn ≤ w'.drawn := by
  have HP : Hid (ordN a b = orI (Lib.compareInt a.op b.op) (Lib.compareBytes a.name.data.toList b.name.data.toList)) := rfl
  generalize ordN a b = r at *
  obtain ⟨op, ⟨neg, num, den⟩, nm⟩ := a
  obtain ⟨op', ⟨neg', num', den'⟩, nm'⟩ := b
  unfold Nd.v
  simp only at HP ⊢
  have HC := Lib.hid (fun W => Tryz.cmp_Compare_int op op' W)
  have HT := Lib.hid (fun W => Tryz.strings_Compare nm nm' W)
  generalize Lib.compareInt op op' = x at *
  generalize Lib.compareBytes nm.data.toList nm'.data.toList = y at *
  obtain ⟨W, hW⟩ : ∃ W, W = (w.alloc (.cells #[.int .i64 op, .bool neg, .string num, .string den, .string nm] 33)).alloc (.cells #[.int .i64 op', .bool neg', .string num', .string den', .string nm'] 33) := ⟨_, rfl⟩
  have htwo := Two.new w 33 33 #[.int .i64 op, .bool neg, .string num, .string den, .string nm] #[.int .i64 op', .bool neg', .string num', .string den', .string nm']
  rw [← hW] at htwo
  obtain ⟨hk0, hk1, hba, hsz⟩ := htwo
  obtain ⟨B, hB⟩ : ∃ B, B = w.heap.size := ⟨_, rfl⟩
  have HB := Lib.hid hB
  rw [← hB] at hba hsz hk0 hk1
  have hdrn : w.drawn ≤ W.drew.drawn := by rw [hW]; exact Nat.le_succ _
  have HA : Hid (∀ (w' : World) (o : Obj), ((∀ i, w'.cell? ⟨B, i, none⟩ = ([.int .i64 op, .bool neg, .string num, .string den, .string nm] : List Value)[i]?) ∧ (∀ i, w'.cell? ⟨B + 1, i, none⟩ = ([.int .i64 op', .bool neg', .string num', .string den', .string nm'] : List Value)[i]?) ∧ B + 1 < w'.heap.size ∧ Below B w w' ∧ w.drawn ≤ w'.drawn) → ((∀ i, (w'.alloc o).cell? ⟨B, i, none⟩ = ([.int .i64 op, .bool neg, .string num, .string den, .string nm] : List Value)[i]?) ∧ (∀ i, (w'.alloc o).cell? ⟨B + 1, i, none⟩ = ([.int .i64 op', .bool neg', .string num', .string den', .string nm'] : List Value)[i]?) ∧ B + 1 < (w'.alloc o).heap.size ∧ Below B w (w'.alloc o) ∧ w.drawn ≤ (w'.alloc o).drawn)) := by
    rintro w' o ⟨h0, h1, h2, h3, h4⟩
    have hb : Below w'.heap.size w' (w'.alloc o) := (Below.refl _ _).alloc (Nat.le_refl _) _
    exact ⟨fun i => (hb.cell (Nat.lt_of_succ_lt h2)).trans (h0 i), fun i => (hb.cell h2).trans (h1 i), Nat.lt_of_lt_of_le h2 hb.size, h3.trans (hb.mono (by omega)), h4⟩
  have HS : Hid ((∀ i, W.drew.cell? ⟨B, i, none⟩ = ([.int .i64 op, .bool neg, .string num, .string den, .string nm] : List Value)[i]?) ∧ (∀ i, W.drew.cell? ⟨B + 1, i, none⟩ = ([.int .i64 op', .bool neg', .string num', .string den', .string nm'] : List Value)[i]?) ∧ B + 1 < W.drew.heap.size ∧ Below B w W.drew ∧ w.drawn ≤ W.drew.drawn) := ⟨hk0.cells, hk1.cells, hk1.lt, below_drewN hba 1, hdrn⟩
  have HOr : Hid (Calls Tryz.prog 61 #[.slice (some ⟨B + 2, 0, none⟩) 2 2] (W.alloc (.cells #[.int .i64 x, .int .i64 y] 3)).drew fun e w' => e = .returned (.int .i64 (orI x y)) ∧ w' = (W.alloc (.cells #[.int .i64 x, .int .i64 y] 3)).drew) := by
    show Calls _ _ _ _ _
    rw [← hsz]
    exact cmpOr_two x y _ _ 2 _ (Blk.drew (Blk.new W 3 #[.int .i64 x, .int .i64 y]))
  clear hba hk0 hk1
  go_enter Tryz.func60, Tryz.ntmps60
  go_wp2_with fail
  simp only [← hW, ← hB]
  clear hW hB
  go_region_held3 (fun w' => ((∀ i, w'.cell? ⟨B, i, none⟩ = ([.int .i64 op, .bool neg, .string num, .string den, .string nm] : List Value)[i]?) ∧ (∀ i, w'.cell? ⟨B + 1, i, none⟩ = ([.int .i64 op', .bool neg', .string num', .string den', .string nm'] : List Value)[i]?) ∧ B + 1 < w'.heap.size ∧ Below B w w' ∧ w.drawn ≤ w'.drawn)) (first | exact HS.out | assumption | exact HA.out _ _ (by assumption))
    ((first | (go_at_call 62; (with_reducible refine (HC.out _).mono ?_); rintro e w1 ⟨rfl, rfl⟩) | (go_at_call 63; (with_reducible refine (HT.out _).mono ?_); rintro e w1 ⟨rfl, rfl⟩) | (go_at_call 61; with_reducible refine HOr.out.mono ?_; rintro e w1 ⟨rfl, rfl⟩)))
  rename_i hH
  go_wp2
  go_ret
  exact ⟨by rw [HP.out]; rfl, by rw [← HB.out]; exact hH.2.2.2.1, hH.2.2.2.2⟩
open Go.Sort in
theorem grow_of {w w' : World} (hb : Below w.heap.size w w') (hd : w.drawn ≤ w'.drawn) : ∃ q os', w' = grow (w.drewN q) os' := by
  refine ⟨w'.drawn - w.drawn, w'.heap.extract w.heap.size w'.heap.size, ?_⟩
  have hh : w'.heap = w.heap ++ w'.heap.extract w.heap.size w'.heap.size := by
    apply Array.ext_getElem?
    intro i
    rw [Array.getElem?_append]
    split
    · next h => exact hb.block i h
    · next h =>
      rw [Array.getElem?_extract]
      have := hb.size
      split
      · congr 1; omega
      · exact Array.getElem?_eq_none (by omega)
  have h1 := hb.os
  have h2 := hb.tape
  have h3 := hb.output
  obtain ⟨a, b, c, d, e⟩ := w
  obtain ⟨a', b', c', d', e'⟩ := w'
  simp only at *
  subst h1 h2 h3
  unfold grow World.drewN
  simp only [World.mk.injEq, true_and, and_true]
  exact ⟨hh, by omega⟩
open Go.Sort in
theorem ordN_gr (a b : Nd) (w : World) : Calls Tryz.prog 60 #[a.v, b.v] w fun e w' => e = .returned (.int .i64 (ordN a b)) ∧ ∃ q os', w' = grow (w.drewN q) os' :=
  (ordN_dr a b w).mono (fun _ _ h => ⟨h.1, grow_of h.2.1 h.2.2⟩)
end Go.Proofs.YtbicehdehiakgaaGreatDoor
