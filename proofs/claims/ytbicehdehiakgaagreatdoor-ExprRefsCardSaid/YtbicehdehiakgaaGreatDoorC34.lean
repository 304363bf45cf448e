/- The proof of the statement, a part of it: P4. -/
import Derived.Sort.Statements
import Derived.Test.YtbicehdehiakgaaGreatDoorC33
set_option linter.unusedVariables false
set_option linter.unusedSimpArgs false
namespace Go.Proofs.YtbicehdehiakgaaGreatDoor
open Go.RowKit
theorem u8_tri {a b : UInt8} (h1 : ¬ a < b) (h2 : ¬ b < a) : a = b := UInt8.le_antisymm (UInt8.not_lt.1 h2) (UInt8.not_lt.1 h1)
theorem bl_cons (a b : UInt8) (x y : List UInt8) : Op.bytesLess (a :: x) (b :: y) = (decide (a < b) || (a == b && Op.bytesLess x y)) := rfl
theorem bl_irrefl (x : List UInt8) : Op.bytesLess x x = false := by
  induction x with
  | nil => rfl
  | cons a x ih => rw [bl_cons, ih]; simp
theorem bl_nil (x : List UInt8) : Op.bytesLess x [] = false := by cases x <;> rfl
theorem bl_trans : ∀ x y z : List UInt8, Op.bytesLess x y = true → Op.bytesLess y z = true → Op.bytesLess x z = true := by
  intro x
  induction x with
  | nil =>
    intro y z h1 h2
    cases z with
    | nil => rw [bl_nil] at h2; cases h2
    | cons c z => rfl
  | cons a x ih =>
    intro y z h1 h2
    cases y with
    | nil => rw [bl_nil] at h1; cases h1
    | cons b y =>
      cases z with
      | nil => rw [bl_nil] at h2; cases h2
      | cons c z =>
        rw [bl_cons] at *
        simp only [Bool.or_eq_true, decide_eq_true_eq, Bool.and_eq_true, beq_iff_eq] at *
        rcases h1 with h1 | ⟨rfl, h1⟩
        · rcases h2 with h2 | ⟨rfl, h2⟩
          · exact .inl (UInt8.lt_trans h1 h2)
          · exact .inl h1
        · rcases h2 with h2 | ⟨rfl, h2⟩
          · exact .inl h2
          · exact .inr ⟨rfl, ih y z h1 h2⟩
theorem bl_tri : ∀ x y : List UInt8, Op.bytesLess x y = false → Op.bytesLess y x = false → x = y := by
  intro x
  induction x with
  | nil =>
    intro y h1 h2
    cases y with
    | nil => rfl
    | cons b y => cases h1
  | cons a x ih =>
    intro y h1 h2
    cases y with
    | nil => cases h2
    | cons b y =>
      rw [bl_cons] at *
      simp only [Bool.or_eq_false_iff, decide_eq_false_iff_not, Bool.and_eq_false_iff, beq_eq_false_iff_ne] at *
      have hab : a = b := u8_tri h1.1 h2.1
      subst hab
      rw [ih y (by rcases h1.2 with h | h; exact absurd rfl h; exact h) (by rcases h2.2 with h | h; exact absurd rfl h; exact h)]
theorem cb_lt : ∀ x y : List UInt8, (Lib.compareBytes x y < 0 ↔ Op.bytesLess x y = true) ∧ (Lib.compareBytes x y = 0 ↔ x = y) := by
  intro x
  induction x with
  | nil =>
    intro y
    cases y with
    | nil => exact ⟨⟨fun h => absurd h (by decide), fun h => by cases h⟩, by simp [Lib.compareBytes]⟩
    | cons b y => exact ⟨⟨fun _ => rfl, fun _ => by simp [Lib.compareBytes]⟩, by simp [Lib.compareBytes]⟩
  | cons a x ih =>
    intro y
    cases y with
    | nil => exact ⟨⟨fun h => by simp [Lib.compareBytes] at h, fun h => by cases h⟩, by simp [Lib.compareBytes]⟩
    | cons b y =>
      obtain ⟨i1, i2⟩ := ih y
      rw [bl_cons, Lib.compareBytes]
      by_cases h1 : a < b
      · rw [if_pos h1]
        refine ⟨⟨fun _ => by simp [h1], fun _ => by decide⟩, ⟨fun h => absurd h (by decide), fun h => ?_⟩⟩
        injection h with h _
        subst h; exact absurd h1 (UInt8.lt_irrefl _)
      · rw [if_neg h1]
        by_cases h2 : b < a
        · rw [if_pos h2]
          have hne : a ≠ b := by rintro rfl; exact h1 h2
          refine ⟨⟨fun h => absurd h (by decide), fun h => by simp [h1, hne] at h⟩, ⟨fun h => absurd h (by decide), fun h => ?_⟩⟩
          injection h with h _
          exact absurd h hne
        · rw [if_neg h2]
          have hab : a = b := u8_tri h1 h2
          subst hab
          refine ⟨by rw [i1]; simp, by rw [i2]; simp⟩
theorem bef_iff (a b : Nd) : befN a b = true ↔ a.op < b.op ∨ (a.op = b.op ∧ Op.bytesLess a.name.data.toList b.name.data.toList = true) := by
  unfold befN
  rw [Lib.toList_data, Lib.toList_data]
  simp
theorem bef_irrefl (a : Nd) : befN a a = false := by
  cases h : befN a a
  · rfl
  · rcases (bef_iff a a).1 h with h | ⟨_, h⟩
    · omega
    · rw [bl_irrefl] at h; cases h
theorem bef_trans {a b c : Nd} (h1 : befN a b = true) (h2 : befN b c = true) : befN a c = true := by
  rw [bef_iff] at *
  rcases h1 with h1 | ⟨e1, h1⟩
  · rcases h2 with h2 | ⟨e2, h2⟩
    · exact .inl (by omega)
    · exact .inl (by omega)
  · rcases h2 with h2 | ⟨e2, h2⟩
    · exact .inl (by omega)
    · exact .inr ⟨e1.trans e2, bl_trans _ _ _ h1 h2⟩
theorem bef_tri {a b : Nd} (h1 : ¬ befN a b = true) (h2 : ¬ befN b a = true) : a.op = b.op ∧ a.name = b.name := by
  rw [bef_iff] at *
  have e : a.op = b.op := by omega
  refine ⟨e, ?_⟩
  have h3 : Op.bytesLess a.name.data.toList b.name.data.toList = false := by
    cases h : Op.bytesLess a.name.data.toList b.name.data.toList
    · rfl
    · exact absurd (.inr ⟨e, h⟩) h1
  have h4 : Op.bytesLess b.name.data.toList a.name.data.toList = false := by
    cases h : Op.bytesLess b.name.data.toList a.name.data.toList
    · rfl
    · exact absurd (.inr ⟨e.symm, h⟩) h2
  have h5 := bl_tri _ _ h3 h4
  have h6 : b.name = a.name := ba_eq (l := a.name.data.toList) h5.symm
  exact h6.symm
theorem bef_tri0 {a b : Nd} (ha : a.num = zR) (hb : b.num = zR) (h1 : ¬ befN a b = true) (h2 : ¬ befN b a = true) : a = b := by
  obtain ⟨e1, e2⟩ := bef_tri h1 h2
  obtain ⟨x, y, z⟩ := a
  obtain ⟨x', y', z'⟩ := b
  simp only at *
  subst e1 e2 ha hb; rfl
theorem ord_neg (a b : Nd) : ordN a b < 0 ↔ befN a b = true := by
  rw [bef_iff]
  obtain ⟨c1, c2⟩ := cb_lt a.name.data.toList b.name.data.toList
  unfold ordN orI Lib.compareInt
  rcases Int.lt_trichotomy a.op b.op with h | h | h
  · rw [show (if a.op < b.op then (-1 : Int) else if a.op > b.op then 1 else 0) = -1 from if_pos h, if_neg (by decide)]
    exact ⟨fun _ => .inl h, fun _ => by decide⟩
  · rw [show (if a.op < b.op then (-1 : Int) else if a.op > b.op then 1 else 0) = 0 by rw [if_neg (by omega), if_neg (by omega)], if_pos rfl, c1]
    exact ⟨fun hh => .inr ⟨h, hh⟩, fun hh => by rcases hh with hh | hh; omega; exact hh.2⟩
  · rw [show (if a.op < b.op then (-1 : Int) else if a.op > b.op then 1 else 0) = 1 by rw [if_neg (by omega), if_pos h], if_neg (by decide)]
    exact ⟨fun hh => absurd hh (by decide), fun hh => by rcases hh with hh | hh <;> omega⟩
abbrev Str (l : List Nd) : Prop := l.Pairwise (fun a b => befN a b = true)
theorem str_unique : ∀ l m : List Nd, Str l → Str m → (∀ n, n ∈ l ↔ n ∈ m) → l = m := by
  intro l
  induction l with
  | nil =>
    intro m _ _ h
    cases m with
    | nil => rfl
    | cons b m => exact absurd ((h b).2 (List.mem_cons_self ..)) (by simp)
  | cons a l ih =>
    intro m hl hm h
    cases m with
    | nil => exact absurd ((h a).1 (List.mem_cons_self ..)) (by simp)
    | cons b m =>
      obtain ⟨hl1, hl2⟩ := List.pairwise_cons.1 hl
      obtain ⟨hm1, hm2⟩ := List.pairwise_cons.1 hm
      have hab : a = b := by
        rcases List.mem_cons.1 ((h a).1 (List.mem_cons_self ..)) with e | e
        · exact e
        · rcases List.mem_cons.1 ((h b).2 (List.mem_cons_self ..)) with e' | e'
          · exact e'.symm
          · have := bef_trans (hl1 b e') (hm1 a e)
            rw [bef_irrefl] at this; cases this
      subst hab
      rw [ih m hl2 hm2]
      intro n
      constructor
      · intro hn
        rcases List.mem_cons.1 ((h n).1 (List.mem_cons_of_mem _ hn)) with e | e
        · subst e
          have := hl1 n hn
          rw [bef_irrefl] at this; cases this
        · exact e
      · intro hn
        rcases List.mem_cons.1 ((h n).2 (List.mem_cons_of_mem _ hn)) with e | e
        · subst e
          have := hm1 n hn
          rw [bef_irrefl] at this; cases this
        · exact e
def place (out : List Nd) (n : Nd) : Nat := (out.takeWhile (befN · n)).length
def ins (out : List Nd) (n : Nd) : List Nd := if out[place out n]? = some n then out else out.take (place out n) ++ [n] ++ out.drop (place out n)
theorem tw_split {α : Type} (p : α → Bool) (l : List α) : l.take (l.takeWhile p).length = l.takeWhile p ∧ l.drop (l.takeWhile p).length = l.dropWhile p ∧ (∀ x ∈ l.takeWhile p, p x = true) ∧ (∀ d m, l.dropWhile p = d :: m → p d = false) := by
  induction l with
  | nil => exact ⟨rfl, rfl, fun x hx => (by cases hx), fun d m h => (by cases h)⟩
  | cons a l ih =>
    obtain ⟨h1, h2, h3, h4⟩ := ih
    cases ha : p a
    · rw [List.takeWhile_cons_of_neg (by simp [ha]), List.dropWhile_cons_of_neg (by simp [ha])]
      refine ⟨rfl, rfl, fun x hx => (by cases hx), fun d m h => ?_⟩
      injection h with h _
      rw [← h]; exact ha
    · rw [List.takeWhile_cons_of_pos ha, List.dropWhile_cons_of_pos ha]
      refine ⟨by simp [h1], by simp [h2], fun x hx => ?_, h4⟩
      rcases List.mem_cons.1 hx with rfl | hx
      · exact ha
      · exact h3 x hx
theorem place_split (out : List Nd) (n : Nd) : out.take (place out n) = out.takeWhile (befN · n) ∧ out.drop (place out n) = out.dropWhile (befN · n) := ⟨(tw_split _ out).1, (tw_split _ out).2.1⟩
theorem ins_mem (out : List Nd) (n x : Nd) : x ∈ ins out n ↔ x ∈ out ∨ x = n := by
  unfold ins
  split
  · next h =>
    have hn := List.mem_of_getElem? h
    exact ⟨.inl, fun h => by rcases h with h | rfl; exact h; exact hn⟩
  · have h := List.take_append_drop (place out n) out
    constructor
    · intro hx
      rcases List.mem_append.1 hx with hx | hx
      · rcases List.mem_append.1 hx with hx | hx
        · exact .inl (List.mem_of_mem_take hx)
        · exact .inr (by simpa using hx)
      · exact .inl (List.mem_of_mem_drop hx)
    · intro hx
      rcases hx with hx | rfl
      · rw [← h] at hx
        rcases List.mem_append.1 hx with hx | hx
        · exact List.mem_append_left _ (List.mem_append_left _ hx)
        · exact List.mem_append_right _ hx
      · simp
theorem ins_str {out : List Nd} {n : Nd} (hs : Str out) (hz : ∀ x ∈ out, x.num = zR) (hn : n.num = zR) : Str (ins out n) := by
  unfold ins
  split
  · exact hs
  · next hne =>
    have h := List.take_append_drop (place out n) out
    obtain ⟨e1, e2⟩ := place_split out n
    have hs' := hs
    rw [← h] at hs'
    obtain ⟨p1, p2, p3⟩ := List.pairwise_append.1 hs'
    have hT : ∀ x ∈ out.take (place out n), befN x n = true := fun x hx => by
      rw [e1] at hx; exact (tw_split (befN · n) out).2.2.1 x hx
    have hD : ∀ x ∈ out.drop (place out n), befN n x = true := by
      intro x hx
      cases hd : out.drop (place out n) with
      | nil => rw [hd] at hx; cases hx
      | cons d l =>
        have hd0 : ¬ befN d n = true := by
          have := (tw_split (befN · n) out).2.2.2 d l (by rw [← e2, hd])
          rw [this]; simp
        have hdm : d ∈ out := List.mem_of_mem_drop (by rw [hd]; exact List.mem_cons_self ..)
        have hdn : d ≠ n := by
          rintro rfl
          apply hne
          have h3 : (out.drop (place out d))[0]? = some d := by rw [hd]; rfl
          rw [List.getElem?_drop] at h3; simpa using h3
        have hnd : befN n d = true := Classical.byContradiction fun hh => hdn (bef_tri0 (hz d hdm) hn hd0 hh)
        rw [hd] at hx p2
        rcases List.mem_cons.1 hx with rfl | hx
        · exact hnd
        · exact bef_trans hnd ((List.pairwise_cons.1 p2).1 x hx)
    refine List.pairwise_append.2 ⟨List.pairwise_append.2 ⟨p1, by simp, fun a ha b hb => ?_⟩, p2, fun a ha b hb => ?_⟩
    · obtain rfl : b = n := by simpa using hb
      exact hT a ha
    · rcases List.mem_append.1 ha with ha | ha
      · exact p3 a ha b hb
      · obtain rfl : a = n := by simpa using ha
        exact hD b hb
def nmd (e : List Nd) : List Nd := e.filter fun n => (shp n.op).nam
def insL (e : List Nd) (out : List Nd) : List Nd := (nmd e).foldl ins out
def refsE (e : List Nd) : List Nd := if checkE e = 0 then insL e [] else []
theorem nmd_zr {e : List Nd} (h : ∀ n ∈ e, wrongN n = 0) : ∀ n ∈ nmd e, n.num = zR := by
  intro n hn
  obtain ⟨h1, h2⟩ := List.mem_filter.1 hn
  have h3 := shp_nam n.op
  rw [h2] at h3
  have h4 := of_decide_eq_true h3.symm
  refine (num_big (h n h1) (by omega)).2 ?_
  rw [shp_stp]; exact decide_eq_false (by omega)
theorem fold_ins (l out : List Nd) (hl : ∀ n ∈ l, n.num = zR) (ho : Str out) (hz : ∀ n ∈ out, n.num = zR) : Str (l.foldl ins out) ∧ ∀ n, n ∈ l.foldl ins out ↔ n ∈ out ∨ n ∈ l := by
  induction l generalizing out with
  | nil => exact ⟨ho, fun n => by simp⟩
  | cons a l ih =>
    have ha := hl a (List.mem_cons_self ..)
    obtain ⟨h1, h2⟩ := ih (ins out a) (fun n hn => hl n (List.mem_cons_of_mem _ hn)) (ins_str ho hz ha) (fun n hn => by
      rcases (ins_mem _ _ _).1 hn with h | rfl
      · exact hz n h
      · exact ha)
    refine ⟨h1, fun n => ?_⟩
    rw [List.foldl_cons, h2, ins_mem, List.mem_cons]
    constructor
    · rintro ((h | h) | h)
      · exact .inl h
      · exact .inr (.inl h)
      · exact .inr (.inr h)
    · rintro (h | h | h)
      · exact .inl (.inl h)
      · exact .inl (.inr h)
      · exact .inr h
theorem refsE_spec {e : List Nd} (h : checkE e = 0) : Str (refsE e) ∧ ∀ n, n ∈ refsE e ↔ n ∈ nmd e := by
  have := fold_ins (nmd e) [] (nmd_zr (checkE_wr h)) List.Pairwise.nil (fun n hn => by cases hn)
  unfold refsE insL
  rw [if_pos h]
  exact ⟨this.1, fun n => by rw [this.2]; simp⟩
def ddL (p : Nd) : List Nd → List Nd
  | [] => []
  | x :: l => if x = p then ddL x l else x :: ddL x l
def dd : List Nd → List Nd
  | [] => []
  | x :: l => x :: ddL x l
theorem ddL_snoc (p : Nd) (l : List Nd) (x : Nd) : ddL p (l ++ [x]) = if x = (p :: l).getLast (by simp) then ddL p l else ddL p l ++ [x] := by
  induction l generalizing p with
  | nil => show ddL p [x] = if x = p then [] else [x]; rw [ddL]; rfl
  | cons a l ih =>
    rw [List.cons_append, ddL, ih a, ddL]
    have : (p :: a :: l).getLast (by simp) = (a :: l).getLast (by simp) := by simp
    rw [this]
    split <;> split <;> simp
theorem dd_succ (es : List Nd) (j : Nat) (h0 : 0 < j) (hj : j < es.length) : dd (es.take (j + 1)) = if es[j] = es[j - 1] then dd (es.take j) else dd (es.take j) ++ [es[j]] := by
  cases es with
  | nil => simp at hj
  | cons a es =>
    obtain ⟨i, rfl⟩ : ∃ i, j = i + 1 := ⟨j - 1, by omega⟩
    have hi : i < es.length := by simpa using hj
    have h1 : (a :: es).take (i + 1 + 1) = a :: (es.take i ++ [es[i]]) := by rw [List.take_succ_cons, List.take_succ_eq_append_getElem hi]
    have h2 : (a :: es.take i).getLast (by simp) = (a :: es)[i + 1 - 1] := by
      rw [List.getLast_eq_getElem]
      simp only [List.length_cons, Nat.add_sub_cancel, List.length_take, Nat.min_eq_left (Nat.le_of_lt hi)]
      cases i with
      | zero => simp
      | succ i => simp
    rw [h1, List.take_succ_cons, dd, dd, ddL_snoc, h2]
    simp only [List.getElem_cons_succ]
    split <;> simp
theorem dd_len (l : List Nd) : (dd l).length ≤ l.length := by
  have h : ∀ (l : List Nd) (p : Nd), (ddL p l).length ≤ l.length := by
    intro l
    induction l with
    | nil => intro p; simp [ddL]
    | cons x l ih =>
      intro p
      rw [ddL]
      have := ih x
      split <;> simp <;> omega
  cases l with
  | nil => simp [dd]
  | cons x l =>
    have := h l x
    simp [dd]; omega
theorem ddL_mem (l : List Nd) (p n : Nd) : n = p ∨ n ∈ ddL p l ↔ n = p ∨ n ∈ l := by
  induction l generalizing p with
  | nil => simp [ddL]
  | cons x l ih =>
    rw [ddL]
    have := ih x
    split
    · next h =>
      subst h
      rw [this]; simp
    · rw [List.mem_cons, this]; simp
theorem dd_mem (l : List Nd) (n : Nd) : n ∈ dd l ↔ n ∈ l := by
  cases l with
  | nil => simp [dd]
  | cons x l => rw [dd, List.mem_cons, ddL_mem, List.mem_cons]
theorem ddL_str (l : List Nd) (p : Nd) (hw : (p :: l).Pairwise (fun a b => ¬ befN b a = true)) (hz : ∀ n ∈ p :: l, n.num = zR) : Str (ddL p l) ∧ ∀ n ∈ ddL p l, befN p n = true := by
  induction l generalizing p with
  | nil => exact ⟨List.Pairwise.nil, fun n hn => by cases hn⟩
  | cons x l ih =>
    obtain ⟨h1, h2⟩ := List.pairwise_cons.1 hw
    obtain ⟨i1, i2⟩ := ih x h2 (fun n hn => hz n (List.mem_cons_of_mem _ hn))
    rw [ddL]
    split
    · next h => subst h; exact ⟨i1, i2⟩
    · next h =>
      have hpx : befN p x = true := Classical.byContradiction fun hh => h (bef_tri0 (hz x (by simp)) (hz p (by simp)) (h1 x (List.mem_cons_self ..)) hh)
      refine ⟨List.pairwise_cons.2 ⟨i2, i1⟩, fun n hn => ?_⟩
      rcases List.mem_cons.1 hn with rfl | hn
      · exact hpx
      · exact bef_trans hpx (i2 n hn)
theorem dd_str (l : List Nd) (hw : l.Pairwise (fun a b => ¬ befN b a = true)) (hz : ∀ n ∈ l, n.num = zR) : Str (dd l) := by
  cases l with
  | nil => exact List.Pairwise.nil
  | cons x l =>
    obtain ⟨h1, h2⟩ := ddL_str l x hw hz
    exact List.pairwise_cons.2 ⟨h2, h1⟩
theorem refsE_dd {e l : List Nd} (h : checkE e = 0) (hm : ∀ n, n ∈ l ↔ n ∈ nmd e) (hw : l.Pairwise (fun a b => ¬ befN b a = true)) : dd l = refsE e := by
  obtain ⟨h1, h2⟩ := refsE_spec h
  refine str_unique _ _ (dd_str l hw (fun n hn => nmd_zr (checkE_wr h) n ((hm n).1 hn))) h1 (fun n => ?_)
  rw [dd_mem, hm, h2]
end Go.Proofs.YtbicehdehiakgaaGreatDoor
