/- A part of the proof: P4 Go Gp Sq. -/
import Derived.Sort.Statements
import Derived.Test.YtbicehdehiakgaaGreatDoorE23
import Derived.Test.YtbicehdehiakgaaGreatDoorE25
import Derived.Test.YtbicehdehiakgaaGreatDoorE26
set_option linter.unusedVariables false
set_option linter.unusedSimpArgs false
namespace Go.Proofs.YtbicehdehiakgaaGreatDoor
open Go.RowKit
theorem u8_tri {a b : UInt8} (h1 : ¬ a < b) (h2 : ¬ b < a) : a = b := UInt8.le_antisymm (UInt8.not_lt.1 h2) (UInt8.not_lt.1 h1)
theorem bl_cons (a b : UInt8) (x y : List UInt8) : Op.bytesLess (a :: x) (b :: y) = (decide (a < b) || (a == b && Op.bytesLess x y)) := rfl
theorem bl_irrefl (x : List UInt8) : Op.bytesLess x x = false := by
 induction x with
 | nil => rfl
 | cons a x ih => rw [bl_cons, ih]; simp
theorem bl_nil (x : List UInt8) : Op.bytesLess x [] = false := by cases x <;> rfl
theorem bl_trans : ∀ x y z : List UInt8, Op.bytesLess x y = true → Op.bytesLess y z = true → Op.bytesLess x z = true := by
 intro x
 induction x with
 | nil =>
  intro y z h1 h2
  cases z with
  | nil => rw [bl_nil] at h2; cases h2
  | cons c z => rfl
 | cons a x ih =>
  intro y z h1 h2
  cases y with
  | nil => rw [bl_nil] at h1; cases h1
  | cons b y =>
   cases z with
   | nil => rw [bl_nil] at h2; cases h2
   | cons c z =>
    rw [bl_cons] at *
    simp only [Bool.or_eq_true, decide_eq_true_eq, Bool.and_eq_true, beq_iff_eq] at *
    rcases h1 with h1 | ⟨rfl, h1⟩
    ·rcases h2 with h2 | ⟨rfl, h2⟩
     ·exact .inl (UInt8.lt_trans h1 h2)
     ·exact .inl h1
    ·rcases h2 with h2 | ⟨rfl, h2⟩
     ·exact .inl h2
     ·exact .inr ⟨rfl, ih y z h1 h2⟩
theorem bl_tri : ∀ x y : List UInt8, Op.bytesLess x y = false → Op.bytesLess y x = false → x = y := by
 intro x
 induction x with
 | nil =>
  intro y h1 h2
  cases y with
  | nil => rfl
  | cons b y => cases h1
 | cons a x ih =>
  intro y h1 h2
  cases y with
  | nil => cases h2
  | cons b y =>
   rw [bl_cons] at *
   simp only [Bool.or_eq_false_iff, decide_eq_false_iff_not, Bool.and_eq_false_iff, beq_eq_false_iff_ne] at *
   have hab : a = b := u8_tri h1.1 h2.1
   subst hab
   rw [ih y (by rcases h1.2 with h | h; exact absurd rfl h; exact h) (by rcases h2.2 with h | h; exact absurd rfl h; exact h)]
theorem cb_lt : ∀ x y : List UInt8, (Lib.compareBytes x y < 0 ↔ Op.bytesLess x y = true) ∧ (Lib.compareBytes x y = 0 ↔ x = y) := by
 intro x
 induction x with
 | nil =>
  intro y
  cases y with
  | nil => exact ⟨⟨fun h => absurd h (by decide), fun h => by cases h⟩, by simp [Lib.compareBytes]⟩
  | cons b y => exact ⟨⟨fun _ => rfl, fun _ => by simp [Lib.compareBytes]⟩, by simp [Lib.compareBytes]⟩
 | cons a x ih =>
  intro y
  cases y with
  | nil => exact ⟨⟨fun h => by simp [Lib.compareBytes] at h, fun h => by cases h⟩, by simp [Lib.compareBytes]⟩
  | cons b y =>
   obtain ⟨i1, i2⟩ := ih y
   rw [bl_cons, Lib.compareBytes]
   by_cases h1 : a < b
   ·rw [if_pos h1]
    refine ⟨⟨fun _ => by simp [h1], fun _ => by decide⟩, ⟨fun h => absurd h (by decide), fun h => ?_⟩⟩
    injection h with h _
    subst h; exact absurd h1 (UInt8.lt_irrefl _)
   ·rw [if_neg h1]
    by_cases h2 : b < a
    ·rw [if_pos h2]
     have hne : a ≠ b := by rintro rfl; exact h1 h2
     refine ⟨⟨fun h => absurd h (by decide), fun h => by simp [h1, hne] at h⟩, ⟨fun h => absurd h (by decide), fun h => ?_⟩⟩
     injection h with h _
     exact absurd h hne
    ·rw [if_neg h2]
     have hab : a = b := u8_tri h1 h2
     subst hab
     refine ⟨by rw [i1]; simp, by rw [i2]; simp⟩
theorem bef_iff (a b : Nd) : befN a b = true ↔ a.op < b.op ∨ (a.op = b.op ∧ Op.bytesLess a.name.data.toList b.name.data.toList = true) := by
 unfold befN
 rw [Lib.toList_data, Lib.toList_data]
 simp
theorem bef_irrefl (a : Nd) : befN a a = false := by
 cases h : befN a a
 ·rfl
 ·rcases (bef_iff a a).1 h with h | ⟨_, h⟩
  ·omega
  ·rw [bl_irrefl] at h; cases h
theorem bef_trans {a b c : Nd} (h1 : befN a b = true) (h2 : befN b c = true) : befN a c = true := by
 rw [bef_iff] at *
 rcases h1 with h1 | ⟨e1, h1⟩
 ·rcases h2 with h2 | ⟨e2, h2⟩
  ·exact .inl (by omega)
  ·exact .inl (by omega)
 ·rcases h2 with h2 | ⟨e2, h2⟩
  ·exact .inl (by omega)
  ·exact .inr ⟨e1.trans e2, bl_trans _ _ _ h1 h2⟩
theorem bef_tri {a b : Nd} (h1 : ¬ befN a b = true) (h2 : ¬ befN b a = true) : a.op = b.op ∧ a.name = b.name := by
 rw [bef_iff] at *
 have e : a.op = b.op := by omega
 refine ⟨e, ?_⟩
 have h3 : Op.bytesLess a.name.data.toList b.name.data.toList = false := by
  cases h : Op.bytesLess a.name.data.toList b.name.data.toList
  ·rfl
  ·exact absurd (.inr ⟨e, h⟩) h1
 have h4 : Op.bytesLess b.name.data.toList a.name.data.toList = false := by
  cases h : Op.bytesLess b.name.data.toList a.name.data.toList
  ·rfl
  ·exact absurd (.inr ⟨e.symm, h⟩) h2
 have h5 := bl_tri _ _ h3 h4
 have h6 : b.name = a.name := ba_eq (l := a.name.data.toList) h5.symm
 exact h6.symm
theorem bef_tri0 {a b : Nd} (ha : a.num = zR) (hb : b.num = zR) (h1 : ¬ befN a b = true) (h2 : ¬ befN b a = true) : a = b := by
 obtain ⟨e1, e2⟩ := bef_tri h1 h2
 obtain ⟨x, y, z⟩ := a
 obtain ⟨x', y', z'⟩ := b
 simp only at *
 subst e1 e2 ha hb; rfl
theorem ord_neg (a b : Nd) : ordN a b < 0 ↔ befN a b = true := by
 rw [bef_iff]
 obtain ⟨c1, c2⟩ := cb_lt a.name.data.toList b.name.data.toList
 unfold ordN orI Lib.compareInt
 rcases Int.lt_trichotomy a.op b.op with h | h | h
 ·rw [show (if a.op < b.op then (-1 : Int) else if a.op > b.op then 1 else 0) = -1 from if_pos h, if_neg (by decide)]
  exact ⟨fun _ => .inl h, fun _ => by decide⟩
 ·rw [show (if a.op < b.op then (-1 : Int) else if a.op > b.op then 1 else 0) = 0 by rw [if_neg (by omega), if_neg (by omega)], if_pos rfl, c1]
  exact ⟨fun hh => .inr ⟨h, hh⟩, fun hh => by rcases hh with hh | hh; omega; exact hh.2⟩
 ·rw [show (if a.op < b.op then (-1 : Int) else if a.op > b.op then 1 else 0) = 1 by rw [if_neg (by omega), if_pos h], if_neg (by decide)]
  exact ⟨fun hh => absurd hh (by decide), fun hh => by rcases hh with hh | hh <;> omega⟩
abbrev Str (l : List Nd) : Prop := l.Pairwise (fun a b => befN a b = true)
theorem str_unique : ∀ l m : List Nd, Str l → Str m → (∀ n, n ∈ l ↔ n ∈ m) → l = m := by
 intro l
 induction l with
 | nil =>
  intro m _ _ h
  cases m with
  | nil => rfl
  | cons b m => exact absurd ((h b).2 (List.mem_cons_self ..)) (by simp)
 | cons a l ih =>
  intro m hl hm h
  cases m with
  | nil => exact absurd ((h a).1 (List.mem_cons_self ..)) (by simp)
  | cons b m =>
   obtain ⟨hl1, hl2⟩ := List.pairwise_cons.1 hl
   obtain ⟨hm1, hm2⟩ := List.pairwise_cons.1 hm
   have hab : a = b := by
    rcases List.mem_cons.1 ((h a).1 (List.mem_cons_self ..)) with e | e
    ·exact e
    ·rcases List.mem_cons.1 ((h b).2 (List.mem_cons_self ..)) with e' | e'
     ·exact e'.symm
     ·have := bef_trans (hl1 b e') (hm1 a e)
      rw [bef_irrefl] at this; cases this
   subst hab
   rw [ih m hl2 hm2]
   intro n
   constructor
   ·intro hn
    rcases List.mem_cons.1 ((h n).1 (List.mem_cons_of_mem _ hn)) with e | e
    ·subst e
     have := hl1 n hn
     rw [bef_irrefl] at this; cases this
    ·exact e
   ·intro hn
    rcases List.mem_cons.1 ((h n).2 (List.mem_cons_of_mem _ hn)) with e | e
    ·subst e
     have := hm1 n hn
     rw [bef_irrefl] at this; cases this
    ·exact e
def place (out : List Nd) (n : Nd) : Nat := (out.takeWhile (befN · n)).length
def ins (out : List Nd) (n : Nd) : List Nd := if out[place out n]? = some n then out else out.take (place out n) ++ [n] ++ out.drop (place out n)
theorem tw_split {α : Type} (p : α → Bool) (l : List α) : l.take (l.takeWhile p).length = l.takeWhile p ∧ l.drop (l.takeWhile p).length = l.dropWhile p ∧ (∀ x ∈ l.takeWhile p, p x = true) ∧ (∀ d m, l.dropWhile p = d :: m → p d = false) := by
 induction l with
 | nil => exact ⟨rfl, rfl, fun x hx => (by cases hx), fun d m h => (by cases h)⟩
 | cons a l ih =>
  obtain ⟨h1, h2, h3, h4⟩ := ih
  cases ha : p a
  ·rw [List.takeWhile_cons_of_neg (by simp [ha]), List.dropWhile_cons_of_neg (by simp [ha])]
   refine ⟨rfl, rfl, fun x hx => (by cases hx), fun d m h => ?_⟩
   injection h with h _
   rw [← h]; exact ha
  ·rw [List.takeWhile_cons_of_pos ha, List.dropWhile_cons_of_pos ha]
   refine ⟨by simp [h1], by simp [h2], fun x hx => ?_, h4⟩
   rcases List.mem_cons.1 hx with rfl | hx
   ·exact ha
   ·exact h3 x hx
theorem place_split (out : List Nd) (n : Nd) : out.take (place out n) = out.takeWhile (befN · n) ∧ out.drop (place out n) = out.dropWhile (befN · n) := ⟨(tw_split _ out).1, (tw_split _ out).2.1⟩
theorem ins_mem (out : List Nd) (n x : Nd) : x ∈ ins out n ↔ x ∈ out ∨ x = n := by
 unfold ins
 split
 ·next h =>
  have hn := List.mem_of_getElem? h
  exact ⟨.inl, fun h => by rcases h with h | rfl; exact h; exact hn⟩
 ·have h := List.take_append_drop (place out n) out
  constructor
  ·intro hx
   rcases List.mem_append.1 hx with hx | hx
   ·rcases List.mem_append.1 hx with hx | hx
    ·exact .inl (List.mem_of_mem_take hx)
    ·exact .inr (by simpa using hx)
   ·exact .inl (List.mem_of_mem_drop hx)
  ·intro hx
   rcases hx with hx | rfl
   ·rw [← h] at hx
    rcases List.mem_append.1 hx with hx | hx
    ·exact List.mem_append_left _ (List.mem_append_left _ hx)
    ·exact List.mem_append_right _ hx
   ·simp
theorem ins_str {out : List Nd} {n : Nd} (hs : Str out) (hz : ∀ x ∈ out, x.num = zR) (hn : n.num = zR) : Str (ins out n) := by
 unfold ins
 split
 ·exact hs
 ·next hne =>
  have h := List.take_append_drop (place out n) out
  obtain ⟨e1, e2⟩ := place_split out n
  have hs' := hs
  rw [← h] at hs'
  obtain ⟨p1, p2, p3⟩ := List.pairwise_append.1 hs'
  have hT : ∀ x ∈ out.take (place out n), befN x n = true := fun x hx => by
   rw [e1] at hx; exact (tw_split (befN · n) out).2.2.1 x hx
  have hD : ∀ x ∈ out.drop (place out n), befN n x = true := by
   intro x hx
   cases hd : out.drop (place out n) with
   | nil => rw [hd] at hx; cases hx
   | cons d l =>
    have hd0 : ¬ befN d n = true := by
     have := (tw_split (befN · n) out).2.2.2 d l (by rw [← e2, hd])
     rw [this]; simp
    have hdm : d ∈ out := List.mem_of_mem_drop (by rw [hd]; exact List.mem_cons_self ..)
    have hdn : d ≠ n := by
     rintro rfl
     apply hne
     have h3 : (out.drop (place out d))[0]? = some d := by rw [hd]; rfl
     rw [List.getElem?_drop] at h3; simpa using h3
    have hnd : befN n d = true := Classical.byContradiction fun hh => hdn (bef_tri0 (hz d hdm) hn hd0 hh)
    rw [hd] at hx p2
    rcases List.mem_cons.1 hx with rfl | hx
    ·exact hnd
    ·exact bef_trans hnd ((List.pairwise_cons.1 p2).1 x hx)
  refine List.pairwise_append.2 ⟨List.pairwise_append.2 ⟨p1, by simp, fun a ha b hb => ?_⟩, p2, fun a ha b hb => ?_⟩
  ·obtain rfl : b = n := by simpa using hb
   exact hT a ha
  ·rcases List.mem_append.1 ha with ha | ha
   ·exact p3 a ha b hb
   ·obtain rfl : a = n := by simpa using ha
    exact hD b hb
def nmd (e : List Nd) : List Nd := e.filter fun n => (shp n.op).nam
def insL (e : List Nd) (out : List Nd) : List Nd := (nmd e).foldl ins out
def refsE (e : List Nd) : List Nd := if checkE e = 0 then insL e [] else []
theorem nmd_zr {e : List Nd} (h : ∀ n ∈ e, wrongN n = 0) : ∀ n ∈ nmd e, n.num = zR := by
 intro n hn
 obtain ⟨h1, h2⟩ := List.mem_filter.1 hn
 have h3 := shp_nam n.op
 rw [h2] at h3
 have h4 := of_decide_eq_true h3.symm
 refine (num_big (h n h1) (by omega)).2 ?_
 rw [shp_stp]; exact decide_eq_false (by omega)
theorem fold_ins (l out : List Nd) (hl : ∀ n ∈ l, n.num = zR) (ho : Str out) (hz : ∀ n ∈ out, n.num = zR) : Str (l.foldl ins out) ∧ ∀ n, n ∈ l.foldl ins out ↔ n ∈ out ∨ n ∈ l := by
 induction l generalizing out with
 | nil => exact ⟨ho, fun n => by simp⟩
 | cons a l ih =>
  have ha := hl a (List.mem_cons_self ..)
  obtain ⟨h1, h2⟩ := ih (ins out a) (fun n hn => hl n (List.mem_cons_of_mem _ hn)) (ins_str ho hz ha) (fun n hn => by
   rcases (ins_mem _ _ _).1 hn with h | rfl
   ·exact hz n h
   ·exact ha)
  refine ⟨h1, fun n => ?_⟩
  rw [List.foldl_cons, h2, ins_mem, List.mem_cons]
  constructor
  ·rintro ((h | h) | h)
   ·exact .inl h
   ·exact .inr (.inl h)
   ·exact .inr (.inr h)
  ·rintro (h | h | h)
   ·exact .inl (.inl h)
   ·exact .inl (.inr h)
   ·exact .inr h
theorem refsE_spec {e : List Nd} (h : checkE e = 0) : Str (refsE e) ∧ ∀ n, n ∈ refsE e ↔ n ∈ nmd e := by
 have := fold_ins (nmd e) [] (nmd_zr (checkE_wr h)) List.Pairwise.nil (fun n hn => by cases hn)
 unfold refsE insL
 rw [if_pos h]
 exact ⟨this.1, fun n => by rw [this.2]; simp⟩
def ddL (p : Nd) : List Nd → List Nd
 | [] => []
 | x :: l => if x = p then ddL x l else x :: ddL x l
def dd : List Nd → List Nd
 | [] => []
 | x :: l => x :: ddL x l
theorem ddL_snoc (p : Nd) (l : List Nd) (x : Nd) : ddL p (l ++ [x]) = if x = (p :: l).getLast (by simp) then ddL p l else ddL p l ++ [x] := by
 induction l generalizing p with
 | nil => show ddL p [x] = if x = p then [] else [x]; rw [ddL]; rfl
 | cons a l ih =>
  rw [List.cons_append, ddL, ih a, ddL]
  have : (p :: a :: l).getLast (by simp) = (a :: l).getLast (by simp) := by simp
  rw [this]
  split <;> split <;> simp
theorem dd_succ (es : List Nd) (j : Nat) (h0 : 0 < j) (hj : j < es.length) : dd (es.take (j + 1)) = if es[j] = es[j - 1] then dd (es.take j) else dd (es.take j) ++ [es[j]] := by
 cases es with
 | nil => simp at hj
 | cons a es =>
  obtain ⟨i, rfl⟩ : ∃ i, j = i + 1 := ⟨j - 1, by omega⟩
  have hi : i < es.length := by simpa using hj
  have h1 : (a :: es).take (i + 1 + 1) = a :: (es.take i ++ [es[i]]) := by rw [List.take_succ_cons, List.take_succ_eq_append_getElem hi]
  have h2 : (a :: es.take i).getLast (by simp) = (a :: es)[i + 1 - 1] := by
   rw [List.getLast_eq_getElem]
   simp only [List.length_cons, Nat.add_sub_cancel, List.length_take, Nat.min_eq_left (Nat.le_of_lt hi)]
   cases i with
   | zero => simp
   | succ i => simp
  rw [h1, List.take_succ_cons, dd, dd, ddL_snoc, h2]
  simp only [List.getElem_cons_succ]
  split <;> simp
theorem dd_len (l : List Nd) : (dd l).length ≤ l.length := by
 have h : ∀ (l : List Nd) (p : Nd), (ddL p l).length ≤ l.length := by
  intro l
  induction l with
  | nil => intro p; simp [ddL]
  | cons x l ih =>
   intro p
   rw [ddL]
   have := ih x
   split <;> simp <;> omega
 cases l with
 | nil => simp [dd]
 | cons x l =>
  have := h l x
  simp [dd]; omega
theorem ddL_mem (l : List Nd) (p n : Nd) : n = p ∨ n ∈ ddL p l ↔ n = p ∨ n ∈ l := by
 induction l generalizing p with
 | nil => simp [ddL]
 | cons x l ih =>
  rw [ddL]
  have := ih x
  split
  ·next h =>
   subst h
   rw [this]; simp
  ·rw [List.mem_cons, this]; simp
theorem dd_mem (l : List Nd) (n : Nd) : n ∈ dd l ↔ n ∈ l := by
 cases l with
 | nil => simp [dd]
 | cons x l => rw [dd, List.mem_cons, ddL_mem, List.mem_cons]
theorem ddL_str (l : List Nd) (p : Nd) (hw : (p :: l).Pairwise (fun a b => ¬ befN b a = true)) (hz : ∀ n ∈ p :: l, n.num = zR) : Str (ddL p l) ∧ ∀ n ∈ ddL p l, befN p n = true := by
 induction l generalizing p with
 | nil => exact ⟨List.Pairwise.nil, fun n hn => by cases hn⟩
 | cons x l ih =>
  obtain ⟨h1, h2⟩ := List.pairwise_cons.1 hw
  obtain ⟨i1, i2⟩ := ih x h2 (fun n hn => hz n (List.mem_cons_of_mem _ hn))
  rw [ddL]
  split
  ·next h => subst h; exact ⟨i1, i2⟩
  ·next h =>
   have hpx : befN p x = true := Classical.byContradiction fun hh => h (bef_tri0 (hz x (by simp)) (hz p (by simp)) (h1 x (List.mem_cons_self ..)) hh)
   refine ⟨List.pairwise_cons.2 ⟨i2, i1⟩, fun n hn => ?_⟩
   rcases List.mem_cons.1 hn with rfl | hn
   ·exact hpx
   ·exact bef_trans hpx (i2 n hn)
theorem dd_str (l : List Nd) (hw : l.Pairwise (fun a b => ¬ befN b a = true)) (hz : ∀ n ∈ l, n.num = zR) : Str (dd l) := by
 cases l with
 | nil => exact List.Pairwise.nil
 | cons x l =>
  obtain ⟨h1, h2⟩ := ddL_str l x hw hz
  exact List.pairwise_cons.2 ⟨h2, h1⟩
theorem refsE_dd {e l : List Nd} (h : checkE e = 0) (hm : ∀ n, n ∈ l ↔ n ∈ nmd e) (hw : l.Pairwise (fun a b => ¬ befN b a = true)) : dd l = refsE e := by
 obtain ⟨h1, h2⟩ := refsE_spec h
 refine str_unique _ _ (dd_str l hw (fun n hn => nmd_zr (checkE_wr h) n ((hm n).1 hn))) h1 (fun n => ?_)
 rw [dd_mem, hm, h2]
end Go.Proofs.YtbicehdehiakgaaGreatDoor
namespace Go.Proofs.YtbicehdehiakgaaGreatDoor
open Go.RowKit
theorem okR_low (neg : Bool) (n d : Nat) (hd : 0 < d) : okR (low neg n d) = true := by
 have hg : 0 < Nat.gcd n d := Nat.gcd_pos_of_pos_right _ hd
 have h1 : rightS (nbs (n / Nat.gcd n d)) = true := (rightS_iff _).2 (by rw [vbs_nbs])
 have h2 : rightS (nbs (d / Nat.gcd n d)) = true := (rightS_iff _).2 (by rw [vbs_nbs])
 have h3 : 0 < d / Nat.gcd n d := Nat.div_pos (Nat.le_of_dvd hd (Nat.gcd_dvd_right n d)) hg
 have h4 : Nat.gcd (n / Nat.gcd n d) (d / Nat.gcd n d) = 1 := Nat.coprime_div_gcd_div_gcd hg
 have h5 : (n / Nat.gcd n d ≠ 0) ↔ n ≠ 0 := by
  constructor
  ·rintro h rfl; exact h (by simp)
  ·intro h
   have := Nat.div_pos (Nat.le_of_dvd (by omega) (Nat.gcd_dvd_left n d)) hg
   omega
 have h6 : low (neg && decide (n ≠ 0)) (n / Nat.gcd n d) (d / Nat.gcd n d) = low neg n d := by
  have h7 : decide (n / Nat.gcd n d ≠ 0) = decide (n ≠ 0) := by rw [decide_eq_decide]; exact h5
  unfold low
  rw [h4, Nat.div_one, Nat.div_one, h7]
  cases neg <;> simp
 unfold okR
 show (rightS (nbs (d / Nat.gcd n d)) && decide (0 < vbs (nbs (d / Nat.gcd n d))) && rightS (nbs (n / Nat.gcd n d)) && decide (low (neg && decide (n ≠ 0)) (vbs (nbs (n / Nat.gcd n d))) (vbs (nbs (d / Nat.gcd n d))) = low neg n d)) = true
 rw [h1, h2, vbs_nbs, vbs_nbs, h6, decide_eq_true h3, decide_eq_true rfl]; rfl
theorem bits_le (m : Nat) (h : m < 2 ^ 400) : bitsN m ≤ 400 := by
 unfold bitsN
 split
 ·omega
 ·next h0 =>
  have := (Nat.log2_lt h0).2 h
  omega
theorem fits_low (neg : Bool) (n d : Nat) (hd : 0 < d) (hn : n < 256 ^ 16) (hd2 : d < 256 ^ 16) : fitsR (low neg n d) = true := by
 have hk : (256 : Nat) ^ 16 ≤ 2 ^ 400 := by decide +kernel
 unfold fitsR
 rw [okR_low neg n d hd]
 have e1 : vbs (low neg n d).num = n / Nat.gcd n d := vbs_nbs _
 have e2 : vbs (low neg n d).den = d / Nat.gcd n d := vbs_nbs _
 rw [e1, e2, decide_eq_true (bits_le _ (Nat.lt_of_le_of_lt (Nat.div_le_self _ _) (Nat.lt_of_lt_of_le hn hk))), decide_eq_true (bits_le _ (Nat.lt_of_le_of_lt (Nat.div_le_self _ _) (Nat.lt_of_lt_of_le hd2 hk)))]
 rfl
theorem fits_made (x y z : Int) : fitsR (madeR x y z) = true := by
 obtain ⟨h1, h2, h3⟩ := madeN_lt x y z
 exact fits_low _ _ _ h3 h1 h2
theorem stepR_all : ∀ b : Bool, ∀ i, i < 7 → ∀ j, j < 7 → (let m := low b i (1 + j); let a := if m.neg then negR m else m; let r := if signR a = 0 then centR else a; fitsR r && decide (0 < signR r)) = true := by decide +kernel
theorem stepR_fits (x y : Int) : fitsR (stepR x y 3) = true ∧ 0 < signR (stepR x y 3) := by
 have h1 : (madeN x y 3) = ((x % 7).toNat, (1 + y % 7).toNat) := rfl
 obtain ⟨a0, a1⟩ := mod_in x 7 (by omega)
 obtain ⟨b0, b1⟩ := mod_in y 7 (by omega)
 have h := stepR_all (decide (x < 0)) (x % 7).toNat (by omega) (y % 7).toNat (by omega)
 have e : 1 + (y % 7).toNat = (1 + y % 7).toNat := by omega
 rw [e] at h
 have h2 : (fitsR (stepR x y 3) && decide (0 < signR (stepR x y 3))) = true := h
 simpa using h2
theorem pool_name (k : Int) : nameB (poolS k).data.toList = true := by
 have h : ∀ i, i < 6 → nameB (pool.getD i []) = true := by decide +kernel
 obtain ⟨a0, a1⟩ := mod_in k 6 (by omega)
 exact h _ (by omega)
theorem leaf_ok (n : Int) : wrongN (leafN n) = 0 ∧ (shp (leafN n).op).ops = 0 := by
 obtain ⟨z0, z1⟩ := mod_in n 8 (by omega)
 have hop : (leafN n).op = 1 + n % 8 := by unfold leafN; split <;> rfl
 have hs : ∀ k : Nat, k < 8 → (shp (1 + (k : Int))).ops = 0 ∧ (shp (1 + (k : Int))).stp = false ∧ ((shp (1 + (k : Int))).nam = true → (shp (1 + (k : Int))).lit = false) ∧ ((shp (1 + (k : Int))).nam = false → (shp (1 + (k : Int))).lit = true) := by decide
 obtain ⟨k, hk⟩ : ∃ k : Nat, n % 8 = k := ⟨(n % 8).toNat, by omega⟩
 have hk8 : k < 8 := by omega
 obtain ⟨s1, s2, s3, s4⟩ := hs k hk8
 refine ⟨?_, by rw [hop, hk]; exact s1⟩
 unfold leafN
 rw [hk]
 split
 ·next h =>
  have h4 : ¬ (1 + (k : Int) = 4) := by rintro h4; rw [h4] at h; exact absurd h (by decide)
  unfold wrongN numOk
  simp only
  rw [s3 h, s2, h, if_neg h4]
  have hp := pool_name (n.tdiv 8)
  rw [if_neg, hp]
  ·simp
  ·simp; omega
 ·next h =>
  have h : (shp (1 + (k : Int))).nam = false := by simpa using h
  unfold wrongN numOk
  simp only
  rw [s4 h, s2, h]
  have hnum : (if 1 + (k : Int) = 4 then decide ((if 1 + (k : Int) = 4 then ofI ((n.tdiv 8) % 2) else madeR (n.tdiv 8) (n.tdiv 24) (3 * (n.tdiv 8).tmod 2)) = ofI 0) || decide ((if 1 + (k : Int) = 4 then ofI ((n.tdiv 8) % 2) else madeR (n.tdiv 8) (n.tdiv 24) (3 * (n.tdiv 8).tmod 2)) = ofI 1) else fitsR (if 1 + (k : Int) = 4 then ofI ((n.tdiv 8) % 2) else madeR (n.tdiv 8) (n.tdiv 24) (3 * (n.tdiv 8).tmod 2))) = true := by
   by_cases h4 : 1 + (k : Int) = 4
   ·simp only [if_pos h4]
    obtain ⟨p0, p1⟩ := mod_in (n.tdiv 8) 2 (by omega)
    have : (n.tdiv 8) % 2 = 0 ∨ (n.tdiv 8) % 2 = 1 := by omega
    rcases this with h | h <;> rw [h] <;> decide +kernel
   ·simp only [if_neg h4]
    exact fits_made _ _ _
  rw [if_neg]
  ·simp
  ·simp only [if_true, hnum]
   simp; omega
theorem node_ok (n : Int) (ho : (shp (1 + n % 24)).ops ≠ 0) : wrongN (nodeN n) = 0 := by
 obtain ⟨z0, z1⟩ := mod_in n 24 (by omega)
 have hs : ∀ k : Nat, k < 24 → (shp (1 + (k : Int))).ops ≠ 0 → ¬ (1 + (k : Int) = 4) ∧ (shp (1 + (k : Int))).lit = false ∧ ((shp (1 + (k : Int))).nam = true → (shp (1 + (k : Int))).stp = false) := by decide
 obtain ⟨k, hk⟩ : ∃ k : Nat, n % 24 = k := ⟨(n % 24).toNat, by omega⟩
 rw [hk] at ho
 obtain ⟨s1, s2, s3⟩ := hs k (by omega) ho
 unfold nodeN
 rw [hk]
 unfold wrongN numOk
 simp only
 rw [s2, if_neg s1]
 obtain ⟨t1, t2⟩ := stepR_fits (n.tdiv 24) (n.tdiv 48)
 have hp := pool_name (n.tdiv 24)
 cases hn : (shp (1 + (k : Int))).nam
 ·cases hst : (shp (1 + (k : Int))).stp
  ·rw [if_neg]
   ·simp
   ·simp; omega
  ·rw [if_neg]
   ·simp
   ·simp [t1, t2]; omega
 ·rw [s3 hn]
  rw [if_neg]
  ·simp [hp]
  ·simp; omega
def Dep (es : List Nd) (d : Nat) : Prop := ∀ r, chk (es ++ r) 0 = chk r d
theorem Dep.snoc {es : List Nd} {d : Nat} {n : Nd} (h : Dep es d) (hn : wrongN n = 0) (ho : (shp n.op).ops ≤ d) : Dep (es ++ [n]) (d - (shp n.op).ops + 1) := by
 intro r
 rw [List.append_assoc, h]
 show chk (n :: r) d = _
 rw [chk, if_neg (by simp [hn]), if_neg (by omega)]
theorem madeS_dep {s : List Nd × Nat} (h : Dep s.1 s.2) (n : Int) : Dep (madeS s n).1 (madeS s n).2 := by
 unfold madeS
 split
 ·obtain ⟨h1, h2⟩ := leaf_ok (n.tdiv 24)
  have := h.snoc h1 (by rw [h2]; omega)
  rw [h2] at this; exact this
 ·next hc =>
  have ho : (shp (1 + n % 24)).ops ≠ 0 := fun e => hc (.inl e)
  exact h.snoc (n := nodeN n) (node_ok n ho) (by show (shp (1 + n % 24)).ops ≤ _; omega)
theorem madeP_dep (l : List Int) : Dep (madeP l).1 (madeP l).2 := by
 have h : ∀ (l : List Int) (s : List Nd × Nat), Dep s.1 s.2 → Dep (l.foldl madeS s).1 (l.foldl madeS s).2 := by
  intro l
  induction l with
  | nil => intro s h; exact h
  | cons n l ih => intro s h; exact ih _ (madeS_dep h n)
 exact h l ([], 0) (fun r => rfl)
theorem nu_ok : wrongN (nuN 3 1) = 0 ∧ wrongN (plN 9) = 0 := by decide +kernel
theorem madeF_dep {s : List Nd × Nat} (h : Dep s.1 s.2) : Dep (madeF s).1 (madeF s).2 ∧ 0 < (madeF s).2 := by
 unfold madeF
 split
 ·next h0 =>
  have := h.snoc nu_ok.1 (by show 0 ≤ _; omega)
  rw [h0] at this
  exact ⟨this, by show 0 < 1; omega⟩
 ·exact ⟨h, by omega⟩
theorem rep_dep {es : List Nd} {d : Nat} (h : Dep es (d + 1)) : ∀ j, j ≤ d → Dep (es ++ List.replicate j (plN 9)) (d - j + 1) := by
 intro j
 induction j with
 | zero => intro _; simpa using h
 | succ j ih =>
  intro hj
  have := (ih (by omega)).snoc nu_ok.2 (by show 2 ≤ _; omega)
  rw [List.replicate_succ', ← List.append_assoc]
  have e : d - j + 1 - (shp (plN 9).op).ops + 1 = d - (j + 1) + 1 := by show d - j + 1 - 2 + 1 = _; omega
  rw [e] at this; exact this
theorem madeE_len (l : List Int) : (madeE l).length ≤ 60 ∧ 0 < (madeE l).length := by
 obtain ⟨h1, h2⟩ := madeP_len (l.take 30)
 have h3 : (l.take 30).length ≤ 30 := by rw [List.length_take]; omega
 unfold madeE
 rw [List.length_append, List.length_replicate]
 unfold madeF
 split
 ·next h0 => simp only [List.length_append, List.length_singleton]; omega
 ·next h0 => omega
theorem madeE_check (l : List Int) : checkE (madeE l) = 0 := by
 unfold checkE
 rw [if_neg (by have := madeE_len l; omega)]
 obtain ⟨h1, h2⟩ := madeF_dep (madeP_dep (l.take 30))
 obtain ⟨d, hd⟩ : ∃ d, (madeF (madeP (l.take 30))).2 = d + 1 := ⟨(madeF (madeP (l.take 30))).2 - 1, by omega⟩
 rw [hd] at h1
 have h3 := rep_dep h1 d (Nat.le_refl _) []
 unfold madeE
 rw [hd, Nat.add_sub_cancel]
 rw [List.append_nil] at h3
 rw [h3, Nat.sub_self]; rfl
theorem fits_size {a : Ra} (h : fitsR a = true) : a.num.size ≤ 1048576 ∧ a.den.size ≤ 1048576 := by
 unfold fitsR at h
 simp only [Bool.and_eq_true, decide_eq_true_eq] at h
 obtain ⟨⟨h1, h2⟩, h3⟩ := h
 obtain ⟨e1, e2, _⟩ := okR_parts h1
 obtain ⟨K, hK⟩ : ∃ K, K = 400 := ⟨_, rfl⟩
 have hk : (2 : Nat) ^ K = 256 ^ 50 := by rw [show K = 8 * 50 from by omega, show (256 : Nat) = 2 ^ 8 from rfl, ← Nat.pow_mul]
 have hlt : ∀ m, bitsN m ≤ 400 → m < 256 ^ 50 := by
  intro m hm
  unfold bitsN at hm
  by_cases h0 : m = 0
  ·rw [h0]; exact Nat.pow_pos (by omega)
  ·rw [if_neg h0] at hm
   rw [← hk]
   exact (Nat.log2_lt h0).1 (by omega)
 have g1 := nbs_size_le _ 50 (hlt _ h2)
 have g2 := nbs_size_le _ 50 (hlt _ h3)
 rw [← e1] at g1
 rw [← e2] at g2
 exact ⟨by omega, by omega⟩
theorem wrongN_fine {n : Nd} (h : wrongN n = 0) : Fine n := by
 have hn := (wrongN_parts h).2.2.2.1
 unfold numOk at hn
 have k0 : (ofI 0).num.size ≤ 1048576 ∧ (ofI 0).den.size ≤ 1048576 := by decide +kernel
 have k1 : (ofI 1).num.size ≤ 1048576 ∧ (ofI 1).den.size ≤ 1048576 := by decide +kernel
 have k2 : zR.num.size ≤ 1048576 ∧ zR.den.size ≤ 1048576 := by decide +kernel
 unfold Fine
 split at hn
 ·simp only [Bool.or_eq_true, decide_eq_true_eq] at hn
  rcases hn with hn | hn <;> rw [hn]
  ·exact k0
  ·exact k1
 ·split at hn
  ·exact fits_size hn
  ·split at hn
   ·simp only [Bool.and_eq_true] at hn
    exact fits_size hn.1
   ·rw [of_decide_eq_true hn]; exact k2
theorem check_fine {e : List Nd} (h : checkE e = 0) : ∀ n ∈ e, Fine n := fun n hn => wrongN_fine (checkE_wr h n hn)
theorem madeE_fine (l : List Int) : ∀ n ∈ madeE l, Fine n := check_fine (madeE_check l)
end Go.Proofs.YtbicehdehiakgaaGreatDoor
namespace Go.Proofs.YtbicehdehiakgaaGreatDoor
open Go.RowKit
theorem cell_other3 {b C : Nat} (w : World) (x y z : Value) (h : b ≠ C) (i : Nat) : (((w.setCell ⟨C, 0, none⟩ x).setCell ⟨C, 1, none⟩ y).setCell ⟨C, 2, none⟩ z).cell? ⟨b, i, none⟩ = w.cell? ⟨b, i, none⟩ :=
 World.cell?_of_block (((Below.heap_setCell _ ⟨C, 2, none⟩ z b h).trans (Below.heap_setCell _ ⟨C, 1, none⟩ y b h)).trans (Below.heap_setCell _ ⟨C, 0, none⟩ x b h))
def halfR : Ra := ⟨false, nbs 1, nbs 2⟩
theorem valR_ofI1 : valR (ofI 1) = ofI 1 := by decide +kernel
theorem valR_ofI2 : valR (ofI 2) = ofI 2 := by decide +kernel
theorem nbs1_size : (nbs 1).size = 1 := by decide +kernel
theorem nbs2_size : (nbs 2).size = 1 := by decide +kernel
set_option maxRecDepth 100000 in
set_option maxHeartbeats 3200000 in
theorem sQuo_half (w : World) : Calls Tryz.prog 36 #[(ofI 1).v, (ofI 2).v] w fun e w' => e = .returned (.tuple #[halfR.v, .bool true]) ∧ Below w.heap.size w w' := by
 have HV1 := Lib.hid (fun W => svalue_any (ofI 1) W (by show (nbs 1).size ≤ _; rw [nbs1_size]; omega) (by show (nbs 1).size ≤ _; rw [nbs1_size]; omega))
 have HV2 := Lib.hid (fun W => svalue_any (ofI 2) W (by show (nbs 2).size ≤ _; rw [nbs2_size]; omega) (by show (nbs 1).size ≤ _; rw [nbs1_size]; omega))
 rw [valR_ofI1] at HV1
 rw [valR_ofI2] at HV2
 have HM1 : Hid (∀ W, Calls Tryz.prog 66 #[.string (nbs 1), .string (nbs 1)] W fun e w' => e = .returned (.string (nbs 1)) ∧ Below W.heap.size W w') := fun W => rMul_nb 1 1 W (by rw [nbs1_size]; omega) (by rw [nbs1_size]; omega)
 have HM2 : Hid (∀ W, Calls Tryz.prog 66 #[.string (nbs 1), .string (nbs 2)] W fun e w' => e = .returned (.string (nbs 2)) ∧ Below W.heap.size W w') := fun W => rMul_nb 1 2 W (by rw [nbs1_size]; omega) (by rw [nbs2_size]; omega)
 have HLW : Hid (∀ W, Calls Tryz.prog 67 #[.bool false, .string (nbs 1), .string (nbs 2)] W fun e w' => e = .returned (.agg #[.bool false, .string (nbs 1), .string (nbs 2)]) ∧ Below W.heap.size W w') := fun W => slowest_any false 1 2 1 W (by omega) (by omega) (by omega) (by omega)
 have e1 : (nbs 2).toList.isEmpty = false := nbs_emp 2 false (by decide)
 have HV1' : Hid (∀ W, Calls Tryz.prog 72 #[.agg #[.bool false, .string (nbs 1), .string (nbs 1)]] W fun e w' => e = .returned (.agg #[.bool false, .string (nbs 1), .string (nbs 1)]) ∧ Below W.heap.size W w') := HV1
 have HV2' : Hid (∀ W, Calls Tryz.prog 72 #[.agg #[.bool false, .string (nbs 2), .string (nbs 1)]] W fun e w' => e = .returned (.agg #[.bool false, .string (nbs 2), .string (nbs 1)]) ∧ Below W.heap.size W w') := HV2
 show Calls Tryz.prog 36 #[.agg #[.bool false, .string (nbs 1), .string (nbs 1)], .agg #[.bool false, .string (nbs 2), .string (nbs 1)]] w fun e w' => e = .returned (.tuple #[.agg #[.bool false, .string (nbs 1), .string (nbs 2)], .bool true]) ∧ Below w.heap.size w w'
 clear HV1 HV2
 generalize nbs 1 = N1 at *
 generalize nbs 2 = N2 at *
 obtain ⟨W, hW⟩ : ∃ W, W = ((w.alloc (.cells #[.bool false, .string N1, .string N1] 31)).alloc (.cells #[.bool false, .string N2, .string N1] 31)).alloc (.cells #[.bool false, .string ⟨#[]⟩, .string ⟨#[]⟩] 31) := ⟨_, rfl⟩
 have htwo := Three.new w 31 31 31 #[.bool false, .string N1, .string N1] #[.bool false, .string N2, .string N1] #[.bool false, .string ⟨#[]⟩, .string ⟨#[]⟩]
 rw [← hW] at htwo
 obtain ⟨hk0, hk1, hk2, hba, hsz⟩ := htwo
 obtain ⟨B, hB⟩ : ∃ B, B = w.heap.size := ⟨_, rfl⟩
 have HB := Lib.hid hB
 rw [← hB] at hba hsz hk0 hk1 hk2
 have hc0 := hk0.cells
 go_enter Tryz.func36, Tryz.ntmps36
 go_wp2_with fail
 simp only [← hW, ← hB]
 clear hW hB
 refine (HV1'.out _).mono ?_
 rintro e w1 ⟨rfl, hb1⟩
 have ha1 := hk0.below hb1 hk0.lt
 have hx1 := hk1.below hb1 hk1.lt
 have hr1 := hk2.below hb1 hk2.lt
 have hB1 : Below B w w1 := hba.trans (hb1.mono (by omega))
 have hsz1 : B + 3 ≤ w1.heap.size := by have := hb1.size; omega
 have hc1 := ha1.cells
 have hf1 := ha1.froz
 have hd1 := hx1.cells
 have ha2 := ((ha1.set 0 (.bool false)).set 1 (.string N1)).set 2 (.string N1)
 have hx2 := ((hx1.other (p := ⟨B, 0, none⟩) (by show B + 1 ≠ B; omega) (.bool false)).other (p := ⟨B, 1, none⟩) (by show B + 1 ≠ B; omega) (.string N1)).other (p := ⟨B, 2, none⟩) (by show B + 1 ≠ B; omega) (.string N1)
 have hr2 := ((hr1.other (p := ⟨B, 0, none⟩) (by show B + 2 ≠ B; omega) (.bool false)).other (p := ⟨B, 1, none⟩) (by show B + 2 ≠ B; omega) (.string N1)).other (p := ⟨B, 2, none⟩) (by show B + 2 ≠ B; omega) (.string N1)
 have hB2 := below_set3 hB1 (.bool false) (.string N1) (.string N1)
 have hz2 : B + 3 ≤ (((w1.setCell ⟨B, 0, none⟩ (.bool false)).setCell ⟨B, 1, none⟩ (.string N1)).setCell ⟨B, 2, none⟩ (.string N1)).heap.size := by simp only [World.size_setCell]; exact hsz1
 clear hc0 hk0 hk1 hk2 hba hb1
 obtain ⟨w2, hw2⟩ : ∃ x, x = (((w1.setCell ⟨B, 0, none⟩ (.bool false)).setCell ⟨B, 1, none⟩ (.string N1)).setCell ⟨B, 2, none⟩ (.string N1)) := ⟨_, rfl⟩
 rw [← hw2] at ha2 hx2 hr2 hB2 hz2
 have hd2 := hx2.cells
 go_wp2_with fail
 simp only [← hw2]
 clear hw2 hc1 hf1 hd1 ha1 hx1 hr1 hB1
 refine (HV2'.out _).mono ?_
 rintro e w3 ⟨rfl, hb3⟩
 have ha3 := ha2.below hb3 ha2.lt
 have hx3 := hx2.below hb3 hx2.lt
 have hr3 := hr2.below hb3 hr2.lt
 have hB3 : Below B w w3 := hB2.trans (hb3.mono (by omega))
 have hz3 : B + 3 ≤ w3.heap.size := by have := hb3.size; omega
 have hc3 := hx3.cells
 have hf3 := hx3.froz
 have ha4 := ((ha3.other (p := ⟨B + 1, 0, none⟩) (by show B ≠ B + 1; omega) (.bool false)).other (p := ⟨B + 1, 1, none⟩) (by show B ≠ B + 1; omega) (.string N2)).other (p := ⟨B + 1, 2, none⟩) (by show B ≠ B + 1; omega) (.string N1)
 have hr4 := ((hr3.other (p := ⟨B + 1, 0, none⟩) (by show B + 2 ≠ B + 1; omega) (.bool false)).other (p := ⟨B + 1, 1, none⟩) (by show B + 2 ≠ B + 1; omega) (.string N2)).other (p := ⟨B + 1, 2, none⟩) (by show B + 2 ≠ B + 1; omega) (.string N1)
 have hx4 := ((hx3.set 0 (.bool false)).set 1 (.string N2)).set 2 (.string N1)
 have hB4 := below_at hB3 (Nat.le_succ B) (.bool false) (.string N2) (.string N1)
 have hz4 : B + 3 ≤ (((w3.setCell ⟨B + 1, 0, none⟩ (.bool false)).setCell ⟨B + 1, 1, none⟩ (.string N2)).setCell ⟨B + 1, 2, none⟩ (.string N1)).heap.size := by simp only [World.size_setCell]; exact hz3
 have hd4 := hx4.cells
 have hv4 := ha4.cells
 simp only [List.set_cons_zero, List.set_cons_succ] at hd4 hv4 ha4 hx4
 clear hb3 hd2
 obtain ⟨w4, hw4⟩ : ∃ x, x = (((w3.setCell ⟨B + 1, 0, none⟩ (.bool false)).setCell ⟨B + 1, 1, none⟩ (.string N2)).setCell ⟨B + 1, 2, none⟩ (.string N1)) := ⟨_, rfl⟩
 rw [← hw4] at ha4 hx4 hr4 hB4 hz4 hd4 hv4
 have HK : Hid (∀ w' w1 : World, ((∀ i, w'.cell? ⟨B, i, none⟩ = ([.bool false, .string N1, .string N1] : List Value)[i]?) ∧ (∀ i, w'.cell? ⟨B + 1, i, none⟩ = ([.bool false, .string N2, .string N1] : List Value)[i]?) ∧ (∃ c0 c1 c2, Blk w' (B + 2) 31 [c0, c1, c2]) ∧ B + 1 < w'.heap.size ∧ Below B w w') → Below w'.heap.size w' w1 → ((∀ i, w1.cell? ⟨B, i, none⟩ = ([.bool false, .string N1, .string N1] : List Value)[i]?) ∧ (∀ i, w1.cell? ⟨B + 1, i, none⟩ = ([.bool false, .string N2, .string N1] : List Value)[i]?) ∧ (∃ c0 c1 c2, Blk w1 (B + 2) 31 [c0, c1, c2]) ∧ B + 1 < w1.heap.size ∧ Below B w w1)) := by
  rintro w' w1 ⟨h0, h1, h2, h3, h4⟩ hb1
  exact ⟨fun i => (hb1.cell (by show B < _; omega)).trans (h0 i), fun i => (hb1.cell h3).trans (h1 i), (by obtain ⟨c0, c1, c2, h2⟩ := h2; exact ⟨c0, c1, c2, h2.below hb1 h2.lt⟩), Nat.lt_of_lt_of_le h3 hb1.size, h4.trans (hb1.mono (by omega))⟩
 have HS : Hid ((∀ i, w4.drew.cell? ⟨B, i, none⟩ = ([.bool false, .string N1, .string N1] : List Value)[i]?) ∧ (∀ i, w4.drew.cell? ⟨B + 1, i, none⟩ = ([.bool false, .string N2, .string N1] : List Value)[i]?) ∧ (∃ c0 c1 c2, Blk w4.drew (B + 2) 31 [c0, c1, c2]) ∧ B + 1 < w4.drew.heap.size ∧ Below B w w4.drew) := ⟨hv4, hd4, ⟨_, _, _, hr4⟩, by show B + 1 < w4.heap.size; omega, below_drewN hB4 1⟩
 clear ha2 hx2 hr2 hB2 hz2 ha3 hx3 hr3 hB3 hz3 hr4 hB4
 go_wp2_with fail
 simp only [← hw4]
 clear hw4 hc3 hf3 ha4 hx4
 go_wp2_with fail
 refine wp_region_noPanic ?_
 refine wp_region_held_drew (S := fun w' => (∀ i, w'.cell? ⟨B, i, none⟩ = ([.bool false, .string N1, .string N1] : List Value)[i]?) ∧ (∀ i, w'.cell? ⟨B + 1, i, none⟩ = ([.bool false, .string N2, .string N1] : List Value)[i]?) ∧ (∃ c0 c1 c2, Blk w' (B + 2) 31 [c0, c1, c2]) ∧ B + 1 < w'.heap.size ∧ Below B w w') (by kernel_rfl) HS.out (fun hHeld => ?_)
 refine wpAnyH_take (i := 0) (v := ?_) rfl (by kernel_rfl) (by kernel_rfl) (by kernel_rfl) (fun _ _ _ h => h) (Or.inl ⟨by kernel_rfl, ?_⟩) (by assumption) ?_
 rotate_left
 ·intro w hSw; (try dsimp only at hSw); go_simp
  all_goals with_reducible rfl
 try simp only [Act.put, List.setIfInBounds_toArray, List.set_cons_zero, List.set_cons_succ, List.getElem_toArray, List.getElem_cons_succ, List.getElem_cons_zero]
 refine wpAnyH_take (i := 1) (v := ?_) rfl (by kernel_rfl) (by kernel_rfl) (by kernel_rfl) (fun _ _ _ h => h) (Or.inl ⟨by kernel_rfl, ?_⟩) (by assumption) ?_
 rotate_left
 ·intro w hSw; (try dsimp only at hSw); go_simp
  all_goals with_reducible rfl
 try simp only [Act.put, List.setIfInBounds_toArray, List.set_cons_zero, List.set_cons_succ, List.getElem_toArray, List.getElem_cons_succ, List.getElem_cons_zero]
 refine wpAnyH_take (i := 2) (v := ?_) rfl (by kernel_rfl) (by kernel_rfl) (by kernel_rfl) (fun _ _ _ h => h) (Or.inl ⟨by kernel_rfl, ?_⟩) (by assumption) ?_
 rotate_left
 ·intro w hSw; (try dsimp only at hSw); go_simp
  all_goals with_reducible rfl
 try simp only [Act.put, List.setIfInBounds_toArray, List.set_cons_zero, List.set_cons_succ, List.getElem_toArray, List.getElem_cons_succ, List.getElem_cons_zero]
 refine wpAnyH_take (i := 3) (v := ?_) rfl (by kernel_rfl) (by kernel_rfl) (by kernel_rfl) (fun _ _ _ h => h) (Or.inl ⟨by kernel_rfl, ?_⟩) (by assumption) ?_
 rotate_left
 ·intro w hSw; (try dsimp only at hSw); go_simp
  all_goals with_reducible rfl
 try simp only [Act.put, List.setIfInBounds_toArray, List.set_cons_zero, List.set_cons_succ, List.getElem_toArray, List.getElem_cons_succ, List.getElem_cons_zero]
 refine wpAnyH_take (i := 4) (v := ?_) rfl (by kernel_rfl) (by kernel_rfl) (by kernel_rfl) (fun _ _ _ h => h) (Or.inl ⟨by kernel_rfl, ?_⟩) (by assumption) ?_
 rotate_left
 ·intro w hSw; (try dsimp only at hSw); go_simp
  all_goals with_reducible rfl
 try simp only [Act.put, List.setIfInBounds_toArray, List.set_cons_zero, List.set_cons_succ, List.getElem_toArray, List.getElem_cons_succ, List.getElem_cons_zero]
 refine wpAnyH_take (i := 5) (v := ?_) rfl (by kernel_rfl) (by kernel_rfl) (by kernel_rfl) (fun _ _ _ h => h) (Or.inl ⟨by kernel_rfl, ?_⟩) (by assumption) ?_
 rotate_left
 ·intro w hSw; (try dsimp only at hSw); go_simp
  all_goals with_reducible rfl
 try simp only [Act.put, List.setIfInBounds_toArray, List.set_cons_zero, List.set_cons_succ, List.getElem_toArray, List.getElem_cons_succ, List.getElem_cons_zero]
 refine wpAnyH_take (i := 6) (v := ?_) rfl (by kernel_rfl) (by kernel_rfl) (by kernel_rfl) (fun _ _ _ h => h) (Or.inl ⟨by kernel_rfl, ?_⟩) (by assumption) ?_
 rotate_left
 ·intro w hSw; (try dsimp only at hSw); go_simp
  all_goals with_reducible rfl
 try simp only [Act.put, List.setIfInBounds_toArray, List.set_cons_zero, List.set_cons_succ, List.getElem_toArray, List.getElem_cons_succ, List.getElem_cons_zero]
 refine wpAnyH_take (i := 7) (v := ?_) rfl (by kernel_rfl) (by kernel_rfl) (by kernel_rfl) (fun _ _ _ h => h) (Or.inl ⟨by kernel_rfl, ?_⟩) (by assumption) ?_
 rotate_left
 ·intro w hSw; (try dsimp only at hSw); go_simp
  all_goals with_reducible rfl
 try simp only [Act.put, List.setIfInBounds_toArray, List.set_cons_zero, List.set_cons_succ, List.getElem_toArray, List.getElem_cons_succ, List.getElem_cons_zero]
 refine wpAnyH_take (i := 8) (v := ?_) rfl (by kernel_rfl) (by kernel_rfl) (by kernel_rfl) (fun _ _ _ h => h) (Or.inl ⟨by kernel_rfl, ?_⟩) (by assumption) ?_
 rotate_left
 ·intro w hSw; (try dsimp only at hSw); go_simp
  all_goals with_reducible rfl
 try simp only [Act.put, List.setIfInBounds_toArray, List.set_cons_zero, List.set_cons_succ, List.getElem_toArray, List.getElem_cons_succ, List.getElem_cons_zero]
 refine wpAnyH_take (i := 10) (v := ?_) rfl (by kernel_rfl) (by kernel_rfl) (by kernel_rfl) (fun _ _ _ h => h) (Or.inl ⟨by kernel_rfl, ?_⟩) (by assumption) ?_
 rotate_left
 ·intro w hSw; (try dsimp only at hSw); go_simp
  all_goals with_reducible rfl
 try simp only [Act.put, List.setIfInBounds_toArray, List.set_cons_zero, List.set_cons_succ, List.getElem_toArray, List.getElem_cons_succ, List.getElem_cons_zero]
 refine wpAnyH_take (i := 11) (v := ?_) rfl (by kernel_rfl) (by kernel_rfl) (by kernel_rfl) (fun _ _ _ h => h) (Or.inl ⟨by kernel_rfl, ?_⟩) (by assumption) ?_
 rotate_left
 ·intro w hSw; (try dsimp only at hSw); go_simp
  all_goals with_reducible rfl
 try simp only [Act.put, List.setIfInBounds_toArray, List.set_cons_zero, List.set_cons_succ, List.getElem_toArray, List.getElem_cons_succ, List.getElem_cons_zero]
 refine wpAnyH_take (i := 12) (v := ?_) rfl (by kernel_rfl) (by kernel_rfl) (by kernel_rfl) (fun _ _ _ h => h) (Or.inl ⟨by kernel_rfl, ?_⟩) (by assumption) ?_
 rotate_left
 ·intro w hSw; (try dsimp only at hSw); go_simp
  all_goals with_reducible rfl
 try simp only [Act.put, List.setIfInBounds_toArray, List.set_cons_zero, List.set_cons_succ, List.getElem_toArray, List.getElem_cons_succ, List.getElem_cons_zero]
 refine wpAnyH_take (i := 13) (v := ?_) rfl (by kernel_rfl) (by kernel_rfl) (by kernel_rfl) (fun _ _ _ h => h) (Or.inl ⟨by kernel_rfl, ?_⟩) (by assumption) ?_
 rotate_left
 ·intro w hSw; (try dsimp only at hSw); go_simp
  all_goals with_reducible rfl
 try simp only [Act.put, List.setIfInBounds_toArray, List.set_cons_zero, List.set_cons_succ, List.getElem_toArray, List.getElem_cons_succ, List.getElem_cons_zero]
 refine wpAnyH_ready (rs := [9]) (by kernel_rfl) (by simp) ?_
 refine AllReadyH.cons rfl (fun K hK => ?_) AllReadyH.nil
 go_simp
 refine (HM1.out _).mono ?_
 rintro e w1 ⟨rfl, hb1⟩
 go_wp2_with fail
 refine hK.out _ _ ?_ (fun hHeld => ?_)
 ·exact HK.out _ _ (by assumption) hb1
 clear hK K
 try simp only [Act.put, List.setIfInBounds_toArray, List.set_cons_zero, List.set_cons_succ, List.getElem_toArray, List.getElem_cons_succ, List.getElem_cons_zero]
 refine wpAnyH_ready (rs := [14]) (by kernel_rfl) (by simp) ?_
 refine AllReadyH.cons rfl (fun K hK => ?_) AllReadyH.nil
 go_simp
 refine (HM2.out _).mono ?_
 rintro e w1 ⟨rfl, hb1⟩
 go_wp2_with fail
 refine hK.out _ _ ?_ (fun hHeld => ?_)
 ·exact HK.out _ _ (by assumption) hb1
 clear hK K
 try simp only [Act.put, List.setIfInBounds_toArray, List.set_cons_zero, List.set_cons_succ, List.getElem_toArray, List.getElem_cons_succ, List.getElem_cons_zero]
 refine wpAnyH_ready (rs := [15]) (by kernel_rfl) (by simp) ?_
 refine AllReadyH.cons rfl (fun K hK => ?_) AllReadyH.nil
 go_simp
 refine (HLW.out _).mono ?_
 rintro e w1 ⟨rfl, hb1⟩
 go_wp2_with fail
 refine hK.out _ _ ?_ (fun hHeld => ?_)
 ·exact HK.out _ _ (by assumption) hb1
 clear hK K
 try simp only [Act.put, List.setIfInBounds_toArray, List.set_cons_zero, List.set_cons_succ, List.getElem_toArray, List.getElem_cons_succ, List.getElem_cons_zero]
 obtain ⟨q0, q1, ⟨c0, c1, c2, q2⟩, q3, q4⟩ := hHeld
 have hr9 := q2.cells
 have hf9 := q2.froz
 refine wpAnyH_ready (rs := [16]) (by kernel_rfl) (by simp) ?_
 refine AllReadyH.cons rfl (fun K hK => ?_) AllReadyH.nil
 go_simp
 go_wp2_with fail
 refine hK.out _ _ ?_ (fun _ => ?_)
 ·have x2 := ((q2.set 0 (.bool false)).set 1 (.string N1)).set 2 (.string N2)
  refine ⟨fun i => ?_, fun i => ?_, ⟨_, _, _, x2⟩, ?_, below_at q4 (by omega) _ _ _⟩
  ·exact (cell_other3 _ _ _ _ (by omega) i).trans (q0 i)
  ·exact (cell_other3 _ _ _ _ (by omega) i).trans (q1 i)
  ·simp only [World.size_setCell]; exact q3
 clear hK K
 try simp only [Act.put, List.setIfInBounds_toArray, List.set_cons_zero, List.set_cons_succ, List.getElem_toArray, List.getElem_cons_succ, List.getElem_cons_zero]
 refine wpAnyH_take (i := 17) (v := ?_) rfl (by kernel_rfl) (by kernel_rfl) (by kernel_rfl) (fun _ _ _ h => h) (Or.inl ⟨by kernel_rfl, ?_⟩) (by assumption) ?_
 rotate_left
 ·intro w hSw; (try dsimp only at hSw); go_simp
  all_goals with_reducible rfl
 try simp only [Act.put, List.setIfInBounds_toArray, List.set_cons_zero, List.set_cons_succ, List.getElem_toArray, List.getElem_cons_succ, List.getElem_cons_zero]
 refine wpAnyH_done (by kernel_rfl) ?_ _
 refine NoPanic.normal ?_
 have HB9 := Lib.hid q4
 clear q0 q1 q3 q4 HK HS
 go_wp2
 refine bodyPost_ret (v := .tuple #[.agg #[.bool false, .string N1, .string N2], .bool true]) (by simp [results, Tryz.results36, go_sem, hr9]) rfl ⟨rfl, ?_⟩
 rw [← HB.out]; exact below_at HB9.out (by omega) _ _ _
end Go.Proofs.YtbicehdehiakgaaGreatDoor
