/- The proof of the statement, a part of it: E2 E3 E4. -/
import Derived.Laws.StructEq
import Derived.Test.YtbicehdehiakgaaGreatDoorC21
import Derived.Test.YtbicehdehiakgaaGreatDoorC22
set_option linter.unusedVariables false
set_option linter.unusedSimpArgs false
namespace Go.Proofs.YtbicehdehiakgaaGreatDoor
open Go.RowKit
theorem dropWhile_nil {α : Type} (p : α → Bool) (l : List α) : l.dropWhile p = [] ↔ ∀ x ∈ l, p x = true := by
  induction l with
  | nil => simp
  | cons a l ih =>
    rw [List.dropWhile_cons]
    split
    · next h => rw [ih]; simp [h]
    · next h => simp [h]
theorem trimS_isEmpty (l cs : List UInt8) : (Lib.trimS l cs).isEmpty = l.all (cs.contains ·) := by
  unfold Lib.trimS Lib.trimLeftS Lib.trimRightS
  rw [Bool.eq_iff_iff, List.isEmpty_iff, dropWhile_nil, List.all_eq_true]
  constructor
  · intro h
    have h2 : l.reverse.dropWhile (cs.contains ·) = [] := by
      rcases hd : l.reverse.dropWhile (cs.contains ·) with _ | ⟨a, t⟩
      · rfl
      · exfalso
        have h3 := h a (by rw [hd]; simp)
        have h4 := List.head_dropWhile_not (cs.contains ·) (l := l.reverse) (by rw [hd]; simp)
        simp only [hd, List.head_cons] at h4
        rw [h4] at h3; cases h3
    rw [dropWhile_nil] at h2
    exact fun x hx => h2 x (by simpa using hx)
  · intro h x hx
    rw [List.mem_reverse] at hx
    exact h x (by have := (List.dropWhile_sublist _).mem hx; simpa using this)
def lettersL : List UInt8 := [97, 98, 99, 100, 101, 102, 103, 104, 105, 106, 107, 108, 109, 110, 111, 112, 113, 114, 115, 116, 117, 118, 119, 120, 121, 122]
def namesL : List UInt8 := lettersL ++ [48, 49, 50, 51, 52, 53, 54, 55, 56, 57, 95]
theorem mem_small (p q : UInt8 → Bool) (h : (List.range 256).all (fun n => p (UInt8.ofNat n) == q (UInt8.ofNat n)) = true) (c : UInt8) : p c = q c := by
  rw [List.all_eq_true] at h
  have := h c.toNat (List.mem_range.2 c.toNat_lt)
  rw [UInt8.ofNat_toNat] at this
  exact eq_of_beq this
theorem letters_mem (c : UInt8) : lettersL.contains c = letterC c := mem_small (lettersL.contains ·) letterC (by decide +kernel) c
theorem names_mem (c : UInt8) : namesL.contains c = nameC c := mem_small (namesL.contains ·) nameC (by decide +kernel) c
set_option maxHeartbeats 800000 in
theorem isName_any (s : ByteArray) (w : World) :
    Calls Tryz.prog 81 #[.string s] w fun e w' => e = .returned (.bool (nameB s.data.toList)) ∧ Below w.heap.size w w' := by
  have HN : Hid (nameB s.data.toList = ((match s.data.toList with | [] => false | c :: _ => letterC c) && decide (s.data.toList.length ≤ 20) && s.data.toList.all nameC)) := rfl
  rcases Nat.eq_zero_or_pos s.size with h0 | h0
  · have hs : s = ⟨#[]⟩ := by
      obtain ⟨⟨l⟩⟩ := s
      have h : l.length = 0 := h0
      rw [List.eq_nil_of_length_eq_zero h]
    subst hs
    clear h0
    go_enter Tryz.func81, Tryz.ntmps81
    go_wp2
    go_ret
    exact ⟨rfl, Below.refl _ _⟩
  · have he := isEmpty_of s h0
    have hlen : s.data.toList.length = s.size := by simp
    have hh : ∃ t, s.data.toList = s[0] :: t := by
      obtain ⟨⟨l⟩⟩ := s
      cases l with
      | nil => exact absurd h0 (by show ¬ 0 < 0; omega)
      | cons c l => exact ⟨l, rfl⟩
    obtain ⟨t, ht⟩ := hh
    rw [hlen] at HN
    by_cases h1 : s.size ≤ 20
    · have hc : (letterC s[0] = true ∧ 97 ≤ (s[0].toNat : Int) ∧ (s[0].toNat : Int) ≤ 122) ∨ (letterC s[0] = false ∧ (s[0].toNat : Int) < 97) ∨ (letterC s[0] = false ∧ 97 ≤ (s[0].toNat : Int) ∧ 122 < (s[0].toNat : Int)) := by
        unfold letterC
        by_cases a : 97 ≤ s[0].toNat
        · by_cases b : s[0].toNat ≤ 122
          · exact .inl ⟨by simp [a, b], by omega, by omega⟩
          · exact .inr (.inr ⟨by simp [b], by omega, by omega⟩)
        · exact .inr (.inl ⟨by simp [a], by omega⟩)
      rcases hc with ⟨hc, ha, hb⟩ | ⟨hc, ha⟩ | ⟨hc, ha, hb⟩
      · have HT : ∀ W : World, Calls Tryz.prog 114 #[.string s, .string ⟨namesL.toArray⟩] W fun e w' => e = .returned (.string ⟨(Lib.trimS s.data.toList namesL).toArray⟩) ∧ Below W.heap.size W w' :=
          fun W => Any.strings_Trim_laid Tryz.lays160 (by kernel_rfl) s ⟨namesL.toArray⟩ W (by omega) (by decide) (Go.Proofs.ascii_of_all (by decide))
        have HR : Hid ((Lib.trimS s.data.toList namesL).isEmpty = nameB s.data.toList) := by
          show _ = _
          rw [HN.out, trimS_isEmpty, ht]
          simp only [hc, Bool.true_and, decide_eq_true h1]
          congr 1
          funext c; exact names_mem c
        obtain ⟨tr, htr⟩ : ∃ x, Lib.trimS s.data.toList namesL = x := ⟨_, rfl⟩
        rw [htr] at HR
        simp only [htr] at HT
        have HT := Lib.hid HT
        clear HN hlen ht hc htr
        go_enter Tryz.func81, Tryz.ntmps81
        go_wp2_with fail
        refine (HT.out _).mono ?_
        rintro e w1 ⟨rfl, hb1⟩
        go_wp2
        go_ret
        refine ⟨?_, hb1⟩
        rw [← HR.out]
        first | rfl | (simp; done)
      all_goals
        have HR : Hid (nameB s.data.toList = false) := by
          show _ = _
          rw [HN.out, ht]
          simp [hc]
        clear HN hlen ht hc
        go_enter Tryz.func81, Tryz.ntmps81
        go_wp2
        go_ret
        exact ⟨by rw [HR.out]; rfl, Below.refl _ _⟩
    · have HR : Hid (nameB s.data.toList = false) := by
        show _ = _
        rw [HN.out]
        simp [h1]
      clear HN hlen ht
      go_enter Tryz.func81, Tryz.ntmps81
      go_wp2
      go_ret
      exact ⟨by rw [HR.out]; rfl, Below.refl _ _⟩
end Go.Proofs.YtbicehdehiakgaaGreatDoor
namespace Go.Proofs.YtbicehdehiakgaaGreatDoor
open Go.RowKit
def Sh.cells (s : Sh) : List Value := [.string ⟨s.word.toArray⟩, .int .i64 (s.ops : Int), .bool s.lit, .bool s.nam, .bool s.stp]
def Sh.v (s : Sh) : Value := .agg #[.string ⟨s.word.toArray⟩, .int .i64 (s.ops : Int), .bool s.lit, .bool s.nam, .bool s.stp]
def tabCells : List Value := shs.flatMap Sh.cells
structure LaidE (w : World) : Prop where
  base : Laid w
  glob : 0 < w.heap.size
  tab : ∀ i v, tabCells[i]? = some v → w.cell? ⟨0, i, none⟩ = some v
theorem LaidE.below {w w' : World} (h : LaidE w) (hb : Below w.heap.size w w') : LaidE w' :=
  ⟨h.base.below hb, Nat.lt_of_lt_of_le h.glob hb.size, fun i v hv => (hb.cell h.glob).trans (h.tab i v hv)⟩
theorem LaidE.alloc {w : World} (h : LaidE w) (o : Obj) : LaidE (w.alloc o) := h.below ((Below.refl _ _).alloc (Nat.le_refl _) _)
theorem LaidE.drewN {w : World} (h : LaidE w) (n : Nat) : LaidE (w.drewN n) := h.below (drewN_below _ _ _)
theorem flatMap_get {α β : Type} (f : α → List β) (m : Nat) (hf : ∀ a, (f a).length = m) (l : List α) (k i : Nat) (hi : i < m) : (l.flatMap f)[k * m + i]? = (l[k]?).bind (fun a => (f a)[i]?) := by
  induction l generalizing k with
  | nil => simp
  | cons a l ih =>
    rw [List.flatMap_cons]
    cases k with
    | zero =>
      rw [List.getElem?_append_left (by rw [hf]; omega)]
      simp
    | succ k =>
      rw [List.getElem?_append_right (by rw [hf, Nat.succ_mul]; omega), hf, show (k + 1) * m + i - m = k * m + i from by rw [Nat.succ_mul]; omega, ih]
      rfl
theorem shp_get (k : Nat) (hk : k < 25) : shs[k]? = some (shp (k : Int)) := by
  unfold shp
  rw [Int.toNat_natCast, List.getD_eq_getElem?_getD, List.getElem?_eq_getElem (by simpa [shs] using hk)]
  rfl
theorem LaidE.cell {w : World} (h : LaidE w) (k i : Nat) (hk : k < 25) (hi : i < 5) : w.cell? ⟨0, k * 5 + i, none⟩ = (shp (k : Int)).cells[i]? := by
  have h1 := flatMap_get Sh.cells 5 (fun _ => rfl) shs k i hi
  rw [shp_get k hk] at h1
  have hv : ((shp (k : Int)).cells)[i]? = some ((shp (k : Int)).cells[i]'(by show i < 5; exact hi)) := List.getElem?_eq_getElem _
  rw [hv]
  exact h.tab _ _ (h1.trans hv)
set_option maxHeartbeats 800000 in
theorem of_yes (k : Nat) (w : World) (hL : LaidE w) (h0 : 1 ≤ k) (h1 : k ≤ 24) :
    Calls Tryz.prog 77 #[.int .i64 (k : Int)] w fun e w' => e = .returned (.tuple #[(shp (k : Int)).v, .bool true]) ∧ Below w.heap.size w w' := by
  have hl := hL.alloc (.cells #[.string ⟨#[]⟩, .int .i64 0, .bool false, .bool false, .bool false] 76)
  have c0 := hl.cell k 0 (by omega) (by omega)
  have c1 := hl.cell k 1 (by omega) (by omega)
  have c2 := hl.cell k 2 (by omega) (by omega)
  have c3 := hl.cell k 3 (by omega) (by omega)
  have c4 := hl.cell k 4 (by omega) (by omega)
  have HV : Hid ((shp (k : Int)).v = .agg #[.string ⟨(shp (k : Int)).word.toArray⟩, .int .i64 ((shp (k : Int)).ops : Int), .bool (shp (k : Int)).lit, .bool (shp (k : Int)).nam, .bool (shp (k : Int)).stp]) := rfl
  generalize shp (k : Int) = s at *
  simp only [Sh.cells, List.getElem?_cons_zero, List.getElem?_cons_succ, Nat.add_zero] at c0 c1 c2 c3 c4
  clear hl hL
  go_enter Tryz.func77, Tryz.ntmps77
  go_wp2
  refine bodyPost_ret (v := .tuple #[s.v, .bool true]) (by rw [HV.out]; simp [results, Tryz.results77, go_sem]) rfl ⟨rfl, ?_⟩
  exact (Below.refl _ _).alloc (Nat.le_refl _) _
set_option maxHeartbeats 800000 in
theorem of_no (n : Int) (w : World) (h : n < 1 ∨ 24 < n) :
    Calls Tryz.prog 77 #[.int .i64 n] w fun e w' => e = .returned (.tuple #[sh0.v, .bool false]) ∧ Below w.heap.size w w' := by
  have hn : (n < 1 ∧ n < 1) ∨ (1 ≤ n ∧ 24 < n) := by omega
  clear h
  rcases hn with ⟨h, h'⟩ | ⟨h, h'⟩
  all_goals
    go_enter Tryz.func77, Tryz.ntmps77
    go_wp2
    refine bodyPost_ret (v := .tuple #[sh0.v, .bool false]) (by simp [results, Tryz.results77, go_sem, Sh.v, sh0]) rfl ⟨rfl, ?_⟩
    exact (Below.refl _ _).alloc (Nat.le_refl _) _
theorem equalIn_ra (d : Nat) (a b : Ra) (w : World) : (Op.equalIn (d + 2) 31 a.v b.v).run Tryz.prog w = .ok (decide (a = b)) w := by
  have u1 := Tryz.underlying4
  have u2 := Tryz.underlying29
  have hS : Tryz.prog.underlying 31 = some (.struct (Tryz.prog.fieldsOf 31)) := by kernel_rfl
  have hp : Tryz.prog.stoodInHeld 31 = false := by kernel_rfl
  rw [← eqRa_if (fun b => Result.ok b w) a b]
  simp only [Ra.v]
  rw [run_equalIn_agg w (d + 1) 31 _ _ hS hp]
  simp only [Program.fieldsOf, Tryz.underlying31]
  go_simp
theorem equalIn_nd (d : Nat) (a b : Nd) (w : World) : (Op.equalIn (d + 3) 33 a.v b.v).run Tryz.prog w = .ok (decide (a = b)) w := by
  have u1 := Tryz.underlying4
  have u2 := Tryz.underlying29
  have u3 := Tryz.underlying3
  have u4 := Tryz.underlying9
  have hS : Tryz.prog.underlying 33 = some (.struct (Tryz.prog.fieldsOf 33)) := by kernel_rfl
  have hp : Tryz.prog.stoodInHeld 33 = false := by kernel_rfl
  have hR := fun (n1 n2 : Bool) (u1 u2 d1 d2 : ByteArray) (w : World) => equalIn_ra d ⟨n1, u1, d1⟩ ⟨n2, u2, d2⟩ w
  simp only [Ra.v] at hR
  simp only [Nd.v]
  rw [run_equalIn_agg w (d + 2) 33 _ _ hS hp]
  simp only [Program.fieldsOf, Tryz.underlying33]
  go_simp
  by_cases h : a = b
  · subst h; simp
  · rw [decide_eq_false h]
    split
    · next h1 =>
      split
      · rfl
      · next h2 =>
        split
        · next h3 =>
          exfalso; apply h
          obtain ⟨o, ⟨n, u, e⟩, nm⟩ := a
          obtain ⟨o', ⟨n', u', e'⟩, nm'⟩ := b
          simp only at h1 h2 h3
          have h4 : n = n' ∧ u = u' ∧ e = e' := by
            refine Classical.byContradiction fun hc => h2 fun g1 g2 g3 => hc ⟨g1, g2, g3⟩
          rw [h1, h4.1, h4.2.1, h4.2.2, toList_inj h3]
        · rfl
    · rfl
theorem eql_ra (a b : Ra) (w : World) : (binOp .eql 31 a.v b.v).run Tryz.prog w = .ok (.bool (decide (a = b))) w := by
  have h := equalIn_ra 9998 a b w
  simp only [Ra.v] at h ⊢
  rw [run_eql_struct, show (10000 : Nat) = 9998 + 2 from rfl, h]
  rfl
theorem eql_nd (a b : Nd) (w : World) : (binOp .eql 33 a.v b.v).run Tryz.prog w = .ok (.bool (decide (a = b))) w := by
  have h := equalIn_nd 9997 a b w
  simp only [Nd.v] at h ⊢
  rw [run_eql_struct, show (10000 : Nat) = 9997 + 3 from rfl, h]
  rfl
theorem neq_nd (a b : Nd) (w : World) : (binOp .neq 33 a.v b.v).run Tryz.prog w = .ok (.bool (!decide (a = b))) w := by
  have h := equalIn_nd 9997 a b w
  simp only [Nd.v] at h ⊢
  rw [run_neq_struct, show (10000 : Nat) = 9997 + 3 from rfl, h]
  rfl
end Go.Proofs.YtbicehdehiakgaaGreatDoor
namespace Go.Proofs.YtbicehdehiakgaaGreatDoor
open Go.RowKit
set_option maxRecDepth 100000 in
set_option maxHeartbeats 800000 in
theorem mFits_any (a : Ra) (w : World) (hn : a.num.size ≤ 536870912) (hd : a.den.size ≤ 536870912) :
    Calls Tryz.prog 79 #[a.v] w fun e w' => e = .returned (.bool (fitsR a)) ∧ Below w.heap.size w w' := by
  have HR := Lib.hid (fun w => qRight_any a w hn hd)
  have HN := Lib.hid (fun w => natBits_any a.num w (by omega))
  have HD := Lib.hid (fun w => natBits_any a.den w (by omega))
  have HF : Hid (fitsR a = (okR a && decide (bitsN (vbs a.num) ≤ 400) && decide (bitsN (vbs a.den) ≤ 400))) := rfl
  generalize bitsN (vbs a.num) = bn at *
  generalize bitsN (vbs a.den) = bd at *
  clear hn hd
  obtain ⟨o, ho⟩ : ∃ o, okR a = o := ⟨_, rfl⟩
  rw [ho] at HR HF
  clear ho
  obtain ⟨f, hf⟩ : ∃ f, fitsR a = f := ⟨_, rfl⟩
  rw [hf] at HF ⊢
  clear hf
  obtain ⟨neg, num, den⟩ := a
  unfold Ra.v at HR ⊢
  simp only at HN HD
  obtain ⟨W, hW⟩ : ∃ W, W = w.alloc (.cells #[.bool neg, .string num, .string den] 31) := ⟨_, rfl⟩
  have hba : Below w.heap.size w W := by rw [hW]; exact (Below.refl _ _).alloc (Nat.le_refl _) _
  have hblk : Blk W w.heap.size 31 [.bool neg, .string num, .string den] := by rw [hW]; exact Blk.new w _ _
  obtain ⟨B, hB⟩ : ∃ B, B = w.heap.size := ⟨_, rfl⟩
  have HB := Lib.hid hB
  rw [← hB] at hblk hba
  have hc := hblk.cells
  cases o
  · go_enter Tryz.func79, Tryz.ntmps79
    go_wp2_with fail
    simp only [← hW, ← hB]
    clear hW hB
    refine (HR.out _).mono ?_
    rintro e w1 ⟨rfl, hb1⟩
    go_wp2
    go_ret
    exact ⟨by rw [HF.out]; rfl, by rw [← HB.out]; exact hba.trans (hb1.mono (Nat.le_of_lt hblk.lt))⟩
  · by_cases h1 : bn ≤ 400
    · go_enter Tryz.func79, Tryz.ntmps79
      go_wp2_with fail
      simp only [← hW, ← hB]
      clear hW hB
      refine (HR.out _).mono ?_
      rintro e w1 ⟨rfl, hb1⟩
      have hk1 := hblk.below hb1 hblk.lt
      have hc1 := hk1.cells
      go_wp2_with fail
      refine (HN.out _).mono ?_
      rintro e w2 ⟨rfl, hb2⟩
      have hk2 := hk1.below hb2 hk1.lt
      have hc2 := hk2.cells
      have h1' : decide ((bn : Int) ≤ 400) = true := by rw [decide_eq_true_eq]; omega
      go_wp2_with fail
      refine (HD.out _).mono ?_
      rintro e w3 ⟨rfl, hb3⟩
      go_wp2
      all_goals
        go_ret
        refine ⟨?_, by rw [← HB.out]; exact hba.trans ((bstep (bstep hb1 hb2) hb3).mono (Nat.le_of_lt hblk.lt))⟩
        rw [HF.out, decide_eq_true h1]
        simp
        omega
    · have h1' : decide ((bn : Int) ≤ 400) = false := by rw [decide_eq_false_iff_not]; omega
      go_enter Tryz.func79, Tryz.ntmps79
      go_wp2_with fail
      simp only [← hW, ← hB]
      clear hW hB
      refine (HR.out _).mono ?_
      rintro e w1 ⟨rfl, hb1⟩
      have hk1 := hblk.below hb1 hblk.lt
      have hc1 := hk1.cells
      go_wp2_with fail
      refine (HN.out _).mono ?_
      rintro e w2 ⟨rfl, hb2⟩
      go_wp2
      go_ret
      refine ⟨?_, by rw [← HB.out]; exact hba.trans ((bstep hb1 hb2).mono (Nat.le_of_lt hblk.lt))⟩
      rw [HF.out, decide_eq_false h1]
      rfl
end Go.Proofs.YtbicehdehiakgaaGreatDoor
