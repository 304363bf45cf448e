/- The proof of the statement, a part of it: Ls Lt. -/
import Derived.Test.YtbicehdehiakgaaGreatDoorC46
set_option linter.unusedVariables false
set_option linter.unusedSimpArgs false
namespace Go.Proofs.YtbicehdehiakgaaGreatDoor
open Go.RowKit
set_option maxRecDepth 100000 in
set_option maxHeartbeats 6400000 in
theorem sanity_core (w : World) (a18 : Bool) (u18 d18 : ByteArray) (a0 : Bool) (u0 d0 : ByteArray) (a100 : Bool) (u100 d100 : ByteArray) (a1 : Bool) (u1 d1 : ByteArray) (a7 : Bool) (u7 d7 : ByteArray) (a5 : Bool) (u5 d5 : ByteArray) (a8 : Bool) (u8 d8 : ByteArray) (a2 : Bool) (u2 d2 : ByteArray) (ah : Bool) (uh dh : ByteArray)
    (HO1 : Hid (∀ W, Calls Tryz.prog 37 #[.int .i64 1] W fun e w' => e = .returned (.agg #[.bool a1, .string u1, .string d1]) ∧ Below W.heap.size W w'))
    (HO2 : Hid (∀ W, Calls Tryz.prog 37 #[.int .i64 2] W fun e w' => e = .returned (.agg #[.bool a2, .string u2, .string d2]) ∧ Below W.heap.size W w'))
    (HO0 : Hid (∀ W, Calls Tryz.prog 37 #[.int .i64 0] W fun e w' => e = .returned (.agg #[.bool a0, .string u0, .string d0]) ∧ Below W.heap.size W w'))
    (HO8 : Hid (∀ W, Calls Tryz.prog 37 #[.int .i64 8] W fun e w' => e = .returned (.agg #[.bool a8, .string u8, .string d8]) ∧ Below W.heap.size W w'))
    (HQ : Hid (∀ W, Calls Tryz.prog 36 #[.agg #[.bool a1, .string u1, .string d1], .agg #[.bool a2, .string u2, .string d2]] W fun e w' => e = .returned (.tuple #[.agg #[.bool ah, .string uh, .string dh], .bool true]) ∧ Below W.heap.size W w'))
    (HN18 : Hid (∀ W, Calls Tryz.prog 40 #[.int .i64 3, .int .i64 18] W fun e w' => e = .returned (.agg #[.int .i64 3, .bool a18, .string u18, .string d18, .string ⟨#[]⟩]) ∧ Below W.heap.size W w'))
    (HN0 : Hid (∀ W, Calls Tryz.prog 40 #[.int .i64 1, .int .i64 0] W fun e w' => e = .returned (.agg #[.int .i64 1, .bool a0, .string u0, .string d0, .string ⟨#[]⟩]) ∧ Below W.heap.size W w'))
    (HN100 : Hid (∀ W, Calls Tryz.prog 40 #[.int .i64 21, .int .i64 100] W fun e w' => e = .returned (.agg #[.int .i64 21, .bool a100, .string u100, .string d100, .string ⟨#[]⟩]) ∧ Below W.heap.size W w'))
    (HN1 : Hid (∀ W, Calls Tryz.prog 40 #[.int .i64 1, .int .i64 1] W fun e w' => e = .returned (.agg #[.int .i64 1, .bool a1, .string u1, .string d1, .string ⟨#[]⟩]) ∧ Below W.heap.size W w'))
    (HN7 : Hid (∀ W, Calls Tryz.prog 40 #[.int .i64 3, .int .i64 7] W fun e w' => e = .returned (.agg #[.int .i64 3, .bool a7, .string u7, .string d7, .string ⟨#[]⟩]) ∧ Below W.heap.size W w'))
    (HN5 : Hid (∀ W, Calls Tryz.prog 40 #[.int .i64 21, .int .i64 5] W fun e w' => e = .returned (.agg #[.int .i64 21, .bool a5, .string u5, .string d5, .string ⟨#[]⟩]) ∧ Below W.heap.size W w'))
    (HNM : Hid (∀ (op : Int) (s : ByteArray) (W : World), Calls Tryz.prog 38 #[.int .i64 op, .string s] W fun e w' => e = .returned (.agg #[.int .i64 op, .bool false, .string ⟨#[]⟩, .string ⟨#[]⟩, .string s]) ∧ Below W.heap.size W w'))
    (HPL : Hid (∀ (op : Int) (W : World), Calls Tryz.prog 39 #[.int .i64 op] W fun e w' => e = .returned (.agg #[.int .i64 op, .bool false, .string ⟨#[]⟩, .string ⟨#[]⟩, .string ⟨#[]⟩]) ∧ Below W.heap.size W w'))
    (HT1 : Hid (∀ W : World, Below w.heap.size w (W.alloc (.cells #[.int .i64 5, .bool false, .string ⟨#[]⟩, .string ⟨#[]⟩, .string ⟨#[119, 97, 103, 101]⟩, .int .i64 3, .bool ah, .string uh, .string dh, .string ⟨#[]⟩, .int .i64 11, .bool false, .string ⟨#[]⟩, .string ⟨#[]⟩, .string ⟨#[]⟩] 33)) → Calls Tryz.prog 22 #[.slice (some ⟨W.heap.size, 0, none⟩) 3 3] (W.alloc (.cells #[.int .i64 5, .bool false, .string ⟨#[]⟩, .string ⟨#[]⟩, .string ⟨#[119, 97, 103, 101]⟩, .int .i64 3, .bool ah, .string uh, .string dh, .string ⟨#[]⟩, .int .i64 11, .bool false, .string ⟨#[]⟩, .string ⟨#[]⟩, .string ⟨#[]⟩] 33)) fun e w' => e = .returned (.tuple #[.string ⟨#[109, 117, 108, 40, 102, 97, 99, 116, 46, 119, 97, 103, 101, 44, 32, 49, 47, 50, 41]⟩, .int .i64 0]) ∧ Below (W.alloc (.cells #[.int .i64 5, .bool false, .string ⟨#[]⟩, .string ⟨#[]⟩, .string ⟨#[119, 97, 103, 101]⟩, .int .i64 3, .bool ah, .string uh, .string dh, .string ⟨#[]⟩, .int .i64 11, .bool false, .string ⟨#[]⟩, .string ⟨#[]⟩, .string ⟨#[]⟩] 33)).heap.size (W.alloc (.cells #[.int .i64 5, .bool false, .string ⟨#[]⟩, .string ⟨#[]⟩, .string ⟨#[119, 97, 103, 101]⟩, .int .i64 3, .bool ah, .string uh, .string dh, .string ⟨#[]⟩, .int .i64 11, .bool false, .string ⟨#[]⟩, .string ⟨#[]⟩, .string ⟨#[]⟩] 33)) w'))
    (HP2 : Hid (∀ W, Below w.heap.size w W → Calls Tryz.prog 20 #[.string ⟨#[105, 102, 40, 108, 101, 115, 115, 40, 102, 97, 99, 116, 46, 97, 103, 101, 44, 32, 49, 56, 41, 44, 32, 36, 48, 44, 32, 100, 111, 119, 110, 91, 49, 48, 48, 93, 40, 111, 119, 110, 46, 98, 97, 115, 101, 41, 41]⟩] W fun e w' => ∃ A n c, e = .returned (.tuple #[.slice A n c, .int .i64 0]) ∧ Es w' [(⟨5, ⟨false, ⟨#[]⟩, ⟨#[]⟩⟩, ⟨#[97, 103, 101]⟩⟩ : Nd), (⟨3, ⟨a18, u18, d18⟩, ⟨#[]⟩⟩ : Nd), (⟨16, ⟨false, ⟨#[]⟩, ⟨#[]⟩⟩, ⟨#[]⟩⟩ : Nd), (⟨1, ⟨a0, u0, d0⟩, ⟨#[]⟩⟩ : Nd), (⟨6, ⟨false, ⟨#[]⟩, ⟨#[]⟩⟩, ⟨#[98, 97, 115, 101]⟩⟩ : Nd), (⟨21, ⟨a100, u100, d100⟩, ⟨#[]⟩⟩ : Nd), (⟨15, ⟨false, ⟨#[]⟩, ⟨#[]⟩⟩, ⟨#[]⟩⟩ : Nd)] A n c ∧ Below W.heap.size W w'))
    (HAR : Hid (∀ W, Below w.heap.size w W → ∀ A n c, Es W [(⟨5, ⟨false, ⟨#[]⟩, ⟨#[]⟩⟩, ⟨#[97, 103, 101]⟩⟩ : Nd), (⟨3, ⟨a18, u18, d18⟩, ⟨#[]⟩⟩ : Nd), (⟨16, ⟨false, ⟨#[]⟩, ⟨#[]⟩⟩, ⟨#[]⟩⟩ : Nd), (⟨1, ⟨a0, u0, d0⟩, ⟨#[]⟩⟩ : Nd), (⟨6, ⟨false, ⟨#[]⟩, ⟨#[]⟩⟩, ⟨#[98, 97, 115, 101]⟩⟩ : Nd), (⟨21, ⟨a100, u100, d100⟩, ⟨#[]⟩⟩ : Nd), (⟨15, ⟨false, ⟨#[]⟩, ⟨#[]⟩⟩, ⟨#[]⟩⟩ : Nd)] A n c → Calls Tryz.prog 23 #[.slice A n c] W fun e w' => ∃ A' c', e = .returned (.tuple #[.slice A' 7 c', .bool true]) ∧ ArgsAt w' [[], [], [0, 1], [], [], [4], [2, 3, 5]] A' 7 c' ∧ Below W.heap.size W w'))
    (HBD : Hid (∀ k : Nat, k < 5 → ∃ s : ByteArray, [.string ⟨#[97, 100, 100, 40, 49, 44, 50, 41]⟩, .string ⟨#[48, 49]⟩, .string ⟨#[50, 47, 52]⟩, .string ⟨#[111, 119, 110, 46]⟩, .string ⟨#[110, 101, 97, 114, 91, 48, 93, 40, 49, 41]⟩][k]? = some (Value.string s) ∧ ∀ W, Below w.heap.size w W → Calls Tryz.prog 20 #[.string s] W fun e w' => ∃ A c, e = .returned (.tuple #[.slice A 0 c, .int .i64 11]) ∧ Below W.heap.size W w'))
    (HRF : Hid (∀ W, Below w.heap.size w W → ∀ A n c, Es W [(⟨6, ⟨false, ⟨#[]⟩, ⟨#[]⟩⟩, ⟨#[98]⟩⟩ : Nd), (⟨5, ⟨false, ⟨#[]⟩, ⟨#[]⟩⟩, ⟨#[98]⟩⟩ : Nd), (⟨6, ⟨false, ⟨#[]⟩, ⟨#[]⟩⟩, ⟨#[98]⟩⟩ : Nd), (⟨9, ⟨false, ⟨#[]⟩, ⟨#[]⟩⟩, ⟨#[]⟩⟩ : Nd), (⟨9, ⟨false, ⟨#[]⟩, ⟨#[]⟩⟩, ⟨#[]⟩⟩ : Nd)] A n c → Calls Tryz.prog 25 #[.slice A n c] W fun e w' => ∃ A n c, e = .returned (.slice A n c) ∧ Es w' [(⟨5, ⟨false, ⟨#[]⟩, ⟨#[]⟩⟩, ⟨#[98]⟩⟩ : Nd), (⟨6, ⟨false, ⟨#[]⟩, ⟨#[]⟩⟩, ⟨#[98]⟩⟩ : Nd)] A n c ∧ Below W.heap.size W w'))
    (HSB2 : Hid (∀ W, Below w.heap.size w W → ∀ A n c A' n' c', Es W [(⟨6, ⟨false, ⟨#[]⟩, ⟨#[]⟩⟩, ⟨#[98]⟩⟩ : Nd), (⟨5, ⟨false, ⟨#[]⟩, ⟨#[]⟩⟩, ⟨#[98]⟩⟩ : Nd), (⟨6, ⟨false, ⟨#[]⟩, ⟨#[]⟩⟩, ⟨#[98]⟩⟩ : Nd), (⟨9, ⟨false, ⟨#[]⟩, ⟨#[]⟩⟩, ⟨#[]⟩⟩ : Nd), (⟨9, ⟨false, ⟨#[]⟩, ⟨#[]⟩⟩, ⟨#[]⟩⟩ : Nd)] A n c → Es W [(⟨1, ⟨a1, u1, d1⟩, ⟨#[]⟩⟩ : Nd)] A' n' c' → Calls Tryz.prog 27 #[.slice A n c, .string ⟨#[98]⟩, .slice A' n' c'] W fun e w' => ∃ A n c, e = .returned (.tuple #[.slice A n c, .int .i64 0]) ∧ Es w' [(⟨1, ⟨a1, u1, d1⟩, ⟨#[]⟩⟩ : Nd), (⟨5, ⟨false, ⟨#[]⟩, ⟨#[]⟩⟩, ⟨#[98]⟩⟩ : Nd), (⟨1, ⟨a1, u1, d1⟩, ⟨#[]⟩⟩ : Nd), (⟨9, ⟨false, ⟨#[]⟩, ⟨#[]⟩⟩, ⟨#[]⟩⟩ : Nd), (⟨9, ⟨false, ⟨#[]⟩, ⟨#[]⟩⟩, ⟨#[]⟩⟩ : Nd)] A n c ∧ Below W.heap.size W w'))
    (HT6 : Hid (∀ W, Below w.heap.size w W → ∀ A n c, Es W [(⟨1, ⟨a1, u1, d1⟩, ⟨#[]⟩⟩ : Nd), (⟨5, ⟨false, ⟨#[]⟩, ⟨#[]⟩⟩, ⟨#[98]⟩⟩ : Nd), (⟨1, ⟨a1, u1, d1⟩, ⟨#[]⟩⟩ : Nd), (⟨9, ⟨false, ⟨#[]⟩, ⟨#[]⟩⟩, ⟨#[]⟩⟩ : Nd), (⟨9, ⟨false, ⟨#[]⟩, ⟨#[]⟩⟩, ⟨#[]⟩⟩ : Nd)] A n c → Calls Tryz.prog 22 #[.slice A n c] W fun e w' => e = .returned (.tuple #[.string ⟨#[97, 100, 100, 40, 36, 49, 44, 32, 97, 100, 100, 40, 102, 97, 99, 116, 46, 98, 44, 32, 36, 49, 41, 41]⟩, .int .i64 0]) ∧ Below W.heap.size W w'))
    (HS0 : Hid (∀ W, Below w.heap.size w W → ∀ A n c, Es W [(⟨3, ⟨a7, u7, d7⟩, ⟨#[]⟩⟩ : Nd), (⟨21, ⟨a5, u5, d5⟩, ⟨#[]⟩⟩ : Nd)] A n c → Calls Tryz.prog 33 #[.slice A n c, .int .i64 1, .agg #[.bool a0, .string u0, .string d0]] W fun e w' => ∃ A n c, e = .returned (.tuple #[.slice A n c, .int .i64 11]) ∧ Es w' [] A n c ∧ Below W.heap.size W w'))
    (HS8 : Hid (∀ W, Below w.heap.size w W → ∀ A n c, Es W [(⟨3, ⟨a7, u7, d7⟩, ⟨#[]⟩⟩ : Nd), (⟨21, ⟨a5, u5, d5⟩, ⟨#[]⟩⟩ : Nd)] A n c → Calls Tryz.prog 33 #[.slice A n c, .int .i64 0, .agg #[.bool a8, .string u8, .string d8]] W fun e w' => ∃ A n c, e = .returned (.tuple #[.slice A n c, .int .i64 0]) ∧ Es w' [(⟨3, ⟨a8, u8, d8⟩, ⟨#[]⟩⟩ : Nd), (⟨21, ⟨a5, u5, d5⟩, ⟨#[]⟩⟩ : Nd)] A n c ∧ Below W.heap.size W w'))
    (HT7 : Hid (∀ W, Below w.heap.size w W → ∀ A n c, Es W [(⟨3, ⟨a8, u8, d8⟩, ⟨#[]⟩⟩ : Nd), (⟨21, ⟨a5, u5, d5⟩, ⟨#[]⟩⟩ : Nd)] A n c → Calls Tryz.prog 22 #[.slice A n c] W fun e w' => e = .returned (.tuple #[.string ⟨#[100, 111, 119, 110, 91, 53, 93, 40, 56, 41]⟩, .int .i64 0]) ∧ Below W.heap.size W w'))
    (HC0 : Hid (∀ W, Below w.heap.size w W → Calls Tryz.prog 18 #[.slice none 0 0] W fun e w' => e = .returned (.int .i64 11) ∧ Below W.heap.size W w'))
    (HC9 : Hid (∀ W, Below w.heap.size w W → ∀ A n c, Es W [(⟨9, ⟨false, ⟨#[]⟩, ⟨#[]⟩⟩, ⟨#[]⟩⟩ : Nd)] A n c → Calls Tryz.prog 18 #[.slice A n c] W fun e w' => e = .returned (.int .i64 11) ∧ Below W.heap.size W w'))
    (HC6 : Hid (∀ W, Below w.heap.size w W → ∀ A n c, Es W [(⟨6, ⟨false, ⟨#[]⟩, ⟨#[]⟩⟩, ⟨#[]⟩⟩ : Nd)] A n c → Calls Tryz.prog 18 #[.slice A n c] W fun e w' => e = .returned (.int .i64 12) ∧ Below W.heap.size W w'))
    (HDN : Hid (decide ([(⟨6, ⟨false, ⟨#[]⟩, ⟨#[]⟩⟩, ⟨#[98]⟩⟩ : Nd), (⟨5, ⟨false, ⟨#[]⟩, ⟨#[]⟩⟩, ⟨#[98]⟩⟩ : Nd), (⟨6, ⟨false, ⟨#[]⟩, ⟨#[]⟩⟩, ⟨#[98]⟩⟩ : Nd), (⟨9, ⟨false, ⟨#[]⟩, ⟨#[]⟩⟩, ⟨#[]⟩⟩ : Nd), (⟨9, ⟨false, ⟨#[]⟩, ⟨#[]⟩⟩, ⟨#[]⟩⟩ : Nd)] = [(⟨3, ⟨a7, u7, d7⟩, ⟨#[]⟩⟩ : Nd), (⟨21, ⟨a5, u5, d5⟩, ⟨#[]⟩⟩ : Nd)]) = false)) :
    Calls Tryz.prog 12 #[] w fun e w' => e = .returned (.bool true) ∧ Below w.heap.size w w' := by
  go_enter Tryz.func12, Tryz.ntmps12
  have HB : Hid (Below w.heap.size w w) := Below.refl _ _
  go_wp2_with fail
  refine (HO1.out _).mono ?_
  rintro e w1 ⟨rfl, hb⟩
  replace HB := Lib.hid (bstep HB.out hb)
  clear hb
  go_wp2_with fail
  refine (HO2.out _).mono ?_
  rintro e w2 ⟨rfl, hb⟩
  replace HB := Lib.hid (bstep HB.out hb)
  clear hb
  go_wp2_with fail
  refine (HQ.out _).mono ?_
  rintro e w3 ⟨rfl, hb⟩
  replace HB := Lib.hid (bstep HB.out hb)
  clear hb
  go_wp2_with fail
  obtain ⟨V, hV⟩ : ∃ V, V = w3.alloc (.cells #[.bool ah, .string uh, .string dh] 31) := ⟨_, rfl⟩
  have hk : Blk V w3.heap.size 31 [.bool ah, .string uh, .string dh] := by rw [hV]; exact Blk.new w3 _ _
  have hbV : Below w.heap.size w V := by rw [hV]; exact HB.out.alloc HB.out.size _
  generalize w3.heap.size = B at *
  simp only [← hV]
  clear hV HB
  have HS : Hid ((∀ i, V.drew.cell? ⟨B, i, none⟩ = ([.bool ah, .string uh, .string dh] : List Value)[i]?) ∧ B < V.drew.heap.size ∧ Below w.heap.size w V.drew) := ⟨hk.cells, hk.lt, below_drewN hbV 1⟩
  have HK : Hid (∀ w' w1 : World, ((∀ i, w'.cell? ⟨B, i, none⟩ = ([.bool ah, .string uh, .string dh] : List Value)[i]?) ∧ B < w'.heap.size ∧ Below w.heap.size w w') → Below w'.heap.size w' w1 → ((∀ i, w1.cell? ⟨B, i, none⟩ = ([.bool ah, .string uh, .string dh] : List Value)[i]?) ∧ B < w1.heap.size ∧ Below w.heap.size w w1)) := by
    rintro w' w1 ⟨h0, h1, h2⟩ hb1
    exact ⟨fun i => (hb1.cell h1).trans (h0 i), Nat.lt_of_lt_of_le h1 hb1.size, bstep h2 hb1⟩
  clear hk hbV
  go_region_held3 (fun w' => (∀ i, w'.cell? ⟨B, i, none⟩ = ([.bool ah, .string uh, .string dh] : List Value)[i]?) ∧ B < w'.heap.size ∧ Below w.heap.size w w') (first | exact HS.out | exact HK.out _ _ (by assumption) hb1 | exact HK.out _ _ (by assumption) ((Below.refl _ _).alloc (Nat.le_refl _) _) | assumption)
    (first | (go_at_call 38; (with_reducible refine (HNM.out _ _ _).mono ?_); rintro e w1 ⟨rfl, hb1⟩) | (go_at_call 39; (with_reducible refine (HPL.out _ _).mono ?_); rintro e w1 ⟨rfl, hb1⟩) | (go_at_call 22; (with_reducible refine (HT1.out _ (by exact And.right (And.right (by assumption)))).mono ?_); rintro e wz ⟨rfl, hb1⟩))
  rename_i hH
  obtain ⟨_, _, hbz⟩ := hH
  have HB := Lib.hid hbz
  clear hbz hb1 HK HS HQ HO2 HT1
  obtain ⟨w50, rfl⟩ : ∃ x : World, x = wz := ⟨_, rfl⟩
  go_wp2_with fail
  refine (HP2.out _ HB.out).mono ?_
  rintro e w51 ⟨A2, n2, c2, rfl, hE, hb⟩
  replace HB := Lib.hid (bstep HB.out hb)
  clear hb
  obtain rfl : n2 = 7 := hE.len
  have HE2 := Lib.hid hE
  clear hE HP2
  go_wp2_with fail
  refine (HNM.out 5 _ _).mono ?_
  rintro e w52 ⟨rfl, hb⟩
  replace HB := Lib.hid (bstep HB.out hb)
  replace HE2 := Lib.hid (HE2.out.below hb)
  clear hb
  go_wp2_with fail
  refine (HN18.out _).mono ?_
  rintro e w53 ⟨rfl, hb⟩
  replace HB := Lib.hid (bstep HB.out hb)
  replace HE2 := Lib.hid (HE2.out.below hb)
  clear hb
  go_wp2_with fail
  refine (HPL.out 16 _).mono ?_
  rintro e w54 ⟨rfl, hb⟩
  replace HB := Lib.hid (bstep HB.out hb)
  replace HE2 := Lib.hid (HE2.out.below hb)
  clear hb
  go_wp2_with fail
  refine (HN0.out _).mono ?_
  rintro e w55 ⟨rfl, hb⟩
  replace HB := Lib.hid (bstep HB.out hb)
  replace HE2 := Lib.hid (HE2.out.below hb)
  clear hb
  go_wp2_with fail
  refine (HNM.out 6 _ _).mono ?_
  rintro e w56 ⟨rfl, hb⟩
  replace HB := Lib.hid (bstep HB.out hb)
  replace HE2 := Lib.hid (HE2.out.below hb)
  clear hb
  go_wp2_with fail
  refine (HN100.out _).mono ?_
  rintro e w57 ⟨rfl, hb⟩
  replace HB := Lib.hid (bstep HB.out hb)
  replace HE2 := Lib.hid (HE2.out.below hb)
  clear hb
  go_wp2_with fail
  refine (HPL.out 15 _).mono ?_
  rintro e w58 ⟨rfl, hb⟩
  replace HB := Lib.hid (bstep HB.out hb)
  replace HE2 := Lib.hid (HE2.out.below hb)
  clear hb
  go_wp2_with fail
  obtain ⟨w59, hw⟩ : ∃ x, x = w58.alloc (.cells #[.int .i64 5, .bool false, .string ⟨#[]⟩, .string ⟨#[]⟩, .string ⟨#[97, 103, 101]⟩, .int .i64 3, .bool a18, .string u18, .string d18, .string ⟨#[]⟩, .int .i64 16, .bool false, .string ⟨#[]⟩, .string ⟨#[]⟩, .string ⟨#[]⟩, .int .i64 1, .bool a0, .string u0, .string d0, .string ⟨#[]⟩, .int .i64 6, .bool false, .string ⟨#[]⟩, .string ⟨#[]⟩, .string ⟨#[98, 97, 115, 101]⟩, .int .i64 21, .bool a100, .string u100, .string d100, .string ⟨#[]⟩, .int .i64 15, .bool false, .string ⟨#[]⟩, .string ⟨#[]⟩, .string ⟨#[]⟩] 33) := ⟨_, rfl⟩
  have HW := Es_new w58 [(⟨5, ⟨false, ⟨#[]⟩, ⟨#[]⟩⟩, ⟨#[97, 103, 101]⟩⟩ : Nd), (⟨3, ⟨a18, u18, d18⟩, ⟨#[]⟩⟩ : Nd), (⟨16, ⟨false, ⟨#[]⟩, ⟨#[]⟩⟩, ⟨#[]⟩⟩ : Nd), (⟨1, ⟨a0, u0, d0⟩, ⟨#[]⟩⟩ : Nd), (⟨6, ⟨false, ⟨#[]⟩, ⟨#[]⟩⟩, ⟨#[98, 97, 115, 101]⟩⟩ : Nd), (⟨21, ⟨a100, u100, d100⟩, ⟨#[]⟩⟩ : Nd), (⟨15, ⟨false, ⟨#[]⟩, ⟨#[]⟩⟩, ⟨#[]⟩⟩ : Nd)] #[.int .i64 5, .bool false, .string ⟨#[]⟩, .string ⟨#[]⟩, .string ⟨#[97, 103, 101]⟩, .int .i64 3, .bool a18, .string u18, .string d18, .string ⟨#[]⟩, .int .i64 16, .bool false, .string ⟨#[]⟩, .string ⟨#[]⟩, .string ⟨#[]⟩, .int .i64 1, .bool a0, .string u0, .string d0, .string ⟨#[]⟩, .int .i64 6, .bool false, .string ⟨#[]⟩, .string ⟨#[]⟩, .string ⟨#[98, 97, 115, 101]⟩, .int .i64 21, .bool a100, .string u100, .string d100, .string ⟨#[]⟩, .int .i64 15, .bool false, .string ⟨#[]⟩, .string ⟨#[]⟩, .string ⟨#[]⟩] 7 rfl rfl (by omega)
  rw [← hw] at HW
  replace HW := Lib.hid HW
  have hb : Below w58.heap.size w58 w59 := by rw [hw]; exact (Below.refl _ _).alloc (Nat.le_refl _) _
  replace HB := Lib.hid (bstep HB.out hb)
  replace HE2 := Lib.hid (HE2.out.below hb)
  simp only [← hw]
  clear hw hb
  generalize w58.heap.size = C59 at *
  refine (HAR.out _ HB.out _ _ _ HE2.out).mono ?_
  rintro e w60 ⟨A3, c3, rfl, hA, hb⟩
  replace HB := Lib.hid (bstep HB.out hb)
  replace HE2 := Lib.hid (HE2.out.below hb)
  replace HW := Lib.hid (HW.out.below hb)
  clear hb
  have HAT := Lib.hid hA
  clear hA HAR HN18 HN0 HN100
  go_wp2_with fail
  refine (gSame_es HE2.out HW.out true (decide_eq_true rfl)).mono ?_
  rintro e w61 ⟨rfl, hb⟩
  replace HB := Lib.hid (bstep HB.out hb)
  replace HE2 := Lib.hid (HE2.out.below hb)
  replace HW := Lib.hid (HW.out.below hb)
  replace HAT := Lib.hid (HAT.out.below hb)
  clear hb
  clear HE2 HW
  obtain ⟨b, off, hA, _, hrow⟩ := HAT.out.rows2 (by decide)
  subst hA
  obtain ⟨X0, y0, p0, q0, _⟩ := hrow 0 [] rfl
  have p0 : w61.cell? ⟨b, off, none⟩ = some (.slice X0 0 y0) := p0
  clear q0
  obtain ⟨X2, y2, p2, q2, _⟩ := hrow 2 [0, 1] rfl
  have p2 : w61.cell? ⟨b, off + 2, none⟩ = some (.slice X2 2 y2) := p2
  obtain ⟨b2, o2, e2, _, r2⟩ := q2.at_ (k := 0) (by decide)
  subst e2
  have r20 : w61.cell? ⟨b2, o2, none⟩ = some (.int .i64 0) := r2 0 (by decide)
  have r21 : w61.cell? ⟨b2, o2 + 1, none⟩ = some (.int .i64 1) := r2 1 (by decide)
  clear r2 q2
  obtain ⟨X5, y5, p5, q5, _⟩ := hrow 5 [4] rfl
  have p5 : w61.cell? ⟨b, off + 5, none⟩ = some (.slice X5 1 y5) := p5
  obtain ⟨b5, o5, e5, _, r5⟩ := q5.at_ (k := 0) (by decide)
  subst e5
  have r50 : w61.cell? ⟨b5, o5, none⟩ = some (.int .i64 4) := r5 0 (by decide)
  clear r5 q5
  obtain ⟨X6, y6, p6, q6, _⟩ := hrow 6 [2, 3, 5] rfl
  have p6 : w61.cell? ⟨b, off + 6, none⟩ = some (.slice X6 3 y6) := p6
  obtain ⟨b6, o6, e6, _, r6⟩ := q6.at_ (k := 0) (by decide)
  subst e6
  have r60 : w61.cell? ⟨b6, o6, none⟩ = some (.int .i64 2) := r6 0 (by decide)
  have r61 : w61.cell? ⟨b6, o6 + 1, none⟩ = some (.int .i64 3) := r6 1 (by decide)
  have r62 : w61.cell? ⟨b6, o6 + 2, none⟩ = some (.int .i64 5) := r6 2 (by decide)
  clear r6 q6
  clear HAT
  clear hrow
  go_wp2_with fail
  obtain ⟨w62, hw⟩ : ∃ x, x = w61.alloc (.cells #[.string ⟨#[97, 100, 100, 40, 49, 44, 50, 41]⟩, .string ⟨#[48, 49]⟩, .string ⟨#[50, 47, 52]⟩, .string ⟨#[111, 119, 110, 46]⟩, .string ⟨#[110, 101, 97, 114, 91, 48, 93, 40, 49, 41]⟩] 9) := ⟨_, rfl⟩
  have hS : Blk w62 w61.heap.size 9 [.string ⟨#[97, 100, 100, 40, 49, 44, 50, 41]⟩, .string ⟨#[48, 49]⟩, .string ⟨#[50, 47, 52]⟩, .string ⟨#[111, 119, 110, 46]⟩, .string ⟨#[110, 101, 97, 114, 91, 48, 93, 40, 49, 41]⟩] := by rw [hw]; exact Blk.new w61 _ _
  have hb : Below w61.heap.size w61 w62 := by rw [hw]; exact (Below.refl _ _).alloc (Nat.le_refl _) _
  replace HB := Lib.hid (bstep HB.out hb)
  simp only [← hw]
  clear hw hb p0 p2 p5 p6 r20 r21 r50 r60 r61 r62
  generalize w61.heap.size = CS at *
  have HSB := Lib.hid hS
  clear hS
  go_loopg [160] 5 (fun g iv wr => ∃ k : Nat, k + g = 5 ∧ iv = .int .i64 k ∧ Below w62.heap.size w62 wr)
  case atStart => exact ⟨0, by omega, rfl, Below.refl _ _⟩
  case round =>
    obtain ⟨k, hk, rfl, hbr⟩ := hrel
    by_cases hlt : k < 5
    · obtain ⟨s, hs, hP⟩ := HBD.out k hlt
      have hc : wr.cell? ⟨CS, k, none⟩ = some (.string s) := ((hbr.cell HSB.out.lt).trans (HSB.out.cells k)).trans hs
      have HP := Lib.hid hP
      have hbw := HB.out.trans (hbr.mono HB.out.size)
      clear hs hP
      go_wp2_with fail
      refine (HP.out _ hbw).mono ?_
      rintro e wx ⟨A, c, rfl, hbx⟩
      have HBX := Lib.hid (bstep hbr hbx)
      clear hbx hbw hbr hc
      go_wp2
      go_roundg (5 - (k + 1))
      case measure => omega
      case rel => exact ⟨k + 1, by omega, by go_num, HBX.out⟩
    · have hx1 : decide (k < 5) = false := decide_eq_false hlt
      replace HB := Lib.hid (HB.out.trans (hbr.mono HB.out.size))
      clear hbr HSB HBD
      obtain ⟨w80, rfl⟩ : ∃ x : World, x = wr := ⟨_, rfl⟩
      go_wp2_with fail
      refine (HNM.out 6 _ _).mono ?_
      rintro e w81 ⟨rfl, hb⟩
      replace HB := Lib.hid (bstep HB.out hb)
      clear hb
      go_wp2_with fail
      refine (HNM.out 5 _ _).mono ?_
      rintro e w82 ⟨rfl, hb⟩
      replace HB := Lib.hid (bstep HB.out hb)
      clear hb
      go_wp2_with fail
      refine (HNM.out 6 _ _).mono ?_
      rintro e w83 ⟨rfl, hb⟩
      replace HB := Lib.hid (bstep HB.out hb)
      clear hb
      go_wp2_with fail
      refine (HPL.out 9 _).mono ?_
      rintro e w84 ⟨rfl, hb⟩
      replace HB := Lib.hid (bstep HB.out hb)
      clear hb
      go_wp2_with fail
      refine (HPL.out 9 _).mono ?_
      rintro e w85 ⟨rfl, hb⟩
      replace HB := Lib.hid (bstep HB.out hb)
      clear hb
      go_wp2_with fail
      obtain ⟨w86, hw⟩ : ∃ x, x = w85.alloc (.cells #[.int .i64 6, .bool false, .string ⟨#[]⟩, .string ⟨#[]⟩, .string ⟨#[98]⟩, .int .i64 5, .bool false, .string ⟨#[]⟩, .string ⟨#[]⟩, .string ⟨#[98]⟩, .int .i64 6, .bool false, .string ⟨#[]⟩, .string ⟨#[]⟩, .string ⟨#[98]⟩, .int .i64 9, .bool false, .string ⟨#[]⟩, .string ⟨#[]⟩, .string ⟨#[]⟩, .int .i64 9, .bool false, .string ⟨#[]⟩, .string ⟨#[]⟩, .string ⟨#[]⟩] 33) := ⟨_, rfl⟩
      have HU := Es_new w85 [(⟨6, ⟨false, ⟨#[]⟩, ⟨#[]⟩⟩, ⟨#[98]⟩⟩ : Nd), (⟨5, ⟨false, ⟨#[]⟩, ⟨#[]⟩⟩, ⟨#[98]⟩⟩ : Nd), (⟨6, ⟨false, ⟨#[]⟩, ⟨#[]⟩⟩, ⟨#[98]⟩⟩ : Nd), (⟨9, ⟨false, ⟨#[]⟩, ⟨#[]⟩⟩, ⟨#[]⟩⟩ : Nd), (⟨9, ⟨false, ⟨#[]⟩, ⟨#[]⟩⟩, ⟨#[]⟩⟩ : Nd)] #[.int .i64 6, .bool false, .string ⟨#[]⟩, .string ⟨#[]⟩, .string ⟨#[98]⟩, .int .i64 5, .bool false, .string ⟨#[]⟩, .string ⟨#[]⟩, .string ⟨#[98]⟩, .int .i64 6, .bool false, .string ⟨#[]⟩, .string ⟨#[]⟩, .string ⟨#[98]⟩, .int .i64 9, .bool false, .string ⟨#[]⟩, .string ⟨#[]⟩, .string ⟨#[]⟩, .int .i64 9, .bool false, .string ⟨#[]⟩, .string ⟨#[]⟩, .string ⟨#[]⟩] 5 rfl rfl (by omega)
      rw [← hw] at HU
      replace HU := Lib.hid HU
      have hb : Below w85.heap.size w85 w86 := by rw [hw]; exact (Below.refl _ _).alloc (Nat.le_refl _) _
      replace HB := Lib.hid (bstep HB.out hb)
      simp only [← hw]
      clear hw hb
      generalize w85.heap.size = C86 at *
      refine (HRF.out _ HB.out _ _ _ HU.out).mono ?_
      rintro e w87 ⟨A4, n4, c4, rfl, hE, hb⟩
      replace HB := Lib.hid (bstep HB.out hb)
      replace HU := Lib.hid (HU.out.below hb)
      clear hb
      obtain rfl : n4 = 2 := hE.len
      have HR := Lib.hid hE
      clear hE HRF
      go_wp2_with fail
      refine (HN1.out _).mono ?_
      rintro e w88 ⟨rfl, hb⟩
      replace HB := Lib.hid (bstep HB.out hb)
      replace HU := Lib.hid (HU.out.below hb)
      replace HR := Lib.hid (HR.out.below hb)
      clear hb
      go_wp2_with fail
      obtain ⟨w89, hw⟩ : ∃ x, x = w88.alloc (.cells #[.int .i64 1, .bool a1, .string u1, .string d1, .string ⟨#[]⟩] 33) := ⟨_, rfl⟩
      have HY := Es_new w88 [(⟨1, ⟨a1, u1, d1⟩, ⟨#[]⟩⟩ : Nd)] #[.int .i64 1, .bool a1, .string u1, .string d1, .string ⟨#[]⟩] 1 rfl rfl (by omega)
      rw [← hw] at HY
      replace HY := Lib.hid HY
      have hb : Below w88.heap.size w88 w89 := by rw [hw]; exact (Below.refl _ _).alloc (Nat.le_refl _) _
      replace HB := Lib.hid (bstep HB.out hb)
      replace HU := Lib.hid (HU.out.below hb)
      replace HR := Lib.hid (HR.out.below hb)
      simp only [← hw]
      clear hw hb
      generalize w88.heap.size = C89 at *
      refine (HSB2.out _ HB.out _ _ _ _ _ _ HU.out HY.out).mono ?_
      rintro e w90 ⟨A5, n5, c5, rfl, hE, hb⟩
      replace HB := Lib.hid (bstep HB.out hb)
      replace HU := Lib.hid (HU.out.below hb)
      replace HR := Lib.hid (HR.out.below hb)
      replace HY := Lib.hid (HY.out.below hb)
      clear hb
      obtain rfl : n5 = 5 := hE.len
      have HV := Lib.hid hE
      clear hE HSB2 HN1
      clear HY
      go_wp2_with fail
      refine (HT6.out _ HB.out _ _ _ HV.out).mono ?_
      rintro e w91 ⟨rfl, hb⟩
      replace HB := Lib.hid (bstep HB.out hb)
      replace HU := Lib.hid (HU.out.below hb)
      replace HR := Lib.hid (HR.out.below hb)
      replace HV := Lib.hid (HV.out.below hb)
      clear hb
      clear HV
      go_wp2_with fail
      refine (HNM.out 5 _ _).mono ?_
      rintro e w92 ⟨rfl, hb⟩
      replace HB := Lib.hid (bstep HB.out hb)
      replace HU := Lib.hid (HU.out.below hb)
      replace HR := Lib.hid (HR.out.below hb)
      clear hb
      go_wp2_with fail
      refine (HNM.out 6 _ _).mono ?_
      rintro e w93 ⟨rfl, hb⟩
      replace HB := Lib.hid (bstep HB.out hb)
      replace HU := Lib.hid (HU.out.below hb)
      replace HR := Lib.hid (HR.out.below hb)
      clear hb
      go_wp2_with fail
      obtain ⟨w94, hw⟩ : ∃ x, x = w93.alloc (.cells #[.int .i64 5, .bool false, .string ⟨#[]⟩, .string ⟨#[]⟩, .string ⟨#[98]⟩, .int .i64 6, .bool false, .string ⟨#[]⟩, .string ⟨#[]⟩, .string ⟨#[98]⟩] 33) := ⟨_, rfl⟩
      have HX := Es_new w93 [(⟨5, ⟨false, ⟨#[]⟩, ⟨#[]⟩⟩, ⟨#[98]⟩⟩ : Nd), (⟨6, ⟨false, ⟨#[]⟩, ⟨#[]⟩⟩, ⟨#[98]⟩⟩ : Nd)] #[.int .i64 5, .bool false, .string ⟨#[]⟩, .string ⟨#[]⟩, .string ⟨#[98]⟩, .int .i64 6, .bool false, .string ⟨#[]⟩, .string ⟨#[]⟩, .string ⟨#[98]⟩] 2 rfl rfl (by omega)
      rw [← hw] at HX
      replace HX := Lib.hid HX
      have hb : Below w93.heap.size w93 w94 := by rw [hw]; exact (Below.refl _ _).alloc (Nat.le_refl _) _
      replace HB := Lib.hid (bstep HB.out hb)
      replace HU := Lib.hid (HU.out.below hb)
      replace HR := Lib.hid (HR.out.below hb)
      simp only [← hw]
      clear hw hb
      generalize w93.heap.size = C94 at *
      refine (gSame_es HR.out HX.out true (decide_eq_true rfl)).mono ?_
      rintro e w95 ⟨rfl, hb⟩
      replace HB := Lib.hid (bstep HB.out hb)
      replace HU := Lib.hid (HU.out.below hb)
      replace HR := Lib.hid (HR.out.below hb)
      replace HX := Lib.hid (HX.out.below hb)
      clear hb
      clear HR HX
      go_wp2_with fail
      refine (HN7.out _).mono ?_
      rintro e w96 ⟨rfl, hb⟩
      replace HB := Lib.hid (bstep HB.out hb)
      replace HU := Lib.hid (HU.out.below hb)
      clear hb
      go_wp2_with fail
      refine (HN5.out _).mono ?_
      rintro e w97 ⟨rfl, hb⟩
      replace HB := Lib.hid (bstep HB.out hb)
      replace HU := Lib.hid (HU.out.below hb)
      clear hb
      go_wp2_with fail
      obtain ⟨w98, hw⟩ : ∃ x, x = w97.alloc (.cells #[.int .i64 3, .bool a7, .string u7, .string d7, .string ⟨#[]⟩, .int .i64 21, .bool a5, .string u5, .string d5, .string ⟨#[]⟩] 33) := ⟨_, rfl⟩
      have HD5 := Es_new w97 [(⟨3, ⟨a7, u7, d7⟩, ⟨#[]⟩⟩ : Nd), (⟨21, ⟨a5, u5, d5⟩, ⟨#[]⟩⟩ : Nd)] #[.int .i64 3, .bool a7, .string u7, .string d7, .string ⟨#[]⟩, .int .i64 21, .bool a5, .string u5, .string d5, .string ⟨#[]⟩] 2 rfl rfl (by omega)
      rw [← hw] at HD5
      replace HD5 := Lib.hid HD5
      have hb : Below w97.heap.size w97 w98 := by rw [hw]; exact (Below.refl _ _).alloc (Nat.le_refl _) _
      replace HB := Lib.hid (bstep HB.out hb)
      replace HU := Lib.hid (HU.out.below hb)
      simp only [← hw]
      clear hw hb
      generalize w97.heap.size = C98 at *
      refine (HO0.out _).mono ?_
      rintro e w99 ⟨rfl, hb⟩
      replace HB := Lib.hid (bstep HB.out hb)
      replace HU := Lib.hid (HU.out.below hb)
      replace HD5 := Lib.hid (HD5.out.below hb)
      clear hb
      go_wp2_with fail
      refine (HS0.out _ HB.out _ _ _ HD5.out).mono ?_
      rintro e w100 ⟨A6, n6, c6, rfl, _, hb⟩
      replace HB := Lib.hid (bstep HB.out hb)
      replace HU := Lib.hid (HU.out.below hb)
      replace HD5 := Lib.hid (HD5.out.below hb)
      clear hb
      go_wp2_with fail
      refine (HO8.out _).mono ?_
      rintro e w101 ⟨rfl, hb⟩
      replace HB := Lib.hid (bstep HB.out hb)
      replace HU := Lib.hid (HU.out.below hb)
      replace HD5 := Lib.hid (HD5.out.below hb)
      clear hb
      go_wp2_with fail
      refine (HS8.out _ HB.out _ _ _ HD5.out).mono ?_
      rintro e w102 ⟨A7, n7, c7, rfl, hE, hb⟩
      replace HB := Lib.hid (bstep HB.out hb)
      replace HU := Lib.hid (HU.out.below hb)
      replace HD5 := Lib.hid (HD5.out.below hb)
      clear hb
      obtain rfl : n7 = 2 := hE.len
      have HV7 := Lib.hid hE
      clear hE
      go_wp2_with fail
      refine (HT7.out _ HB.out _ _ _ HV7.out).mono ?_
      rintro e w103 ⟨rfl, hb⟩
      replace HB := Lib.hid (bstep HB.out hb)
      replace HU := Lib.hid (HU.out.below hb)
      replace HD5 := Lib.hid (HD5.out.below hb)
      replace HV7 := Lib.hid (HV7.out.below hb)
      clear hb
      clear HV7
      go_wp2_with fail
      refine (HC0.out _ HB.out).mono ?_
      rintro e w104 ⟨rfl, hb⟩
      replace HB := Lib.hid (bstep HB.out hb)
      replace HU := Lib.hid (HU.out.below hb)
      replace HD5 := Lib.hid (HD5.out.below hb)
      clear hb
      go_wp2_with fail
      refine (HPL.out 9 _).mono ?_
      rintro e w105 ⟨rfl, hb⟩
      replace HB := Lib.hid (bstep HB.out hb)
      replace HU := Lib.hid (HU.out.below hb)
      replace HD5 := Lib.hid (HD5.out.below hb)
      clear hb
      go_wp2_with fail
      obtain ⟨w106, hw⟩ : ∃ x, x = w105.alloc (.cells #[.int .i64 9, .bool false, .string ⟨#[]⟩, .string ⟨#[]⟩, .string ⟨#[]⟩] 33) := ⟨_, rfl⟩
      have HZ9 := Es_new w105 [(⟨9, ⟨false, ⟨#[]⟩, ⟨#[]⟩⟩, ⟨#[]⟩⟩ : Nd)] #[.int .i64 9, .bool false, .string ⟨#[]⟩, .string ⟨#[]⟩, .string ⟨#[]⟩] 1 rfl rfl (by omega)
      rw [← hw] at HZ9
      replace HZ9 := Lib.hid HZ9
      have hb : Below w105.heap.size w105 w106 := by rw [hw]; exact (Below.refl _ _).alloc (Nat.le_refl _) _
      replace HB := Lib.hid (bstep HB.out hb)
      replace HU := Lib.hid (HU.out.below hb)
      replace HD5 := Lib.hid (HD5.out.below hb)
      simp only [← hw]
      clear hw hb
      generalize w105.heap.size = C106 at *
      refine (HC9.out _ HB.out _ _ _ HZ9.out).mono ?_
      rintro e w107 ⟨rfl, hb⟩
      replace HB := Lib.hid (bstep HB.out hb)
      replace HU := Lib.hid (HU.out.below hb)
      replace HD5 := Lib.hid (HD5.out.below hb)
      replace HZ9 := Lib.hid (HZ9.out.below hb)
      clear hb
      clear HZ9
      go_wp2_with fail
      refine (HPL.out 6 _).mono ?_
      rintro e w108 ⟨rfl, hb⟩
      replace HB := Lib.hid (bstep HB.out hb)
      replace HU := Lib.hid (HU.out.below hb)
      replace HD5 := Lib.hid (HD5.out.below hb)
      clear hb
      go_wp2_with fail
      obtain ⟨w109, hw⟩ : ∃ x, x = w108.alloc (.cells #[.int .i64 6, .bool false, .string ⟨#[]⟩, .string ⟨#[]⟩, .string ⟨#[]⟩] 33) := ⟨_, rfl⟩
      have HZ6 := Es_new w108 [(⟨6, ⟨false, ⟨#[]⟩, ⟨#[]⟩⟩, ⟨#[]⟩⟩ : Nd)] #[.int .i64 6, .bool false, .string ⟨#[]⟩, .string ⟨#[]⟩, .string ⟨#[]⟩] 1 rfl rfl (by omega)
      rw [← hw] at HZ6
      replace HZ6 := Lib.hid HZ6
      have hb : Below w108.heap.size w108 w109 := by rw [hw]; exact (Below.refl _ _).alloc (Nat.le_refl _) _
      replace HB := Lib.hid (bstep HB.out hb)
      replace HU := Lib.hid (HU.out.below hb)
      replace HD5 := Lib.hid (HD5.out.below hb)
      simp only [← hw]
      clear hw hb
      generalize w108.heap.size = C109 at *
      refine (HC6.out _ HB.out _ _ _ HZ6.out).mono ?_
      rintro e w110 ⟨rfl, hb⟩
      replace HB := Lib.hid (bstep HB.out hb)
      replace HU := Lib.hid (HU.out.below hb)
      replace HD5 := Lib.hid (HD5.out.below hb)
      replace HZ6 := Lib.hid (HZ6.out.below hb)
      clear hb
      clear HZ6
      go_wp2_with fail
      refine (eSame_es HU.out HU.out true (decide_eq_true rfl)).mono ?_
      rintro e w111 ⟨rfl, hb⟩
      replace HB := Lib.hid (bstep HB.out hb)
      replace HU := Lib.hid (HU.out.below hb)
      replace HD5 := Lib.hid (HD5.out.below hb)
      clear hb
      go_wp2_with fail
      refine (eSame_es HU.out HD5.out false HDN.out).mono ?_
      rintro e w112 ⟨rfl, hb⟩
      replace HB := Lib.hid (bstep HB.out hb)
      replace HU := Lib.hid (HU.out.below hb)
      replace HD5 := Lib.hid (HD5.out.below hb)
      clear hb
      go_wp2
      go_ret
      exact ⟨rfl, HB.out⟩
end Go.Proofs.YtbicehdehiakgaaGreatDoor
namespace Go.Proofs.YtbicehdehiakgaaGreatDoor
open Go.RowKit
theorem lsanity_any (w : World) (hL : LaidE w) : Calls Tryz.prog 12 #[] w fun e w' => e = .returned (.bool true) ∧ Below w.heap.size w w' := by
  have h1 : ∀ n ∈ sE1, Fine n := sfine_of (by intro n hn; simp only [List.mem_append]; simp only [List.mem_cons, List.not_mem_nil, or_false] at hn ⊢; simp [hn])
  have h3 : ∀ n ∈ sE3, Fine n := sfine_of (by intro n hn; simp only [List.mem_append]; simp only [List.mem_cons, List.not_mem_nil, or_false] at hn ⊢; simp [hn])
  have h4 : ∀ n ∈ sE4, Fine n := sfine_of (by intro n hn; simp only [List.mem_append]; simp only [List.mem_cons, List.not_mem_nil, or_false] at hn ⊢; simp [hn])
  have h5 : ∀ n ∈ sE5, Fine n := sfine_of (by intro n hn; simp only [List.mem_append]; simp only [List.mem_cons, List.not_mem_nil, or_false] at hn ⊢; simp [hn])
  have h6 : ∀ n ∈ sE6, Fine n := sfine_of (by intro n hn; simp only [List.mem_append]; simp only [List.mem_cons, List.not_mem_nil, or_false] at hn ⊢; simp [hn])
  have h7 : ∀ n ∈ sE7, Fine n := sfine_of (by intro n hn; simp only [List.mem_append]; simp only [List.mem_cons, List.not_mem_nil, or_false] at hn ⊢; simp [hn])
  have h9 : ∀ n ∈ [plN 9], Fine n := sfine_of (by intro n hn; simp only [List.mem_append]; simp only [List.mem_cons, List.not_mem_nil, or_false] at hn ⊢; simp [hn])
  have h6p : ∀ n ∈ [plN 6], Fine n := sfine_of (by intro n hn; simp only [List.mem_append]; simp only [List.mem_cons, List.not_mem_nil, or_false] at hn ⊢; simp [hn])
  have x0 : (ofI 0).num.size ≤ 1048576 ∧ (ofI 0).den.size ≤ 1048576 := by decide +kernel
  have x8 : (ofI 8).num.size ≤ 1048576 ∧ (ofI 8).den.size ≤ 1048576 := by decide +kernel
  have hBD : ∀ k : Nat, k < 5 → ∃ s : ByteArray, [.string ⟨#[97, 100, 100, 40, 49, 44, 50, 41]⟩, .string ⟨#[48, 49]⟩, .string ⟨#[50, 47, 52]⟩, .string ⟨#[111, 119, 110, 46]⟩, .string ⟨#[110, 101, 97, 114, 91, 48, 93, 40, 49, 41]⟩][k]? = some (Value.string s) ∧ ∀ W, Below w.heap.size w W → Calls Tryz.prog 20 #[.string s] W fun e w' => ∃ A c, e = .returned (.tuple #[.slice A 0 c, .int .i64 11]) ∧ Below W.heap.size W w' := by
    have hz : ∀ (l : List UInt8), parseE l = ([], 11) → l.length ≤ 1048576 → ∀ W, Below w.heap.size w W → Calls Tryz.prog 20 #[.string ⟨l.toArray⟩] W fun e w' => ∃ A c, e = .returned (.tuple #[.slice A 0 c, .int .i64 11]) ∧ Below W.heap.size W w' := by
      intro l hl hs W hb
      refine (ret_es hl (eParse_any l W (hL.below hb) hs)).mono ?_
      rintro e w' ⟨A, n, c, he, hE, hb'⟩
      obtain rfl : n = 0 := hE.len
      exact ⟨A, c, he, hb'⟩
    intro k hk
    obtain rfl | rfl | rfl | rfl | rfl : k = 0 ∨ k = 1 ∨ k = 2 ∨ k = 3 ∨ k = 4 := by omega
    · exact ⟨_, rfl, hz [97, 100, 100, 40, 49, 44, 50, 41] f_b0 (by decide)⟩
    · exact ⟨_, rfl, hz [48, 49] f_b1 (by decide)⟩
    · exact ⟨_, rfl, hz [50, 47, 52] f_b2 (by decide)⟩
    · exact ⟨_, rfl, hz [111, 119, 110, 46] f_b3 (by decide)⟩
    · exact ⟨_, rfl, hz [110, 101, 97, 114, 91, 48, 93, 40, 49, 41] f_b4 (by decide)⟩
  exact sanity_core w (ofI 18).neg (ofI 18).num (ofI 18).den
    (ofI 0).neg (ofI 0).num (ofI 0).den
    (ofI 100).neg (ofI 100).num (ofI 100).den
    (ofI 1).neg (ofI 1).num (ofI 1).den
    (ofI 7).neg (ofI 7).num (ofI 7).den
    (ofI 5).neg (ofI 5).num (ofI 5).den
    (ofI 8).neg (ofI 8).num (ofI 8).den
    (ofI 2).neg (ofI 2).num (ofI 2).den
    halfR.neg halfR.num halfR.den
    (fun W => sOf_any 1 W (by omega) (by omega))
    (fun W => sOf_any 2 W (by omega) (by omega))
    (fun W => sOf_any 0 W (by omega) (by omega))
    (fun W => sOf_any 8 W (by omega) (by omega))
    (fun W => sQuo_half W)
    (fun W => lnumber_any 3 18 W (by omega) (by omega))
    (fun W => lnumber_any 1 0 W (by omega) (by omega))
    (fun W => lnumber_any 21 100 W (by omega) (by omega))
    (fun W => lnumber_any 1 1 W (by omega) (by omega))
    (fun W => lnumber_any 3 7 W (by omega) (by omega))
    (fun W => lnumber_any 21 5 W (by omega) (by omega))
    (fun op s W => lnamed_any op s W)
    (fun op W => lplain_any op W)
    (fun W hb => text_es (hL.below hb) (Es_new W sE1 _ 3 rfl rfl (by omega)) h1 f_c1 _ f_t1)
    (fun W hb => ret_es f_p2 (eParse_any _ W (hL.below hb) (by decide)))
    (fun W hb A n c h => args_es (hL.below hb) h)
    hBD
    (fun W hb A n c h => (eRefs_any sE3 A n c W (hL.below hb) h h3).mono fun e w' ⟨A', n', c', he, hE, hb'⟩ => ⟨A', n', c', he, by rw [f_r3] at hE; exact hE, hb'⟩)
    (fun W hb A n c A' n' c' h h' => ret_es f_s3 (eSubst_any sE3 sE4 _ A A' n c n' c' W (hL.below hb) h h' h3 h4))
    (fun W hb A n c h => text_es (hL.below hb) h h6 f_c6 _ f_t6)
    (fun W hb A n c h => ret_es f_w0 (eSwap_any sE5 1 (ofI 0) A n c W (hL.below hb) h h5 x0))
    (fun W hb A n c h => ret_es f_w1 (eSwap_any sE5 0 (ofI 8) A n c W (hL.below hb) h h5 x8))
    (fun W hb A n c h => text_es (hL.below hb) h h7 f_c7 _ f_t7)
    (fun W hb => by have := check_any [] none 0 0 W (hL.below hb) rfl (Nat.le_refl _) (by unfold maxLen; omega) (.inl rfl) (fun n hn => by cases hn); rw [f_n0] at this; exact this)
    (fun W hb A n c h => by have := check_any [plN 9] A n c W (hL.below hb) h.len h.cap h.max h.rd h9; rw [f_n1] at this; exact this)
    (fun W hb A n c h => by have := check_any [plN 6] A n c W (hL.below hb) h.len h.cap h.max h.rd h6p; rw [f_n2] at this; exact this)
    (decide_eq_false f_d)
end Go.Proofs.YtbicehdehiakgaaGreatDoor
