/- A part of the proof: Lt Lx M0. -/
import Derived.Test.YtbicehdehiakgaaGreatDoorE24
import Derived.Test.YtbicehdehiakgaaGreatDoorE27
import Derived.Test.YtbicehdehiakgaaGreatDoorE34
import Derived.Test.YtbicehdehiakgaaGreatDoorE38
set_option linter.unusedVariables false
set_option linter.unusedSimpArgs false
namespace Go.Proofs.YtbicehdehiakgaaGreatDoor
open Go.RowKit
theorem lsanity_any (w : World) (hL : LaidE w) : Calls Tryz.prog 12 #[] w fun e w' => e = .returned (.bool true) ∧ Below w.heap.size w w' := by
 have h1 : ∀ n ∈ sE1, Fine n := sfine_of (by intro n hn; simp only [List.mem_append]; simp only [List.mem_cons, List.not_mem_nil, or_false] at hn ⊢; simp [hn])
 have h3 : ∀ n ∈ sE3, Fine n := sfine_of (by intro n hn; simp only [List.mem_append]; simp only [List.mem_cons, List.not_mem_nil, or_false] at hn ⊢; simp [hn])
 have h4 : ∀ n ∈ sE4, Fine n := sfine_of (by intro n hn; simp only [List.mem_append]; simp only [List.mem_cons, List.not_mem_nil, or_false] at hn ⊢; simp [hn])
 have h5 : ∀ n ∈ sE5, Fine n := sfine_of (by intro n hn; simp only [List.mem_append]; simp only [List.mem_cons, List.not_mem_nil, or_false] at hn ⊢; simp [hn])
 have h6 : ∀ n ∈ sE6, Fine n := sfine_of (by intro n hn; simp only [List.mem_append]; simp only [List.mem_cons, List.not_mem_nil, or_false] at hn ⊢; simp [hn])
 have h7 : ∀ n ∈ sE7, Fine n := sfine_of (by intro n hn; simp only [List.mem_append]; simp only [List.mem_cons, List.not_mem_nil, or_false] at hn ⊢; simp [hn])
 have h9 : ∀ n ∈ [plN 9], Fine n := sfine_of (by intro n hn; simp only [List.mem_append]; simp only [List.mem_cons, List.not_mem_nil, or_false] at hn ⊢; simp [hn])
 have h6p : ∀ n ∈ [plN 6], Fine n := sfine_of (by intro n hn; simp only [List.mem_append]; simp only [List.mem_cons, List.not_mem_nil, or_false] at hn ⊢; simp [hn])
 have x0 : (ofI 0).num.size ≤ 1048576 ∧ (ofI 0).den.size ≤ 1048576 := by decide +kernel
 have x8 : (ofI 8).num.size ≤ 1048576 ∧ (ofI 8).den.size ≤ 1048576 := by decide +kernel
 have hBD : ∀ k : Nat, k < 5 → ∃ s : ByteArray, [.string ⟨#[97, 100, 100, 40, 49, 44, 50, 41]⟩, .string ⟨#[48, 49]⟩, .string ⟨#[50, 47, 52]⟩, .string ⟨#[111, 119, 110, 46]⟩, .string ⟨#[110, 101, 97, 114, 91, 48, 93, 40, 49, 41]⟩][k]? = some (Value.string s) ∧ ∀ W, Below w.heap.size w W → Calls Tryz.prog 20 #[.string s] W fun e w' => ∃ A c, e = .returned (.tuple #[.slice A 0 c, .int .i64 11]) ∧ Below W.heap.size W w' := by
  have hz : ∀ (l : List UInt8), parseE l = ([], 11) → l.length ≤ 1048576 → ∀ W, Below w.heap.size w W → Calls Tryz.prog 20 #[.string ⟨l.toArray⟩] W fun e w' => ∃ A c, e = .returned (.tuple #[.slice A 0 c, .int .i64 11]) ∧ Below W.heap.size W w' := by
   intro l hl hs W hb
   refine (ret_es hl (eParse_any l W (hL.below hb) hs)).mono ?_
   rintro e w' ⟨A, n, c, he, hE, hb'⟩
   obtain rfl : n = 0 := hE.len
   exact ⟨A, c, he, hb'⟩
  intro k hk
  obtain rfl | rfl | rfl | rfl | rfl : k = 0 ∨ k = 1 ∨ k = 2 ∨ k = 3 ∨ k = 4 := by omega
  ·exact ⟨_, rfl, hz [97, 100, 100, 40, 49, 44, 50, 41] f_b0 (by decide)⟩
  ·exact ⟨_, rfl, hz [48, 49] f_b1 (by decide)⟩
  ·exact ⟨_, rfl, hz [50, 47, 52] f_b2 (by decide)⟩
  ·exact ⟨_, rfl, hz [111, 119, 110, 46] f_b3 (by decide)⟩
  ·exact ⟨_, rfl, hz [110, 101, 97, 114, 91, 48, 93, 40, 49, 41] f_b4 (by decide)⟩
 exact sanity_core w (ofI 18).neg (ofI 18).num (ofI 18).den
  (ofI 0).neg (ofI 0).num (ofI 0).den
  (ofI 100).neg (ofI 100).num (ofI 100).den
  (ofI 1).neg (ofI 1).num (ofI 1).den
  (ofI 7).neg (ofI 7).num (ofI 7).den
  (ofI 5).neg (ofI 5).num (ofI 5).den
  (ofI 8).neg (ofI 8).num (ofI 8).den
  (ofI 2).neg (ofI 2).num (ofI 2).den
  halfR.neg halfR.num halfR.den
  (fun W => sOf_any 1 W (by omega) (by omega))
  (fun W => sOf_any 2 W (by omega) (by omega))
  (fun W => sOf_any 0 W (by omega) (by omega))
  (fun W => sOf_any 8 W (by omega) (by omega))
  (fun W => sQuo_half W)
  (fun W => lnumber_any 3 18 W (by omega) (by omega))
  (fun W => lnumber_any 1 0 W (by omega) (by omega))
  (fun W => lnumber_any 21 100 W (by omega) (by omega))
  (fun W => lnumber_any 1 1 W (by omega) (by omega))
  (fun W => lnumber_any 3 7 W (by omega) (by omega))
  (fun W => lnumber_any 21 5 W (by omega) (by omega))
  (fun op s W => lnamed_any op s W)
  (fun op W => lplain_any op W)
  (fun W hb => text_es (hL.below hb) (Es_new W sE1 _ 3 rfl rfl (by omega)) h1 f_c1 _ f_t1)
  (fun W hb => ret_es f_p2 (eParse_any _ W (hL.below hb) (by decide)))
  (fun W hb A n c h => args_es (hL.below hb) h)
  hBD
  (fun W hb A n c h => (eRefs_any sE3 A n c W (hL.below hb) h h3).mono fun e w' ⟨A', n', c', he, hE, hb'⟩ => ⟨A', n', c', he, by rw [f_r3] at hE; exact hE, hb'⟩)
  (fun W hb A n c A' n' c' h h' => ret_es f_s3 (eSubst_any sE3 sE4 _ A A' n c n' c' W (hL.below hb) h h' h3 h4))
  (fun W hb A n c h => text_es (hL.below hb) h h6 f_c6 _ f_t6)
  (fun W hb A n c h => ret_es f_w0 (eSwap_any sE5 1 (ofI 0) A n c W (hL.below hb) h h5 x0))
  (fun W hb A n c h => ret_es f_w1 (eSwap_any sE5 0 (ofI 8) A n c W (hL.below hb) h h5 x8))
  (fun W hb A n c h => text_es (hL.below hb) h h7 f_c7 _ f_t7)
  (fun W hb => by have := check_any [] none 0 0 W (hL.below hb) rfl (Nat.le_refl _) (by unfold maxLen; omega) (.inl rfl) (fun n hn => by cases hn); rw [f_n0] at this; exact this)
  (fun W hb A n c h => by have := check_any [plN 9] A n c W (hL.below hb) h.len h.cap h.max h.rd h9; rw [f_n1] at this; exact this)
  (fun W hb A n c h => by have := check_any [plN 6] A n c W (hL.below hb) h.len h.cap h.max h.rd h6p; rw [f_n2] at this; exact this)
  (decide_eq_false f_d)
end Go.Proofs.YtbicehdehiakgaaGreatDoor
namespace Go.Proofs.YtbicehdehiakgaaGreatDoor
open Go.RowKit
structure Zz (w : World) (l : List Int) (A : Option Addr) (n c : Nat) : Prop where
 len : n = l.length
 max : n ≤ maxLen
 rd : Rd w A (Zs l)
 rng : ∀ x ∈ l, -9223372036854775808 ≤ x ∧ x ≤ 9223372036854775807
theorem Zz.below {w w' : World} {l : List Int} {A : Option Addr} {n c : Nat} (h : Zz w l A n c) (hb : Below w.heap.size w w') : Zz w' l A n c := ⟨h.len, h.max, h.rd.below hb, h.rng⟩
theorem made_es {w : World} {l : List Int} {A : Option Addr} {n c : Nat} (h : Zz w l A n c) : Calls Tryz.prog 17 #[.slice A n c] w fun e w' => ∃ A n c, e = .returned (.slice A n c) ∧ Es w' (madeE l) A n c ∧ Below w.heap.size w w' := gMade_any l A n c w h.len h.max h.rd h.rng
end Go.Proofs.YtbicehdehiakgaaGreatDoor
namespace Go.Proofs.YtbicehdehiakgaaGreatDoor
open Go.ChangeShapes Go.WideShapes Go.ChangeAt Go.RowKit
theorem i64_in64 {x : Int} (h : (Lit.int .i64 x).wf = true) : -9223372036854775808 ≤ x ∧ x ≤ 9223372036854775807 := by
 simp only [Lit.wf, Bool.and_eq_true, decide_eq_true_eq] at h
 exact ⟨h.1, h.2⟩
theorem add_nn (b off m : Nat) : (⟨b, off, none⟩ : Addr).add m = ⟨b, off + m, none⟩ := by unfold Addr.add; split <;> simp_all
set_option maxRecDepth 100000 in
theorem zz_of_trod {H : Type} {enc : TypeId × Value → H} {W : World} {base : Nat} {spare : Nat → Bool} {held : Bool} {r : Reach} {b0 : Nat} {v : Value} {d : DataW H} {p : List MemPlace} (hv : Value.okWide Tryz.prog W r b0 27 v) (h : DataW.Trod enc Tryz.prog W base spare held 27 v d p) :
  ∃ l A n c, v = .slice A n c ∧ Zz W l A n c := by
 obtain ⟨fuel, hf⟩ := h
 have k1 : Tryz.prog.cellsOf 3 = 1 := by kernel_rfl
 obtain ⟨A, n, c, rfl⟩ := okWide_slice Tryz.underlying27 hv
 rcases open_ints Tryz.underlying27 Tryz.underlying3 k1 hf with ⟨hcs, _⟩ | ⟨a, len, cap, zs, hcs, hb, hl, hm, hzl, hx, hi, hw⟩
 ·have hcs : [Value.slice A n c] = [.slice none 0 0] := hcs
  injection hcs with hcs _
  injection hcs with h1 h2 h3
  subst h1 h2 h3
  exact ⟨[], none, 0, 0, rfl, rfl, Nat.zero_le _, .inl rfl, fun x hx => by cases hx⟩
 ·have hcs : [Value.slice A n c] = [.slice (some a) len cap] := hcs
  injection hcs with hcs _
  injection hcs with h1 h2 h3
  subst h1 h2 h3
  have hlz : n ≤ zs.length := by rw [hzl]; split <;> omega
  refine ⟨zs.take n, some a, n, c, rfl, by rw [List.length_take]; omega, Nat.le_trans hl hm, ?_, fun x hx => i64_in64 (hw x (List.mem_of_mem_take hx))⟩
  by_cases hn : n = 0
  ·subst hn; exact .inl rfl
  ·have h00 := hi 0 (by omega)
   obtain ⟨b, off, spot⟩ := a
   have hspot : spot = none := by
    have := World.cell?_spot h00
    simpa [Addr.add] using this
   subst hspot
   refine .inr ⟨b, off, rfl, ?_, fun i hil => ?_⟩
   ·rw [add_nn] at h00
    exact cell_lt h00
   ·rw [Zs_length, List.length_take] at hil
    have h1 := hi i (by omega)
    rw [add_nn] at h1
    rw [h1]
    have : (Zs (zs.take n))[i]'(by rw [Zs_length, List.length_take]; exact hil) = .int .i64 (zs.getD i 0) := by
     simp only [Zs, List.getElem_map, List.getElem_take]
     rw [List.getD_eq_getElem?_getD, List.getElem?_eq_getElem (by omega)]; rfl
    rw [this]
end Go.Proofs.YtbicehdehiakgaaGreatDoor
