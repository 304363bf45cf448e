/- The proof of the statement, a part of it: Ea S4 S5 S6 S7 Gc Gd L1 Lh Ge Eb Ec Ed Ee Ef Eg Sq. -/
import Derived.Lib.UnsafeStr
import Derived.Lib.AppendStr
import Derived.Lib.Builder
import Derived.Laws.Externs
import Derived.Shelf.Strings.SlTrimAscii
import Derived.Test.YtbicehdehiakgaaGreatDoorC22
import Derived.Test.YtbicehdehiakgaaGreatDoorC30
set_option linter.unusedVariables false
set_option linter.unusedSimpArgs false
namespace Go.Proofs.YtbicehdehiakgaaGreatDoor
open Go.RowKit
set_option maxHeartbeats 1000000 in
set_option maxRecDepth 100000 in
theorem cc_used (b : Nat) (w : World) (h0 : w.cell? ⟨b, 0, none⟩ = some (.pointer (some ⟨b, 0, none⟩))) :
    Calls Tryz.prog 121 #[.pointer (some ⟨b, 0, none⟩)] w fun e w' => e = .returned (.tuple #[]) ∧ w' = w := by
  obtain ⟨j, hj, _⟩ := Option.map_eq_some_iff.1 (show (Tryz.prog.info? 91).map (·.size) = some 2 by kernel_rfl)
  go_enter Tryz.func121, Tryz.ntmps121
  go_wp2
  rw [Lib.run_neq_ptr_same w _ Tryz.underlying88 hj]
  go_wp2
  go_end0
  exact ⟨rfl, rfl⟩
set_option maxHeartbeats 1000000 in
set_option maxRecDepth 100000 in
theorem cc_fresh (b : Nat) (w : World) (h0 : w.cell? ⟨b, 0, none⟩ = some (.pointer none)) (hsh : w.shape? b = some (91, 2)) (hfz : w.frozen? ⟨b, 0, none⟩ = false) :
    Calls Tryz.prog 121 #[.pointer (some ⟨b, 0, none⟩)] w fun e w' => e = .returned (.tuple #[]) ∧ w' = w.setCell ⟨b, 0, none⟩ (.pointer (some ⟨b, 0, none⟩)) := by
  obtain ⟨j, hj, hjs⟩ := Option.map_eq_some_iff.1 (show (Tryz.prog.info? 91).map (·.size) = some 2 by kernel_rfl)
  go_enter Tryz.func121, Tryz.ntmps121
  go_wp2
  rw [Lib.run_to_unsafe w ⟨b, 0, none⟩ Tryz.underlying88 Tryz.underlying181 hj (by rw [hjs]; decide) hsh (Nat.zero_lt_succ 1)]
  simp only [Result.andThen]
  rw [Oper.upon_value]
  go_wp2
  rw [run_callFunc_extern Tryz.func160 (by kernel_rfl) (by kernel_rfl) (by kernel_rfl) (e := Extern.AbiNoEscape.same) (by kernel_rfl)]
  rw [Lib.run_noEscape]
  simp only [Result.andThen]
  rw [Oper.upon_value]
  go_wp2
  rw [Lib.run_from_unsafe w ⟨b, 0, none⟩ Tryz.underlying181 Tryz.underlying88 hj hsh (by kernel_rfl)]
  simp only [Result.andThen]
  rw [Oper.upon_value]
  go_wp2
  go_end0
  exact ⟨rfl, rfl⟩
end Go.Proofs.YtbicehdehiakgaaGreatDoor
namespace Go.Proofs.YtbicehdehiakgaaGreatDoor
open Go.RowKit
def befN (a b : Nd) : Bool := decide (a.op < b.op) || (decide (a.op = b.op) && Op.bytesLess a.name.toList b.name.toList)
end Go.Proofs.YtbicehdehiakgaaGreatDoor
namespace Go.Proofs.YtbicehdehiakgaaGreatDoor
open Go.RowKit
theorem below_at5 {B C : Nat} {w w' : World} (h : Below B w w') (hC : B ≤ C) (x y z u v : Value) : Below B w (((((w'.setCell ⟨C, 0, none⟩ x).setCell ⟨C, 1, none⟩ y).setCell ⟨C, 2, none⟩ z).setCell ⟨C, 3, none⟩ u).setCell ⟨C, 4, none⟩ v) :=
  ((below_at h hC x y z).setCell (p := ⟨C, 3, none⟩) hC _).setCell (p := ⟨C, 4, none⟩) hC _
end Go.Proofs.YtbicehdehiakgaaGreatDoor
namespace Go.Proofs.YtbicehdehiakgaaGreatDoor
open Go.RowKit
def nmN (op : Int) (s : ByteArray) : Nd := ⟨op, zR, s⟩
def plN (op : Int) : Nd := ⟨op, zR, ⟨#[]⟩⟩
def nuN (op n : Int) : Nd := ⟨op, ofI n, ⟨#[]⟩⟩
set_option maxRecDepth 100000 in
set_option maxHeartbeats 800000 in
theorem lnamed_any (op : Int) (s : ByteArray) (w : World) : Calls Tryz.prog 38 #[.int .i64 op, .string s] w fun e w' => e = .returned (nmN op s).v ∧ Below w.heap.size w w' := by
  show Calls Tryz.prog 38 #[.int .i64 op, .string s] w fun e w' => e = .returned (.agg #[.int .i64 op, .bool false, .string ⟨#[]⟩, .string ⟨#[]⟩, .string s]) ∧ Below w.heap.size w w'
  go_enter Tryz.func38, Tryz.ntmps38
  go_wp2
  have hc := (Blk.new w 33 #[.int .i64 op, .bool false, .string ⟨#[]⟩, .string ⟨#[]⟩, .string s]).cells
  refine bodyPost_ret (v := .agg #[.int .i64 op, .bool false, .string ⟨#[]⟩, .string ⟨#[]⟩, .string s]) (by simp [results, Tryz.results38, go_sem, hc]) rfl ⟨rfl, (Below.refl _ _).alloc (Nat.le_refl _) _⟩
set_option maxRecDepth 100000 in
set_option maxHeartbeats 800000 in
theorem lplain_any (op : Int) (w : World) : Calls Tryz.prog 39 #[.int .i64 op] w fun e w' => e = .returned (plN op).v ∧ Below w.heap.size w w' := by
  show Calls Tryz.prog 39 #[.int .i64 op] w fun e w' => e = .returned (.agg #[.int .i64 op, .bool false, .string ⟨#[]⟩, .string ⟨#[]⟩, .string ⟨#[]⟩]) ∧ Below w.heap.size w w'
  go_enter Tryz.func39, Tryz.ntmps39
  go_wp2
  have hc := (Blk.new w 33 #[.int .i64 op, .bool false, .string ⟨#[]⟩, .string ⟨#[]⟩, .string ⟨#[]⟩]).cells
  refine bodyPost_ret (v := .agg #[.int .i64 op, .bool false, .string ⟨#[]⟩, .string ⟨#[]⟩, .string ⟨#[]⟩]) (by simp [results, Tryz.results39, go_sem, hc]) rfl ⟨rfl, (Below.refl _ _).alloc (Nat.le_refl _) _⟩
set_option maxRecDepth 100000 in
set_option maxHeartbeats 800000 in
theorem lnumber_any (op n : Int) (w : World) (h0 : -9223372036854775808 ≤ n) (h1 : n ≤ 9223372036854775807) : Calls Tryz.prog 40 #[.int .i64 op, .int .i64 n] w fun e w' => e = .returned (nuN op n).v ∧ Below w.heap.size w w' := by
  have HO := Lib.hid (fun W => sOf_any n W h0 h1)
  have HN : Hid ((nuN op n).v = .agg #[.int .i64 op, .bool (ofI n).neg, .string (ofI n).num, .string (ofI n).den, .string ⟨#[]⟩]) := rfl
  generalize nuN op n = nn at *
  generalize ofI n = a at *
  obtain ⟨ng, nu, nd⟩ := a
  unfold Ra.v at HO
  simp only at HO HN
  obtain ⟨W, hW⟩ : ∃ W, W = w.alloc (.cells #[.int .i64 0, .bool false, .string ⟨#[]⟩, .string ⟨#[]⟩, .string ⟨#[]⟩] 33) := ⟨_, rfl⟩
  have hba : Below w.heap.size w W := by rw [hW]; exact (Below.refl _ _).alloc (Nat.le_refl _) _
  have hk0 : Blk W w.heap.size 33 [.int .i64 0, .bool false, .string ⟨#[]⟩, .string ⟨#[]⟩, .string ⟨#[]⟩] := by rw [hW]; exact Blk.new w _ _
  have hsz : W.heap.size = w.heap.size + 1 := by rw [hW]; exact Array.size_push _
  obtain ⟨B, hB⟩ : ∃ B, B = w.heap.size := ⟨_, rfl⟩
  have HB := Lib.hid hB
  rw [← hB] at hba hsz hk0
  go_enter Tryz.func40, Tryz.ntmps40
  go_wp2_with fail
  simp only [← hW, ← hB]
  clear hW hB
  refine (HO.out _).mono ?_
  rintro e w1 ⟨rfl, hb1⟩
  have hk := hk0.below hb1 hk0.lt
  have hB1 : Below B w w1 := hba.trans (hb1.mono (Nat.le_of_lt hk0.lt))
  have hc := hk.cells
  have hf := hk.froz
  have HB1 := Lib.hid hB1
  clear hb1 hB1 hba hk hk0
  go_wp2
  refine bodyPost_ret (v := .agg #[.int .i64 op, .bool ng, .string nu, .string nd, .string ⟨#[]⟩]) (by simp [results, Tryz.results40, go_sem, hc]) rfl ⟨by rw [HN.out], ?_⟩
  rw [← HB.out]; exact below_at5 HB1.out (Nat.le_refl _) _ _ _ _ _
end Go.Proofs.YtbicehdehiakgaaGreatDoor
namespace Go.Proofs.YtbicehdehiakgaaGreatDoor
open Go.RowKit
def chainL : Nat → List Nd
  | 0 => [nmN 6 ⟨#[97]⟩]
  | n + 1 => chainL n ++ [nuN 3 (n : Int), plN 9]
theorem chainL_len (n : Nat) : (chainL n).length = 2 * n + 1 := by
  induction n with
  | zero => rfl
  | succ n ih => rw [chainL, List.length_append, ih]; show 2 * n + 1 + 2 = _; omega
theorem nuN_form (op : Int) (k : Int) (h0 : -9223372036854775808 ≤ k) (h1 : k ≤ 9223372036854775807) : ∃ (a : Bool) (u d : ByteArray), (nuN op k) = ⟨op, ⟨a, u, d⟩, ⟨#[]⟩⟩ ∧ ∀ W : World, Calls Tryz.prog 40 #[.int .i64 op, .int .i64 k] W fun e w' => e = .returned (.agg #[.int .i64 op, .bool a, .string u, .string d, .string ⟨#[]⟩]) ∧ Below W.heap.size W w' :=
  ⟨(ofI k).neg, (ofI k).num, (ofI k).den, rfl, fun W => lnumber_any op k W h0 h1⟩
set_option maxRecDepth 100000 in
set_option maxHeartbeats 3200000 in
theorem lchain_any (n : Nat) (w : World) (hn : n ≤ 100) :
    Calls Tryz.prog 35 #[.int .i64 n] w fun e w' => ∃ A c, e = .returned (.slice A (2 * n + 1) c) ∧ Es w' (chainL n) A (2 * n + 1) c ∧ Below w.heap.size w w' := by
  have HPL : Hid (∀ (op : Int) (W : World), Calls Tryz.prog 39 #[.int .i64 op] W fun e w' => e = .returned (.agg #[.int .i64 op, .bool false, .string ⟨#[]⟩, .string ⟨#[]⟩, .string ⟨#[]⟩]) ∧ Below W.heap.size W w') := fun op W => lplain_any op W
  have HNM : Hid (∀ (W : World), Calls Tryz.prog 38 #[.int .i64 6, .string ⟨#[97]⟩] W fun e w' => e = .returned (.agg #[.int .i64 6, .bool false, .string ⟨#[]⟩, .string ⟨#[]⟩, .string ⟨#[97]⟩]) ∧ Below W.heap.size W w') := fun W => lnamed_any 6 ⟨#[97]⟩ W
  go_enter Tryz.func35, Tryz.ntmps35
  go_wp2_with fail
  refine (HNM.out _).mono ?_
  rintro e w1 ⟨rfl, hb1⟩
  have HO : Hid ((w1.alloc (.cells #[.int .i64 6, .bool false, .string ⟨#[]⟩, .string ⟨#[]⟩, .string ⟨#[97]⟩] 33)).ownsRow w.heap.size 33 5 (.slice (some ⟨w1.heap.size, 0, none⟩) 1 1) 1 (nds (chainL 0))) :=
    World.ownsRow_lit (base := w.heap.size) (e := 33) (size := 5) w1 #[.int .i64 6, .bool false, .string ⟨#[]⟩, .string ⟨#[]⟩, .string ⟨#[97]⟩] 1 hb1.size (by unfold maxLen; omega) rfl
  have HB : Hid (Below w.heap.size w (w1.alloc (.cells #[.int .i64 6, .bool false, .string ⟨#[]⟩, .string ⟨#[]⟩, .string ⟨#[97]⟩] 33))) := hb1.alloc hb1.size _
  clear hb1
  go_wp2
  go_loopg [3, 4] n (fun g ov iv wr => ∃ k : Nat, k + g = n ∧ iv = .int .i64 k ∧ Hid (wr.ownsRow w.heap.size 33 5 ov (2 * k + 1) (nds (chainL k))) ∧ Below w.heap.size w wr)
  case atStart => exact ⟨0, by omega, rfl, HO, HB.out⟩
  case round =>
    obtain ⟨k, hk, rfl, hown, hbr⟩ := hrel
    clear HO HB
    by_cases hlt : k < n
    · obtain ⟨a, u, d, hq, HNU⟩ := nuN_form 3 (k : Int) (by omega) (by omega)
      have HQ : Hid (chainL (k + 1) = chainL k ++ [⟨3, ⟨a, u, d⟩, ⟨#[]⟩⟩, plN 9]) := by show _ = _; rw [chainL, hq]
      have HNU := Lib.hid HNU
      clear hq
      go_wp2_with fail
      refine (HNU.out _).mono ?_
      rintro e w2 ⟨rfl, hb2⟩
      have hbr := bstep hbr hb2
      have hown := Lib.hid (own_below hown.out hb2)
      clear hb2
      go_wp2_with fail
      refine (HPL.out _ _).mono ?_
      rintro e w3 ⟨rfl, hb3⟩
      have hbr := bstep hbr hb3
      have hown := Lib.hid (own_below hown.out hb3)
      have HBR := Lib.hid hbr
      clear hb3 hbr
      go_wp2_with (at_builtin; go_must (refine wpList_push w3 #[.int .i64 3, .bool a, .string u, .string d, .string ⟨#[]⟩, .int .i64 9, .bool false, .string ⟨#[]⟩, .string ⟨#[]⟩, .string ⟨#[]⟩] rfl _ _ 22 rfl w.heap.size 33 _ 5 64 2 Tryz.underlying22 info_node rfl (by decide) _ (2 * k + 1) (nds (chainL k)) rfl hown.out rfl rfl ?_ ?_ ?_ ?_ ?_))
      any_goals first | (unfold maxLen; omega) | omega
      · first | (simp [Value.oneCell']; done) | (intro u hu; simp only [List.mem_cons, List.not_mem_nil, or_false] at hu; rcases hu with rfl | rfl | rfl | rfl | rfl | rfl | rfl | rfl | rfl | rfl <;> rfl)
      · exact HBR.out.size
      intro v' w4 hown4 hb4
      have HOWN : Hid (w4.ownsRow w.heap.size 33 5 v' (2 * (k + 1) + 1) (nds (chainL (k + 1)))) := by
        show World.ownsRow _ _ _ _ _ _ _
        rw [HQ.out, nds_append, show 2 * (k + 1) + 1 = 2 * k + 1 + 2 from by omega]; exact hown4
      have HB4 := Lib.hid (HBR.out.trans hb4)
      clear hown4 hb4
      go_wp2
      go_roundg (n - (k + 1))
      case measure => omega
      case rel => exact ⟨k + 1, by omega, by go_num, HOWN, HB4.out⟩
    · obtain rfl : k = n := by omega
      have hx1 : decide (k < k) = false := decide_eq_false hlt
      obtain ⟨A, cp, rfl, g1, g2, g3, g4⟩ := own_rd hown.out
      have HBR := Lib.hid hbr
      have G3 := Lib.hid g3
      clear hbr g3 g4 hown
      go_wp2
      go_ret
      exact ⟨A, cp, rfl, ⟨(chainL_len k).symm, g1, g2, G3.out⟩, HBR.out⟩
end Go.Proofs.YtbicehdehiakgaaGreatDoor
namespace Go.Proofs.YtbicehdehiakgaaGreatDoor
open Go.RowKit
def noText : List PanicEntry := [{ v := .iface 80 (.agg #[]), recovered := false }]
set_option maxRecDepth 100000 in
set_option maxHeartbeats 800000 in
theorem want_yes (s p : ByteArray) (R : Nat) (t : TypeId) (l : List Value) (w : World) (hR : Blk w R t (.string s :: l)) (h : Lib.hasPrefix s.data.toList p.data.toList = true) :
    Calls Tryz.prog 87 #[.pointer (some ⟨R, 0, none⟩), .string p] w fun e w' => e = .returned (.tuple #[]) ∧ w' = w.setCell ⟨R, 0, none⟩ (.string ⟨(Lib.trimPrefix s.data.toList p.data.toList).toArray⟩) := by
  have hc := hR.cells
  have hf := hR.froz
  clear hR
  go_enter Tryz.func87, Tryz.ntmps87
  go_wp2_with fail
  refine (Tryz.strings_CutPrefix s p _).mono ?_
  rintro e w' ⟨rfl, rfl⟩
  go_wp2
  go_end0
  exact ⟨rfl, rfl⟩
set_option maxRecDepth 100000 in
set_option maxHeartbeats 800000 in
theorem want_no (s p : ByteArray) (R : Nat) (t : TypeId) (l : List Value) (w : World) (hR : Blk w R t (.string s :: l)) (h : Lib.hasPrefix s.data.toList p.data.toList = false) :
    Calls Tryz.prog 87 #[.pointer (some ⟨R, 0, none⟩), .string p] w fun e w' => e = .panicked noText ∧ w' = w := by
  have hc := hR.cells
  have hf := hR.froz
  clear hR
  go_enter Tryz.func87, Tryz.ntmps87
  go_wp2_with fail
  refine (Tryz.strings_CutPrefix s p _).mono ?_
  rintro e w' ⟨rfl, rfl⟩
  go_wp2
  exact ⟨rfl, rfl, rfl⟩
end Go.Proofs.YtbicehdehiakgaaGreatDoor
namespace Go.Proofs.YtbicehdehiakgaaGreatDoor
open Go.RowKit
def restS (s cs : ByteArray) : ByteArray := ⟨(Lib.trimLeftS s.data.toList cs.data.toList).toArray⟩
theorem restS_le (s cs : ByteArray) : (restS s cs).size ≤ s.size := by
  show (Lib.trimLeftS s.data.toList cs.data.toList).toArray.size ≤ s.data.size
  rw [List.size_toArray, ← Array.length_toList]
  exact (List.dropWhile_sublist _).length_le
theorem trimLeft_at (s cs : ByteArray) (w : World) (hcs : cs.size < 4294967281) (ha : ∀ (j : Nat) b, cs.data.toList[j]? = some b → b.toNat < 128) :
    Calls Tryz.prog 117 #[.string s, .string cs] w fun e w' => e = .returned (.string (restS s cs)) ∧ Below w.heap.size w w' :=
  Any.strings_TrimLeft_laid Tryz.lays161 (by kernel_rfl) s cs w hcs ha
set_option maxRecDepth 100000 in
set_option maxHeartbeats 800000 in
theorem span_any (s cs : ByteArray) (R : Nat) (t : TypeId) (l : List Value) (w : World) (hR : Blk w R t (.string s :: l)) (h63 : s.size ≤ 9223372036854775807)
    (hcs : cs.size < 4294967281) (ha : ∀ (j : Nat) b, cs.data.toList[j]? = some b → b.toNat < 128) :
    Calls Tryz.prog 85 #[.pointer (some ⟨R, 0, none⟩), .string cs] w fun e w' => e = .returned (.string (s.extract 0 (s.size - (restS s cs).size))) ∧ ∃ W, Below w.heap.size w W ∧ w' = W.setCell ⟨R, 0, none⟩ (.string (restS s cs)) := by
  have HT := Lib.hid (fun W => trimLeft_at s cs W hcs ha)
  have hle := restS_le s cs
  generalize restS s cs = r at *
  have hc0 := hR.cells
  clear hcs ha
  obtain ⟨k, hk⟩ : ∃ k, s.size - r.size = k := ⟨_, rfl⟩
  have hw : IntKind.i64.wrap ((s.size : Int) - (r.size : Int)) = (k : Int) := by rw [IntWalk.i64_in _ (by omega)]; omega
  have hks : k ≤ s.size := by omega
  rw [hk]
  go_enter Tryz.func85, Tryz.ntmps85
  go_wp2_with fail
  refine (HT.out _).mono ?_
  rintro e w1 ⟨rfl, hb1⟩
  have hR1 := hR.below hb1 hR.lt
  have hc := hR1.cells
  have hf := hR1.froz
  have HB1 := Lib.hid hb1
  clear hb1 hR hc0 hR1
  go_wp2
  go_region
  go_wp2
  go_ret
  exact ⟨rfl, w1.drew, below_drewN HB1.out 1, rfl⟩
end Go.Proofs.YtbicehdehiakgaaGreatDoor
namespace Go.Proofs.YtbicehdehiakgaaGreatDoor
open Go.RowKit
def Under (R : Nat) (w : World) : Prop := ∃ w0 : World, Laid w0 ∧ Below w0.heap.size w0 w ∧ w0.heap.size ≤ R
theorem Under.onl {R : Nat} {w w' : World} (h : Under R w) (ho : Onl R w w') : Under R w' := by
  obtain ⟨w0, h1, h2, h3⟩ := h
  exact ⟨w0, h1, h2.trans (ho.below h3 h2.size), h3⟩
theorem Under.laid {R : Nat} {w : World} (h : Under R w) : Laid w := by
  obtain ⟨w0, h1, h2, _⟩ := h
  exact h1.below h2
theorem Onl.fresh {G b : Nat} {w w' : World} (h : Onl G w w') (hb : w.heap.size ≤ b) (i : Nat) (u : Value) : Onl G w (w'.setCell ⟨b, i, none⟩ u) :=
  ⟨h.os, h.tape, h.output, by simpa [World.setCell] using h.size, fun k hk hne => (Below.heap_setCell w' _ u k (by show k ≠ b; omega)).trans (h.block k hk hne)⟩
theorem span_at (s cs : ByteArray) (R : Nat) (t : TypeId) (l : List Value) (w : World) (hR : Blk w R t (.string s :: l)) (h63 : s.size ≤ 9223372036854775807)
    (hcs : cs.size < 4294967281) (ha : ∀ (j : Nat) b, cs.data.toList[j]? = some b → b.toNat < 128) :
    Calls Tryz.prog 85 #[.pointer (some ⟨R, 0, none⟩), .string cs] w fun e w' => e = .returned (.string (s.extract 0 (s.size - (restS s cs).size))) ∧ Blk w' R t (.string (restS s cs) :: l) ∧ Onl R w w' :=
  (span_any s cs R t l w hR h63 hcs ha).mono (by
    rintro e w' ⟨rfl, W, hb, rfl⟩
    exact ⟨rfl, (hR.below hb hR.lt).set 0 _, (Onl.of_below hb).set 0 _⟩)
def numC : ByteArray := ⟨#[45, 47, 48, 49, 50, 51, 52, 53, 54, 55, 56, 57]⟩
set_option maxRecDepth 100000 in
set_option maxHeartbeats 800000 in
theorem number_at (s : ByteArray) (R : Nat) (t : TypeId) (l : List Value) (w : World) (hR : Blk w R t (.string s :: l)) (hU : Under R w) (hs : s.size ≤ 1048576) (x : ByteArray) (hx : s.extract 0 (s.size - (restS s numC).size) = x) :
    Calls Tryz.prog 90 #[.pointer (some ⟨R, 0, none⟩)] w fun e w' => (if (ratParse x).2 then e = .returned (ratParse x).1.v else e = .panicked noText) ∧ Blk w' R t (.string (restS s numC) :: l) ∧ Onl R w w' := by
  have hxs : x.size ≤ 1048576 := by rw [← hx, ByteArray.size_extract]; omega
  have HS := fun (W : World) (h : Blk W R t (.string s :: l)) => span_at s numC R t l W h (by omega) (by decide) (ascii_of_all (by decide))
  simp only [hx] at HS
  have HQ := fun (W : World) (h : Laid W) => qParse_any x W h hxs
  generalize restS s numC = q at *
  clear hx hxs
  generalize ratParse x = v at *
  obtain ⟨⟨vn, vu, vd⟩, vb⟩ := v
  unfold Ra.v at HQ ⊢
  simp only at HQ ⊢
  unfold numC at HS
  have HS := Lib.hid HS
  have HQ := Lib.hid HQ
  obtain ⟨W, hW⟩ : ∃ W, W = w.alloc (.cells #[.bool false, .string ⟨#[]⟩, .string ⟨#[]⟩] 31) := ⟨_, rfl⟩
  have hba : Below w.heap.size w W := by rw [hW]; exact (Below.refl _ _).alloc (Nat.le_refl _) _
  have hk0 : Blk W w.heap.size 31 [.bool false, .string ⟨#[]⟩, .string ⟨#[]⟩] := by rw [hW]; exact Blk.new w _ _
  have hsz : W.heap.size = w.heap.size + 1 := by rw [hW]; exact Array.size_push _
  obtain ⟨B, hB⟩ : ∃ B, B = w.heap.size := ⟨_, rfl⟩
  have HB := Lib.hid hB
  rw [← hB] at hba hsz hk0
  have hRB : R < B := by rw [HB.out]; exact hR.lt
  have hRW := hR.below hba hRB
  have hUW : Under R W := hU.onl (Onl.of_below (by rw [← HB.out]; exact hba))
  have HOW : Hid (Onl R w W) := Onl.of_below (by rw [← HB.out]; exact hba)
  clear hR hU hba
  cases vb
  all_goals
    simp only [if_true, if_false, Bool.false_eq_true]
    go_enter Tryz.func90, Tryz.ntmps90
    go_wp2_with fail
    simp only [← hW, ← hB]
    clear hW hB
    refine (HS.out _ hRW).mono ?_
    rintro e w1 ⟨rfl, hk1, ho1⟩
    have hr1 := ho1.blk hk0 (by omega)
    have hl1 := (hUW.onl ho1).laid
    have HO1 := Lib.hid (HOW.out.trans ho1)
    clear hk0 hRW hUW HOW ho1
    go_wp2_with fail
    refine (HQ.out _ hl1).mono ?_
    rintro e w2 ⟨rfl, hb2⟩
    have hr2 := (hr1.below hb2 hr1.lt).alloc (.cells #[.bool vn, .string vu, .string vd] 31)
    have hk2 := (hk1.below hb2 hk1.lt).alloc (.cells #[.bool vn, .string vu, .string vd] 31)
    have HO2 : Hid (Onl R w (w2.alloc (.cells #[.bool vn, .string vu, .string vd] 31))) := (HO1.out.trans (Onl.of_below hb2)).trans (Onl.of_below ((Below.refl _ _).alloc (Nat.le_refl _) _))
    have HK2 := Lib.hid hk2
    have hc := hr2.cells
    have hf := hr2.froz
    clear hl1 hr1 hk1 HO1 hb2 hr2 hk2
    go_wp2
  · exact ⟨rfl, rfl, HK2.out, HO2.out⟩
  · refine bodyPost_ret (v := .agg #[.bool vn, .string vu, .string vd]) (by simp [results, Tryz.results90, go_sem, hc]) rfl ⟨rfl, ?_, ?_⟩
    · exact ((HK2.out.other (p := ⟨B, 0, none⟩) (by show R ≠ B; omega) _).other (p := ⟨B, 1, none⟩) (by show R ≠ B; omega) _).other (p := ⟨B, 2, none⟩) (by show R ≠ B; omega) _
    · have h := HB.out
      exact ((HO2.out.fresh (by omega) 0 _).fresh (by omega) 1 _).fresh (by omega) 2 _
end Go.Proofs.YtbicehdehiakgaaGreatDoor
namespace Go.Proofs.YtbicehdehiakgaaGreatDoor
open Go.RowKit
def wordIs (q : ByteArray) (x : Sh) : Bool := decide ((⟨x.word.toArray⟩ : ByteArray) = q) && !decide (q = ⟨#[]⟩)
set_option maxRecDepth 100000 in
set_option maxHeartbeats 800000 in
theorem wordIs_any (x : Sh) (q : ByteArray) (b : Nat) (t : TypeId) (w : World) (hb : Blk w b t [.string q]) :
    Calls Tryz.prog 89 #[x.v, .pointer (some ⟨b, 0, none⟩)] w fun e w' => e = .returned (.bool (wordIs q x)) ∧ Below w.heap.size w w' := by
  unfold wordIs Sh.v
  obtain ⟨wd, ops, lit, nam, stp⟩ := x
  simp only
  generalize (⟨wd.toArray⟩ : ByteArray) = d
  obtain ⟨W, hW⟩ : ∃ W, W = w.alloc (.cells #[.string d, .int .i64 (ops : Int), .bool lit, .bool nam, .bool stp] 76) := ⟨_, rfl⟩
  have HBW : Hid (Below w.heap.size w W) := by show Below _ _ _; rw [hW]; exact (Below.refl _ _).alloc (Nat.le_refl _) _
  have hk0 : Blk W w.heap.size 76 [.string d, .int .i64 (ops : Int), .bool lit, .bool nam, .bool stp] := by rw [hW]; exact Blk.new w _ _
  have hc0 := hk0.cells
  have hc1 := (hb.below HBW.out hb.lt).cells
  clear hk0 hb
  rw [hW] at hc0 hc1 HBW
  clear hW W
  by_cases h1 : d = q
  · subst h1
    by_cases h2 : d = ⟨#[]⟩
    · subst h2
      rw [decide_eq_true rfl]
      go_enter Tryz.func89, Tryz.ntmps89
      go_wp2
      go_ret
      exact ⟨rfl, HBW.out⟩
    · have h3 : (d.toList == (⟨#[]⟩ : ByteArray).toList) = false := beq_eq_false_iff_ne.2 (fun h => h2 (toList_inj h))
      have h4 := h3
      rw [show (⟨#[]⟩ : ByteArray).toList = [] by rw [ByteArray.toList_eq]] at h4
      rw [decide_eq_true rfl, decide_eq_false h2]
      go_enter Tryz.func89, Tryz.ntmps89
      go_wp2
      go_ret
      exact ⟨rfl, HBW.out⟩
  · have h3 : (d.toList == q.toList) = false := beq_eq_false_iff_ne.2 (fun h => h1 (toList_inj h))
    rw [decide_eq_false h1]
    go_enter Tryz.func89, Tryz.ntmps89
    go_wp2
    go_ret
    exact ⟨rfl, HBW.out⟩
end Go.Proofs.YtbicehdehiakgaaGreatDoor
namespace Go.Proofs.YtbicehdehiakgaaGreatDoor
open Go.RowKit
instance instInhabitedSh : Inhabited Sh := ⟨sh0⟩
theorem wordIs_below (q : ByteArray) (b : Nat) (t : TypeId) (w : World) (hb : Blk w b t [.string q]) :
    PredBelow Tryz.prog 89 #[.pointer (some ⟨b, 0, none⟩)] (fun x => .agg (Sh.cells x).toArray) (wordIs q) w := fun W x hW => by
  refine (wordIs_any x q b t W (hb.below hW hb.lt)).mono ?_
  rintro e w' ⟨rfl, h⟩
  exact ⟨rfl, bstep hW h⟩
def placeOf (q : ByteArray) : Int := Lib.idxBy (fun _ y => wordIs q y) shs default
theorem placeOf_at (q : ByteArray) (b : Nat) (t : TypeId) (g off c : Nat) (w : World) (hb : Blk w b t [.string q]) (hg : g < w.heap.size)
    (hc : ∀ j, j < shs.length → ∀ i v, (Sh.cells shs[j]!)[i]? = some v → w.cell? ⟨g, off + j * 5 + i, none⟩ = some v) :
    Calls Tryz.prog 88 #[.slice (some ⟨g, off, none⟩) shs.length c, .func (.func 89) #[] #[.pointer (some ⟨b, 0, none⟩)]] w fun e w' => e = .returned (.int .i64 (placeOf q)) ∧ Below w.heap.size w w' := by
  have eg : ∀ args w, (callFunc 89 args).run Tryz.prog w = .ok (.enter 89 args) w := enters_of Tryz.func89 (by kernel_rfl) rfl
  have h := AnyQ.slices_IndexFunc Tryz.idxN 5 Tryz.isAgg76 Tryz.sizeOf76 Sh.cells (fun _ => rfl) (wordIs q) 89 #[.pointer (some ⟨b, 0, none⟩)] eg g off shs.length c shs w
    (wordIs_below q b t w hb) (Nat.le_refl _) (by decide) hg hc
  rw [List.take_length] at h
  exact h
end Go.Proofs.YtbicehdehiakgaaGreatDoor
namespace Go.Proofs.YtbicehdehiakgaaGreatDoor
open Go.RowKit
set_option maxHeartbeats 800000 in
theorem named_any (A : Option Addr) (n c : Nat) (w : World) :
    Calls Tryz.prog 58 #[.slice A n c] w fun e w' => e = .returned (.func (.func 96) #[] #[.pointer (some ⟨w.heap.size, 0, none⟩)]) ∧ w' = w.alloc (.cells #[.slice A n c] 22) := by
  go_enter Tryz.func58, Tryz.ntmps58
  go_wp2
  go_ret
  exact ⟨rfl, rfl⟩
end Go.Proofs.YtbicehdehiakgaaGreatDoor
namespace Go.Proofs.YtbicehdehiakgaaGreatDoor
open Go.RowKit
theorem cell_other3 {b C : Nat} (w : World) (x y z : Value) (h : b ≠ C) (i : Nat) : (((w.setCell ⟨C, 0, none⟩ x).setCell ⟨C, 1, none⟩ y).setCell ⟨C, 2, none⟩ z).cell? ⟨b, i, none⟩ = w.cell? ⟨b, i, none⟩ :=
  World.cell?_of_block (((Below.heap_setCell _ ⟨C, 2, none⟩ z b h).trans (Below.heap_setCell _ ⟨C, 1, none⟩ y b h)).trans (Below.heap_setCell _ ⟨C, 0, none⟩ x b h))
def halfR : Ra := ⟨false, nbs 1, nbs 2⟩
theorem valR_ofI1 : valR (ofI 1) = ofI 1 := by decide +kernel
theorem valR_ofI2 : valR (ofI 2) = ofI 2 := by decide +kernel
theorem nbs1_size : (nbs 1).size = 1 := by decide +kernel
theorem nbs2_size : (nbs 2).size = 1 := by decide +kernel
set_option maxRecDepth 100000 in
set_option maxHeartbeats 3200000 in
theorem sQuo_half (w : World) : Calls Tryz.prog 36 #[(ofI 1).v, (ofI 2).v] w fun e w' => e = .returned (.tuple #[halfR.v, .bool true]) ∧ Below w.heap.size w w' := by
  have HV1 := Lib.hid (fun W => svalue_any (ofI 1) W (by show (nbs 1).size ≤ _; rw [nbs1_size]; omega) (by show (nbs 1).size ≤ _; rw [nbs1_size]; omega))
  have HV2 := Lib.hid (fun W => svalue_any (ofI 2) W (by show (nbs 2).size ≤ _; rw [nbs2_size]; omega) (by show (nbs 1).size ≤ _; rw [nbs1_size]; omega))
  rw [valR_ofI1] at HV1
  rw [valR_ofI2] at HV2
  have HM1 : Hid (∀ W, Calls Tryz.prog 66 #[.string (nbs 1), .string (nbs 1)] W fun e w' => e = .returned (.string (nbs 1)) ∧ Below W.heap.size W w') := fun W => rMul_nb 1 1 W (by rw [nbs1_size]; omega) (by rw [nbs1_size]; omega)
  have HM2 : Hid (∀ W, Calls Tryz.prog 66 #[.string (nbs 1), .string (nbs 2)] W fun e w' => e = .returned (.string (nbs 2)) ∧ Below W.heap.size W w') := fun W => rMul_nb 1 2 W (by rw [nbs1_size]; omega) (by rw [nbs2_size]; omega)
  have HLW : Hid (∀ W, Calls Tryz.prog 67 #[.bool false, .string (nbs 1), .string (nbs 2)] W fun e w' => e = .returned (.agg #[.bool false, .string (nbs 1), .string (nbs 2)]) ∧ Below W.heap.size W w') := fun W => slowest_any false 1 2 1 W (by omega) (by omega) (by omega) (by omega)
  have e1 : (nbs 2).toList.isEmpty = false := nbs_emp 2 false (by decide)
  have HV1' : Hid (∀ W, Calls Tryz.prog 72 #[.agg #[.bool false, .string (nbs 1), .string (nbs 1)]] W fun e w' => e = .returned (.agg #[.bool false, .string (nbs 1), .string (nbs 1)]) ∧ Below W.heap.size W w') := HV1
  have HV2' : Hid (∀ W, Calls Tryz.prog 72 #[.agg #[.bool false, .string (nbs 2), .string (nbs 1)]] W fun e w' => e = .returned (.agg #[.bool false, .string (nbs 2), .string (nbs 1)]) ∧ Below W.heap.size W w') := HV2
  show Calls Tryz.prog 36 #[.agg #[.bool false, .string (nbs 1), .string (nbs 1)], .agg #[.bool false, .string (nbs 2), .string (nbs 1)]] w fun e w' => e = .returned (.tuple #[.agg #[.bool false, .string (nbs 1), .string (nbs 2)], .bool true]) ∧ Below w.heap.size w w'
  clear HV1 HV2
  generalize nbs 1 = N1 at *
  generalize nbs 2 = N2 at *
  obtain ⟨W, hW⟩ : ∃ W, W = ((w.alloc (.cells #[.bool false, .string N1, .string N1] 31)).alloc (.cells #[.bool false, .string N2, .string N1] 31)).alloc (.cells #[.bool false, .string ⟨#[]⟩, .string ⟨#[]⟩] 31) := ⟨_, rfl⟩
  have htwo := Three.new w 31 31 31 #[.bool false, .string N1, .string N1] #[.bool false, .string N2, .string N1] #[.bool false, .string ⟨#[]⟩, .string ⟨#[]⟩]
  rw [← hW] at htwo
  obtain ⟨hk0, hk1, hk2, hba, hsz⟩ := htwo
  obtain ⟨B, hB⟩ : ∃ B, B = w.heap.size := ⟨_, rfl⟩
  have HB := Lib.hid hB
  rw [← hB] at hba hsz hk0 hk1 hk2
  have hc0 := hk0.cells
  go_enter Tryz.func36, Tryz.ntmps36
  go_wp2_with fail
  simp only [← hW, ← hB]
  clear hW hB
  refine (HV1'.out _).mono ?_
  rintro e w1 ⟨rfl, hb1⟩
  have ha1 := hk0.below hb1 hk0.lt
  have hx1 := hk1.below hb1 hk1.lt
  have hr1 := hk2.below hb1 hk2.lt
  have hB1 : Below B w w1 := hba.trans (hb1.mono (by omega))
  have hsz1 : B + 3 ≤ w1.heap.size := by have := hb1.size; omega
  have hc1 := ha1.cells
  have hf1 := ha1.froz
  have hd1 := hx1.cells
  have ha2 := ((ha1.set 0 (.bool false)).set 1 (.string N1)).set 2 (.string N1)
  have hx2 := ((hx1.other (p := ⟨B, 0, none⟩) (by show B + 1 ≠ B; omega) (.bool false)).other (p := ⟨B, 1, none⟩) (by show B + 1 ≠ B; omega) (.string N1)).other (p := ⟨B, 2, none⟩) (by show B + 1 ≠ B; omega) (.string N1)
  have hr2 := ((hr1.other (p := ⟨B, 0, none⟩) (by show B + 2 ≠ B; omega) (.bool false)).other (p := ⟨B, 1, none⟩) (by show B + 2 ≠ B; omega) (.string N1)).other (p := ⟨B, 2, none⟩) (by show B + 2 ≠ B; omega) (.string N1)
  have hB2 := below_set3 hB1 (.bool false) (.string N1) (.string N1)
  have hz2 : B + 3 ≤ (((w1.setCell ⟨B, 0, none⟩ (.bool false)).setCell ⟨B, 1, none⟩ (.string N1)).setCell ⟨B, 2, none⟩ (.string N1)).heap.size := by simp only [World.size_setCell]; exact hsz1
  clear hc0 hk0 hk1 hk2 hba hb1
  obtain ⟨w2, hw2⟩ : ∃ x, x = (((w1.setCell ⟨B, 0, none⟩ (.bool false)).setCell ⟨B, 1, none⟩ (.string N1)).setCell ⟨B, 2, none⟩ (.string N1)) := ⟨_, rfl⟩
  rw [← hw2] at ha2 hx2 hr2 hB2 hz2
  have hd2 := hx2.cells
  go_wp2_with fail
  simp only [← hw2]
  clear hw2 hc1 hf1 hd1 ha1 hx1 hr1 hB1
  refine (HV2'.out _).mono ?_
  rintro e w3 ⟨rfl, hb3⟩
  have ha3 := ha2.below hb3 ha2.lt
  have hx3 := hx2.below hb3 hx2.lt
  have hr3 := hr2.below hb3 hr2.lt
  have hB3 : Below B w w3 := hB2.trans (hb3.mono (by omega))
  have hz3 : B + 3 ≤ w3.heap.size := by have := hb3.size; omega
  have hc3 := hx3.cells
  have hf3 := hx3.froz
  have ha4 := ((ha3.other (p := ⟨B + 1, 0, none⟩) (by show B ≠ B + 1; omega) (.bool false)).other (p := ⟨B + 1, 1, none⟩) (by show B ≠ B + 1; omega) (.string N2)).other (p := ⟨B + 1, 2, none⟩) (by show B ≠ B + 1; omega) (.string N1)
  have hr4 := ((hr3.other (p := ⟨B + 1, 0, none⟩) (by show B + 2 ≠ B + 1; omega) (.bool false)).other (p := ⟨B + 1, 1, none⟩) (by show B + 2 ≠ B + 1; omega) (.string N2)).other (p := ⟨B + 1, 2, none⟩) (by show B + 2 ≠ B + 1; omega) (.string N1)
  have hx4 := ((hx3.set 0 (.bool false)).set 1 (.string N2)).set 2 (.string N1)
  have hB4 := below_at hB3 (Nat.le_succ B) (.bool false) (.string N2) (.string N1)
  have hz4 : B + 3 ≤ (((w3.setCell ⟨B + 1, 0, none⟩ (.bool false)).setCell ⟨B + 1, 1, none⟩ (.string N2)).setCell ⟨B + 1, 2, none⟩ (.string N1)).heap.size := by simp only [World.size_setCell]; exact hz3
  have hd4 := hx4.cells
  have hv4 := ha4.cells
  simp only [List.set_cons_zero, List.set_cons_succ] at hd4 hv4 ha4 hx4
  clear hb3 hd2
  obtain ⟨w4, hw4⟩ : ∃ x, x = (((w3.setCell ⟨B + 1, 0, none⟩ (.bool false)).setCell ⟨B + 1, 1, none⟩ (.string N2)).setCell ⟨B + 1, 2, none⟩ (.string N1)) := ⟨_, rfl⟩
  rw [← hw4] at ha4 hx4 hr4 hB4 hz4 hd4 hv4
  have HK : Hid (∀ w' w1 : World, ((∀ i, w'.cell? ⟨B, i, none⟩ = ([.bool false, .string N1, .string N1] : List Value)[i]?) ∧ (∀ i, w'.cell? ⟨B + 1, i, none⟩ = ([.bool false, .string N2, .string N1] : List Value)[i]?) ∧ (∃ c0 c1 c2, Blk w' (B + 2) 31 [c0, c1, c2]) ∧ B + 1 < w'.heap.size ∧ Below B w w') → Below w'.heap.size w' w1 → ((∀ i, w1.cell? ⟨B, i, none⟩ = ([.bool false, .string N1, .string N1] : List Value)[i]?) ∧ (∀ i, w1.cell? ⟨B + 1, i, none⟩ = ([.bool false, .string N2, .string N1] : List Value)[i]?) ∧ (∃ c0 c1 c2, Blk w1 (B + 2) 31 [c0, c1, c2]) ∧ B + 1 < w1.heap.size ∧ Below B w w1)) := by
    rintro w' w1 ⟨h0, h1, h2, h3, h4⟩ hb1
    exact ⟨fun i => (hb1.cell (by show B < _; omega)).trans (h0 i), fun i => (hb1.cell h3).trans (h1 i), (by obtain ⟨c0, c1, c2, h2⟩ := h2; exact ⟨c0, c1, c2, h2.below hb1 h2.lt⟩), Nat.lt_of_lt_of_le h3 hb1.size, h4.trans (hb1.mono (by omega))⟩
  have HS : Hid ((∀ i, w4.drew.cell? ⟨B, i, none⟩ = ([.bool false, .string N1, .string N1] : List Value)[i]?) ∧ (∀ i, w4.drew.cell? ⟨B + 1, i, none⟩ = ([.bool false, .string N2, .string N1] : List Value)[i]?) ∧ (∃ c0 c1 c2, Blk w4.drew (B + 2) 31 [c0, c1, c2]) ∧ B + 1 < w4.drew.heap.size ∧ Below B w w4.drew) := ⟨hv4, hd4, ⟨_, _, _, hr4⟩, by show B + 1 < w4.heap.size; omega, below_drewN hB4 1⟩
  clear ha2 hx2 hr2 hB2 hz2 ha3 hx3 hr3 hB3 hz3 hr4 hB4
  go_wp2_with fail
  simp only [← hw4]
  clear hw4 hc3 hf3 ha4 hx4
  go_wp2_with fail
  refine wp_region_noPanic ?_
  refine wp_region_held_drew (S := fun w' => (∀ i, w'.cell? ⟨B, i, none⟩ = ([.bool false, .string N1, .string N1] : List Value)[i]?) ∧ (∀ i, w'.cell? ⟨B + 1, i, none⟩ = ([.bool false, .string N2, .string N1] : List Value)[i]?) ∧ (∃ c0 c1 c2, Blk w' (B + 2) 31 [c0, c1, c2]) ∧ B + 1 < w'.heap.size ∧ Below B w w') (by kernel_rfl) HS.out (fun hHeld => ?_)
  refine wpAnyH_take (i := 0) (v := ?_) rfl (by kernel_rfl) (by kernel_rfl) (by kernel_rfl) (fun _ _ _ h => h) (Or.inl ⟨by kernel_rfl, ?_⟩) (by assumption) ?_
  rotate_left
  · intro w hSw; (try dsimp only at hSw); go_simp
    all_goals with_reducible rfl
  try simp only [Act.put, List.setIfInBounds_toArray, List.set_cons_zero, List.set_cons_succ, List.getElem_toArray, List.getElem_cons_succ, List.getElem_cons_zero]
  refine wpAnyH_take (i := 1) (v := ?_) rfl (by kernel_rfl) (by kernel_rfl) (by kernel_rfl) (fun _ _ _ h => h) (Or.inl ⟨by kernel_rfl, ?_⟩) (by assumption) ?_
  rotate_left
  · intro w hSw; (try dsimp only at hSw); go_simp
    all_goals with_reducible rfl
  try simp only [Act.put, List.setIfInBounds_toArray, List.set_cons_zero, List.set_cons_succ, List.getElem_toArray, List.getElem_cons_succ, List.getElem_cons_zero]
  refine wpAnyH_take (i := 2) (v := ?_) rfl (by kernel_rfl) (by kernel_rfl) (by kernel_rfl) (fun _ _ _ h => h) (Or.inl ⟨by kernel_rfl, ?_⟩) (by assumption) ?_
  rotate_left
  · intro w hSw; (try dsimp only at hSw); go_simp
    all_goals with_reducible rfl
  try simp only [Act.put, List.setIfInBounds_toArray, List.set_cons_zero, List.set_cons_succ, List.getElem_toArray, List.getElem_cons_succ, List.getElem_cons_zero]
  refine wpAnyH_take (i := 3) (v := ?_) rfl (by kernel_rfl) (by kernel_rfl) (by kernel_rfl) (fun _ _ _ h => h) (Or.inl ⟨by kernel_rfl, ?_⟩) (by assumption) ?_
  rotate_left
  · intro w hSw; (try dsimp only at hSw); go_simp
    all_goals with_reducible rfl
  try simp only [Act.put, List.setIfInBounds_toArray, List.set_cons_zero, List.set_cons_succ, List.getElem_toArray, List.getElem_cons_succ, List.getElem_cons_zero]
  refine wpAnyH_take (i := 4) (v := ?_) rfl (by kernel_rfl) (by kernel_rfl) (by kernel_rfl) (fun _ _ _ h => h) (Or.inl ⟨by kernel_rfl, ?_⟩) (by assumption) ?_
  rotate_left
  · intro w hSw; (try dsimp only at hSw); go_simp
    all_goals with_reducible rfl
  try simp only [Act.put, List.setIfInBounds_toArray, List.set_cons_zero, List.set_cons_succ, List.getElem_toArray, List.getElem_cons_succ, List.getElem_cons_zero]
  refine wpAnyH_take (i := 5) (v := ?_) rfl (by kernel_rfl) (by kernel_rfl) (by kernel_rfl) (fun _ _ _ h => h) (Or.inl ⟨by kernel_rfl, ?_⟩) (by assumption) ?_
  rotate_left
  · intro w hSw; (try dsimp only at hSw); go_simp
    all_goals with_reducible rfl
  try simp only [Act.put, List.setIfInBounds_toArray, List.set_cons_zero, List.set_cons_succ, List.getElem_toArray, List.getElem_cons_succ, List.getElem_cons_zero]
  refine wpAnyH_take (i := 6) (v := ?_) rfl (by kernel_rfl) (by kernel_rfl) (by kernel_rfl) (fun _ _ _ h => h) (Or.inl ⟨by kernel_rfl, ?_⟩) (by assumption) ?_
  rotate_left
  · intro w hSw; (try dsimp only at hSw); go_simp
    all_goals with_reducible rfl
  try simp only [Act.put, List.setIfInBounds_toArray, List.set_cons_zero, List.set_cons_succ, List.getElem_toArray, List.getElem_cons_succ, List.getElem_cons_zero]
  refine wpAnyH_take (i := 7) (v := ?_) rfl (by kernel_rfl) (by kernel_rfl) (by kernel_rfl) (fun _ _ _ h => h) (Or.inl ⟨by kernel_rfl, ?_⟩) (by assumption) ?_
  rotate_left
  · intro w hSw; (try dsimp only at hSw); go_simp
    all_goals with_reducible rfl
  try simp only [Act.put, List.setIfInBounds_toArray, List.set_cons_zero, List.set_cons_succ, List.getElem_toArray, List.getElem_cons_succ, List.getElem_cons_zero]
  refine wpAnyH_take (i := 8) (v := ?_) rfl (by kernel_rfl) (by kernel_rfl) (by kernel_rfl) (fun _ _ _ h => h) (Or.inl ⟨by kernel_rfl, ?_⟩) (by assumption) ?_
  rotate_left
  · intro w hSw; (try dsimp only at hSw); go_simp
    all_goals with_reducible rfl
  try simp only [Act.put, List.setIfInBounds_toArray, List.set_cons_zero, List.set_cons_succ, List.getElem_toArray, List.getElem_cons_succ, List.getElem_cons_zero]
  refine wpAnyH_take (i := 10) (v := ?_) rfl (by kernel_rfl) (by kernel_rfl) (by kernel_rfl) (fun _ _ _ h => h) (Or.inl ⟨by kernel_rfl, ?_⟩) (by assumption) ?_
  rotate_left
  · intro w hSw; (try dsimp only at hSw); go_simp
    all_goals with_reducible rfl
  try simp only [Act.put, List.setIfInBounds_toArray, List.set_cons_zero, List.set_cons_succ, List.getElem_toArray, List.getElem_cons_succ, List.getElem_cons_zero]
  refine wpAnyH_take (i := 11) (v := ?_) rfl (by kernel_rfl) (by kernel_rfl) (by kernel_rfl) (fun _ _ _ h => h) (Or.inl ⟨by kernel_rfl, ?_⟩) (by assumption) ?_
  rotate_left
  · intro w hSw; (try dsimp only at hSw); go_simp
    all_goals with_reducible rfl
  try simp only [Act.put, List.setIfInBounds_toArray, List.set_cons_zero, List.set_cons_succ, List.getElem_toArray, List.getElem_cons_succ, List.getElem_cons_zero]
  refine wpAnyH_take (i := 12) (v := ?_) rfl (by kernel_rfl) (by kernel_rfl) (by kernel_rfl) (fun _ _ _ h => h) (Or.inl ⟨by kernel_rfl, ?_⟩) (by assumption) ?_
  rotate_left
  · intro w hSw; (try dsimp only at hSw); go_simp
    all_goals with_reducible rfl
  try simp only [Act.put, List.setIfInBounds_toArray, List.set_cons_zero, List.set_cons_succ, List.getElem_toArray, List.getElem_cons_succ, List.getElem_cons_zero]
  refine wpAnyH_take (i := 13) (v := ?_) rfl (by kernel_rfl) (by kernel_rfl) (by kernel_rfl) (fun _ _ _ h => h) (Or.inl ⟨by kernel_rfl, ?_⟩) (by assumption) ?_
  rotate_left
  · intro w hSw; (try dsimp only at hSw); go_simp
    all_goals with_reducible rfl
  try simp only [Act.put, List.setIfInBounds_toArray, List.set_cons_zero, List.set_cons_succ, List.getElem_toArray, List.getElem_cons_succ, List.getElem_cons_zero]
  refine wpAnyH_ready (rs := [9]) (by kernel_rfl) (by simp) ?_
  refine AllReadyH.cons rfl (fun K hK => ?_) AllReadyH.nil
  go_simp
  refine (HM1.out _).mono ?_
  rintro e w1 ⟨rfl, hb1⟩
  go_wp2_with fail
  refine hK.out _ _ ?_ (fun hHeld => ?_)
  · exact HK.out _ _ (by assumption) hb1
  clear hK K
  try simp only [Act.put, List.setIfInBounds_toArray, List.set_cons_zero, List.set_cons_succ, List.getElem_toArray, List.getElem_cons_succ, List.getElem_cons_zero]
  refine wpAnyH_ready (rs := [14]) (by kernel_rfl) (by simp) ?_
  refine AllReadyH.cons rfl (fun K hK => ?_) AllReadyH.nil
  go_simp
  refine (HM2.out _).mono ?_
  rintro e w1 ⟨rfl, hb1⟩
  go_wp2_with fail
  refine hK.out _ _ ?_ (fun hHeld => ?_)
  · exact HK.out _ _ (by assumption) hb1
  clear hK K
  try simp only [Act.put, List.setIfInBounds_toArray, List.set_cons_zero, List.set_cons_succ, List.getElem_toArray, List.getElem_cons_succ, List.getElem_cons_zero]
  refine wpAnyH_ready (rs := [15]) (by kernel_rfl) (by simp) ?_
  refine AllReadyH.cons rfl (fun K hK => ?_) AllReadyH.nil
  go_simp
  refine (HLW.out _).mono ?_
  rintro e w1 ⟨rfl, hb1⟩
  go_wp2_with fail
  refine hK.out _ _ ?_ (fun hHeld => ?_)
  · exact HK.out _ _ (by assumption) hb1
  clear hK K
  try simp only [Act.put, List.setIfInBounds_toArray, List.set_cons_zero, List.set_cons_succ, List.getElem_toArray, List.getElem_cons_succ, List.getElem_cons_zero]
  obtain ⟨q0, q1, ⟨c0, c1, c2, q2⟩, q3, q4⟩ := hHeld
  have hr9 := q2.cells
  have hf9 := q2.froz
  refine wpAnyH_ready (rs := [16]) (by kernel_rfl) (by simp) ?_
  refine AllReadyH.cons rfl (fun K hK => ?_) AllReadyH.nil
  go_simp
  go_wp2_with fail
  refine hK.out _ _ ?_ (fun _ => ?_)
  · have x2 := ((q2.set 0 (.bool false)).set 1 (.string N1)).set 2 (.string N2)
    refine ⟨fun i => ?_, fun i => ?_, ⟨_, _, _, x2⟩, ?_, below_at q4 (by omega) _ _ _⟩
    · exact (cell_other3 _ _ _ _ (by omega) i).trans (q0 i)
    · exact (cell_other3 _ _ _ _ (by omega) i).trans (q1 i)
    · simp only [World.size_setCell]; exact q3
  clear hK K
  try simp only [Act.put, List.setIfInBounds_toArray, List.set_cons_zero, List.set_cons_succ, List.getElem_toArray, List.getElem_cons_succ, List.getElem_cons_zero]
  refine wpAnyH_take (i := 17) (v := ?_) rfl (by kernel_rfl) (by kernel_rfl) (by kernel_rfl) (fun _ _ _ h => h) (Or.inl ⟨by kernel_rfl, ?_⟩) (by assumption) ?_
  rotate_left
  · intro w hSw; (try dsimp only at hSw); go_simp
    all_goals with_reducible rfl
  try simp only [Act.put, List.setIfInBounds_toArray, List.set_cons_zero, List.set_cons_succ, List.getElem_toArray, List.getElem_cons_succ, List.getElem_cons_zero]
  refine wpAnyH_done (by kernel_rfl) ?_ _
  refine NoPanic.normal ?_
  have HB9 := Lib.hid q4
  clear q0 q1 q3 q4 HK HS
  go_wp2
  refine bodyPost_ret (v := .tuple #[.agg #[.bool false, .string N1, .string N2], .bool true]) (by simp [results, Tryz.results36, go_sem, hr9]) rfl ⟨rfl, ?_⟩
  rw [← HB.out]; exact below_at HB9.out (by omega) _ _ _
end Go.Proofs.YtbicehdehiakgaaGreatDoor
