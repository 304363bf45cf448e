/- A part of the proof: Ev Gn. -/
import Derived.Defers
import Derived.Recover
import Derived.Test.YtbicehdehiakgaaGreatDoorE26
import Derived.Test.YtbicehdehiakgaaGreatDoorE33
set_option linter.unusedVariables false
set_option linter.unusedSimpArgs false
namespace Go.Proofs.YtbicehdehiakgaaGreatDoor
open Go.RowKit
set_option maxHeartbeats 800000 in
theorem pcatch_idle (a b : Nat) (w : World) :
  CallsD Tryz.prog 52 #[.pointer (some ⟨a, 0, none⟩), .pointer (some ⟨b, 0, none⟩)] .returning w fun e u' w' => e = .returned (.tuple #[]) ∧ u' = .returning ∧ w' = w := by
 refine callsD_of_wpS Tryz.func52 rfl fun c₀ cs hu => ?_
 apply wpS_seq
 apply wpS_region
 simp [wpOpsS, go_sem, recoverD, hu, Tryz.ntmps52, Exit.thenS]
 refine wpS_of_wp ?_
 go_wp2
 cases c₀
 simp_all [bodyPostS, results, Tryz.results52]
theorem nt_assert (w : World) : (Instr.typeAssert (.iface 80 (.agg #[])) 20 80 true).run Tryz.prog w = .ok (.tuple #[.agg #[], .bool true]) w := by
 simp [Instr.typeAssert, run_underlying Tryz.underlying80, go_sem, Result.andThen]
set_option maxRecDepth 100000 in
set_option maxHeartbeats 800000 in
theorem pcatch_panicking (a b : Nat) (v1 v2 : Value) (older : List PanicEntry) (w : World) (h1 : ∀ o, (w.alloc o).cell? ⟨a, 0, none⟩ = some v1) (h2 : ∀ o, (w.alloc o).cell? ⟨b, 0, none⟩ = some v2) (f1 : ∀ o, (w.alloc o).frozen? ⟨a, 0, none⟩ = false) (f2 : ∀ o, (w.alloc o).frozen? ⟨b, 0, none⟩ = false) (hab : ¬ a = b) (hba : ¬ b = a) :
  CallsD Tryz.prog 52 #[.pointer (some ⟨a, 0, none⟩), .pointer (some ⟨b, 0, none⟩)] (.panicking ({ v := .iface 80 (.agg #[]), recovered := false } :: older)) w fun e u' w' =>
   e = .returned (.tuple #[]) ∧ u' = .panicking ({ v := .iface 80 (.agg #[]), recovered := true } :: older) ∧ ∃ o, w' = ((w.alloc o).setCell ⟨a, 0, none⟩ (.slice none 0 0)).setCell ⟨b, 0, none⟩ (.int .i64 11) := by
 refine callsD_of_wpS Tryz.func52 rfl fun c₀ cs hu => ?_
 apply wpS_seq
 apply wpS_region
 simp [wpOpsS, go_sem, recoverD, hu, Tryz.ntmps52, Exit.thenS]
 have hta := nt_assert
 refine wpS_of_wp ?_
 simp only [Array.replicate_succ, Array.replicate_zero, List.push_toArray, List.append_toArray, List.nil_append, List.cons_append, List.setIfInBounds_toArray, List.set_cons_succ, List.set_cons_zero]
 go_wp2
 simp [bodyPostS, results, Tryz.results52]
 exact ⟨_, rfl⟩
set_option maxRecDepth 100000 in
set_option maxHeartbeats 3200000 in
theorem eParse_none (s : List UInt8) (w : World) (hL : LaidE w) (hs : s.length ≤ 1048576) (hp : parA 61 s [] 0 = none) : Calls Tryz.prog 20 #[.string ⟨s.toArray⟩] w (RetEs ([], 11) w) := by
 have hmf : ∀ (fn : Fn) (first cap : Array Value) (w : World), (Instr.makeFunc fn first cap).run Tryz.prog w = .ok (.func fn first cap) w := fun _ _ _ _ => rfl
 obtain ⟨W, hW⟩ : ∃ W, W = ((w.alloc (.cells #[.slice none 0 0] 22)).alloc (.cells #[.int .i64 0] 35)).alloc (.cells #[.string ⟨s.toArray⟩, .slice none 0 0, .int .i64 0] 84) := ⟨_, rfl⟩
 have htwo := Three.new w 22 35 84 #[.slice none 0 0] #[.int .i64 0] #[.string ⟨s.toArray⟩, .slice none 0 0, .int .i64 0]
 rw [← hW] at htwo
 obtain ⟨hk0, hk1, hk2, hba, hsz⟩ := htwo
 obtain ⟨B, hB⟩ : ∃ B, B = w.heap.size := ⟨_, rfl⟩
 have HB := Lib.hid hB
 rw [← hB] at hba hsz hk0 hk1 hk2
 have HE := Lib.hid (expr_any w hL (B + 2) (by rw [HB.out]; omega) 61 s [] 0 (.slice none 0 0) W (by rw [← HB.out]; exact hba) hk2 (World.ownsRow_nil _ _ _ _) hs (Nat.le_refl _) (by omega) (by omega))
 rw [hp] at HE
 have HK0 := Lib.hid hk0
 have HK1 := Lib.hid hk1
 have HBA := Lib.hid hba
 clear hk0 hk1 hk2 hba hL hs hp
 go_enter_defers Tryz.func20, Tryz.ntmps20
 go_wp2_with fail
 simp only [← hW, ← hB]
 clear hW hB
 refine HE.out.mono ?_
 rintro e w5 ⟨rfl, hb5⟩
 have hk0 := HK0.out.below hb5 (by omega)
 have hk1 := HK1.out.below hb5 (by omega)
 have hB5 : B + 1 < w5.heap.size := hk1.lt
 have hc0 : ∀ o, (w5.alloc o).cell? ⟨B, 0, none⟩ = some (.slice none 0 0) := fun o => (hk0.alloc o).cells 0
 have hc1 : ∀ o, (w5.alloc o).cell? ⟨B + 1, 0, none⟩ = some (.int .i64 0) := fun o => (hk1.alloc o).cells 0
 have HF0 : Hid (∀ o, (w5.alloc o).frozen? ⟨B, 0, none⟩ = false) := fun o => (hk0.alloc o).froz 0
 have HF1 : Hid (∀ o, (w5.alloc o).frozen? ⟨B + 1, 0, none⟩ = false) := fun o => (hk1.alloc o).froz 0
 have HBW : Hid (∀ o u v, Below w.heap.size w (((w5.alloc o).setCell ⟨B, 0, none⟩ u).setCell ⟨B + 1, 0, none⟩ v)) := fun o u v => by
  have h1 : Below B w w5 := HBA.out.trans (hb5.mono (by omega))
  rw [← HB.out]
  exact ((h1.alloc (by omega) o).setCell (p := ⟨B, 0, none⟩) (Nat.le_refl _) u).setCell (p := ⟨B + 1, 0, none⟩) (by show B ≤ B + 1; omega) v
 clear hk0 hk1 hb5
 go_wp2
 unfold noText
 refine leaves_cons (f := 52) (args := #[.pointer (some ⟨B, 0, none⟩), .pointer (some ⟨B + 1, 0, none⟩)]) (by simp) (by simp [go_sem]) ?_
 refine (pcatch_panicking B (B + 1) _ _ [] w5 hc0 hc1 HF0.out HF1.out (by omega) (by omega)).mono ?_
 rintro e u' w6 ⟨rfl, rfl, o, rfl⟩
 have hd0 : (((w5.alloc o).setCell ⟨B, 0, none⟩ (.slice none 0 0)).setCell ⟨B + 1, 0, none⟩ (.int .i64 11)).cell? ⟨B, 0, none⟩ = some (.slice none 0 0) := by
  rw [World.cell?_setCell_other _ _ _ _ (by simp)]
  exact World.cell?_setCell_same' _ _ _ (by rw [hc0]; rfl)
 have hd1 : (((w5.alloc o).setCell ⟨B, 0, none⟩ (.slice none 0 0)).setCell ⟨B + 1, 0, none⟩ (.int .i64 11)).cell? ⟨B + 1, 0, none⟩ = some (.int .i64 11) :=
  World.cell?_setCell_same' _ _ _ (by rw [World.cell?_setCell_other _ _ _ _ (by simp), hc1]; rfl)
 simp [Leaves, settle, results, Tryz.results20, go_sem, hd0, hd1]
 exact RetEs.bad rfl (HBW.out _ _ _)
set_option maxRecDepth 100000 in
set_option maxHeartbeats 3200000 in
theorem eParse_wrong (s : List UInt8) (w : World) (hL : LaidE w) (hs : s.length ≤ 1048576) (r : List UInt8) (ns : List Nd) (b : Nat) (hp : parA 61 s [] 0 = some (r, ns, b)) (hz : checkE ns ≠ 0) : Calls Tryz.prog 20 #[.string ⟨s.toArray⟩] w (RetEs ([], 11) w) := by
 have hmf : ∀ (fn : Fn) (first cap : Array Value) (w : World), (Instr.makeFunc fn first cap).run Tryz.prog w = .ok (.func fn first cap) w := fun _ _ _ _ => rfl
 obtain ⟨W, hW⟩ : ∃ W, W = ((w.alloc (.cells #[.slice none 0 0] 22)).alloc (.cells #[.int .i64 0] 35)).alloc (.cells #[.string ⟨s.toArray⟩, .slice none 0 0, .int .i64 0] 84) := ⟨_, rfl⟩
 have htwo := Three.new w 22 35 84 #[.slice none 0 0] #[.int .i64 0] #[.string ⟨s.toArray⟩, .slice none 0 0, .int .i64 0]
 rw [← hW] at htwo
 obtain ⟨hk0, hk1, hk2, hba, hsz⟩ := htwo
 obtain ⟨B, hB⟩ : ∃ B, B = w.heap.size := ⟨_, rfl⟩
 have HB := Lib.hid hB
 rw [← hB] at hba hsz hk0 hk1 hk2
 have HE := Lib.hid (expr_any w hL (B + 2) (by rw [HB.out]; omega) 61 s [] 0 (.slice none 0 0) W (by rw [← HB.out]; exact hba) hk2 (World.ownsRow_nil _ _ _ _) hs (Nat.le_refl _) (by omega) (by omega))
 rw [hp] at HE
 have HF := Lib.hid (parA_fine 61 s [] 0 _ hp hs (fun n h => by cases h)).2
 have HK0 := Lib.hid hk0
 have HK1 := Lib.hid hk1
 have HBA := Lib.hid hba
 have HL := Lib.hid hL
 clear hk0 hk1 hk2 hba hL hs hp
 generalize (⟨s.toArray⟩ : ByteArray) = SS at *
 go_enter_defers Tryz.func20, Tryz.ntmps20
 go_wp2_with fail
 simp only [← hW, ← hB]
 clear hW hB
 refine HE.out.mono ?_
 rintro e w5 ⟨rfl, v5, hk5, hown5, hpf5⟩
 have hB5 : Below B w w5 := HBA.out.trans (hpf5.below (World.ownsRow_nil W (B + 2 + 1) 33 5) (by omega) (by omega))
 have hk0 := hpf5.blk HK0.out (by omega) (by intro h; cases h)
 have hk1 := hpf5.blk HK1.out (by omega) (by intro h; cases h)
 obtain ⟨A5, cap5, rfl, hn5, hm5, hr5, _⟩ := own_rd hown5
 have hL5 : LaidE w5 := HL.out.below (by rw [← HB.out]; exact hB5)
 have hEs : Es w5 ns A5 ns.length cap5 := ⟨rfl, hn5, hm5, hr5⟩
 have HTX := Lib.hid (eText_any ns A5 ns.length cap5 w5 hL5 hEs HF.out)
 unfold RetText at HTX
 simp only [if_neg hz] at HTX
 generalize checkE ns = zz at *
 have ez : (zz != 0) = true := by simp [hz]
 clear hz
 have HK0' := Lib.hid hk0
 have HK1' := Lib.hid hk1
 have HK5 := Lib.hid hk5
 have HES := Lib.hid hEs
 have HB5 := Lib.hid hB5
 have hcp := hk5.cells
 clear hk0 hk1 hk5 hn5 hm5 hr5 hL5 hEs hB5 hown5 hpf5
 go_wp2_with fail
 refine HTX.out.mono ?_
 rintro e w6 ⟨rfl, hb6⟩
 have hk0 := HK0'.out.below hb6 HK0'.out.lt
 have hk1 := HK1'.out.below hb6 HK1'.out.lt
 have hk5 := HK5.out.below hb6 HK5.out.lt
 have hc0 : w6.cell? ⟨B, 0, none⟩ = some (.slice none 0 0) := hk0.cells 0
 have hc1 : w6.cell? ⟨B + 1, 0, none⟩ = some (.int .i64 0) := hk1.cells 0
 have hf0 := hk0.froz
 have hf1 := hk1.froz
 have hc5 := hk5.cells
 have HBW : Hid (∀ u v, Below w.heap.size w ((w6.setCell ⟨B, 0, none⟩ u).setCell ⟨B + 1, 0, none⟩ v)) := fun u v => by
  have h1 : Below B w w6 := HB5.out.trans (hb6.mono (by have := HK0'.out.lt; omega))
  rw [← HB.out]
  exact (h1.setCell (p := ⟨B, 0, none⟩) (Nat.le_refl _) u).setCell (p := ⟨B + 1, 0, none⟩) (by show B ≤ B + 1; omega) v
 have HES6 := Lib.hid (HES.out.below hb6)
 have HGB : Hid (∀ b, b < B → True) := fun _ _ => trivial
 clear hb6 hcp hk0 hk1 hk5
 go_wp2
 refine leaves_cons (f := 52) (args := #[.pointer (some ⟨B, 0, none⟩), .pointer (some ⟨B + 1, 0, none⟩)]) (by simp) (by simp [go_sem]) ?_
 refine (pcatch_idle B (B + 1) _).mono ?_
 rintro e u' w7 ⟨rfl, rfl, rfl⟩
 have hd0 : ((w6.setCell ⟨B, 0, none⟩ (.slice none 0 0)).setCell ⟨B + 1, 0, none⟩ (.int .i64 11)).cell? ⟨B, 0, none⟩ = some (.slice none 0 0) := by
  rw [World.cell?_setCell_other _ _ _ _ (by simp)]
  exact World.cell?_setCell_same' _ _ _ (by rw [hc0]; rfl)
 have hd1 : ((w6.setCell ⟨B, 0, none⟩ (.slice none 0 0)).setCell ⟨B + 1, 0, none⟩ (.int .i64 11)).cell? ⟨B + 1, 0, none⟩ = some (.int .i64 11) :=
  World.cell?_setCell_same' _ _ _ (by rw [World.cell?_setCell_other _ _ _ _ (by simp), hc1]; rfl)
 simp [Leaves, settle, results, Tryz.results20, go_sem, hd0, hd1]
 exact RetEs.bad rfl (HBW.out _ _)
set_option maxRecDepth 100000 in
set_option maxHeartbeats 3200000 in
theorem eParse_other (s : List UInt8) (w : World) (hL : LaidE w) (hs : s.length ≤ 1048576) (r : List UInt8) (ns : List Nd) (b : Nat) (hp : parA 61 s [] 0 = some (r, ns, b)) (hz : checkE ns = 0) (ht : textE ns ≠ s) : Calls Tryz.prog 20 #[.string ⟨s.toArray⟩] w (RetEs ([], 11) w) := by
 have hmf : ∀ (fn : Fn) (first cap : Array Value) (w : World), (Instr.makeFunc fn first cap).run Tryz.prog w = .ok (.func fn first cap) w := fun _ _ _ _ => rfl
 obtain ⟨W, hW⟩ : ∃ W, W = ((w.alloc (.cells #[.slice none 0 0] 22)).alloc (.cells #[.int .i64 0] 35)).alloc (.cells #[.string ⟨s.toArray⟩, .slice none 0 0, .int .i64 0] 84) := ⟨_, rfl⟩
 have htwo := Three.new w 22 35 84 #[.slice none 0 0] #[.int .i64 0] #[.string ⟨s.toArray⟩, .slice none 0 0, .int .i64 0]
 rw [← hW] at htwo
 obtain ⟨hk0, hk1, hk2, hba, hsz⟩ := htwo
 obtain ⟨B, hB⟩ : ∃ B, B = w.heap.size := ⟨_, rfl⟩
 have HB := Lib.hid hB
 rw [← hB] at hba hsz hk0 hk1 hk2
 have HE := Lib.hid (expr_any w hL (B + 2) (by rw [HB.out]; omega) 61 s [] 0 (.slice none 0 0) W (by rw [← HB.out]; exact hba) hk2 (World.ownsRow_nil _ _ _ _) hs (Nat.le_refl _) (by omega) (by omega))
 rw [hp] at HE
 have HF := Lib.hid (parA_fine 61 s [] 0 _ hp hs (fun n h => by cases h)).2
 have HK0 := Lib.hid hk0
 have HK1 := Lib.hid hk1
 have HBA := Lib.hid hba
 have HL := Lib.hid hL
 have ex : ((⟨(textE ns).toArray⟩ : ByteArray).toList != (⟨s.toArray⟩ : ByteArray).toList) = true := by rw [ByteArray.toList_eq, ByteArray.toList_eq, bne_iff_ne]; simpa using ht
 have ex2 : ((⟨(textE ns).toArray⟩ : ByteArray).toList == (⟨s.toArray⟩ : ByteArray).toList) = false := by rw [ByteArray.toList_eq, ByteArray.toList_eq, beq_eq_false_iff_ne]; simpa using ht
 have ex3 : ¬ (⟨(textE ns).toArray⟩ : ByteArray) = (⟨s.toArray⟩ : ByteArray) := fun h => ht (by simpa using congrArg (fun x : ByteArray => x.data.toList) h)
 clear ht
 clear hk0 hk1 hk2 hba hL hs hp
 generalize (⟨s.toArray⟩ : ByteArray) = SS at *
 go_enter_defers Tryz.func20, Tryz.ntmps20
 go_wp2_with fail
 simp only [← hW, ← hB]
 clear hW hB
 refine HE.out.mono ?_
 rintro e w5 ⟨rfl, v5, hk5, hown5, hpf5⟩
 have hB5 : Below B w w5 := HBA.out.trans (hpf5.below (World.ownsRow_nil W (B + 2 + 1) 33 5) (by omega) (by omega))
 have hk0 := hpf5.blk HK0.out (by omega) (by intro h; cases h)
 have hk1 := hpf5.blk HK1.out (by omega) (by intro h; cases h)
 obtain ⟨A5, cap5, rfl, hn5, hm5, hr5, _⟩ := own_rd hown5
 have hL5 : LaidE w5 := HL.out.below (by rw [← HB.out]; exact hB5)
 have hEs : Es w5 ns A5 ns.length cap5 := ⟨rfl, hn5, hm5, hr5⟩
 have HTX := Lib.hid (eText_any ns A5 ns.length cap5 w5 hL5 hEs HF.out)
 unfold RetText at HTX
 simp only [hz, if_true] at HTX
 generalize (⟨(textE ns).toArray⟩ : ByteArray) = TX at *
 have HK0' := Lib.hid hk0
 have HK1' := Lib.hid hk1
 have HK5 := Lib.hid hk5
 have HES := Lib.hid hEs
 have HB5 := Lib.hid hB5
 have hcp := hk5.cells
 clear hk0 hk1 hk5 hn5 hm5 hr5 hL5 hEs hB5 hown5 hpf5
 go_wp2_with fail
 refine HTX.out.mono ?_
 rintro e w6 ⟨rfl, hb6⟩
 have hk0 := HK0'.out.below hb6 HK0'.out.lt
 have hk1 := HK1'.out.below hb6 HK1'.out.lt
 have hk5 := HK5.out.below hb6 HK5.out.lt
 have hc0 : w6.cell? ⟨B, 0, none⟩ = some (.slice none 0 0) := hk0.cells 0
 have hc1 : w6.cell? ⟨B + 1, 0, none⟩ = some (.int .i64 0) := hk1.cells 0
 have hf0 := hk0.froz
 have hf1 := hk1.froz
 have hc5 := hk5.cells
 have HBW : Hid (∀ u v, Below w.heap.size w ((w6.setCell ⟨B, 0, none⟩ u).setCell ⟨B + 1, 0, none⟩ v)) := fun u v => by
  have h1 : Below B w w6 := HB5.out.trans (hb6.mono (by have := HK0'.out.lt; omega))
  rw [← HB.out]
  exact (h1.setCell (p := ⟨B, 0, none⟩) (Nat.le_refl _) u).setCell (p := ⟨B + 1, 0, none⟩) (by show B ≤ B + 1; omega) v
 have HES6 := Lib.hid (HES.out.below hb6)
 have HGB : Hid (∀ b, b < B → True) := fun _ _ => trivial
 clear hb6 hcp hk0 hk1 hk5
 go_wp2
 refine leaves_cons (f := 52) (args := #[.pointer (some ⟨B, 0, none⟩), .pointer (some ⟨B + 1, 0, none⟩)]) (by simp) (by simp [go_sem]) ?_
 refine (pcatch_idle B (B + 1) _).mono ?_
 rintro e u' w7 ⟨rfl, rfl, rfl⟩
 have hd0 : ((w6.setCell ⟨B, 0, none⟩ (.slice none 0 0)).setCell ⟨B + 1, 0, none⟩ (.int .i64 11)).cell? ⟨B, 0, none⟩ = some (.slice none 0 0) := by
  rw [World.cell?_setCell_other _ _ _ _ (by simp)]
  exact World.cell?_setCell_same' _ _ _ (by rw [hc0]; rfl)
 have hd1 : ((w6.setCell ⟨B, 0, none⟩ (.slice none 0 0)).setCell ⟨B + 1, 0, none⟩ (.int .i64 11)).cell? ⟨B + 1, 0, none⟩ = some (.int .i64 11) :=
  World.cell?_setCell_same' _ _ _ (by rw [World.cell?_setCell_other _ _ _ _ (by simp), hc1]; rfl)
 simp [Leaves, settle, results, Tryz.results20, go_sem, hd0, hd1]
 exact RetEs.bad rfl (HBW.out _ _)
theorem rd_other {w : World} {A : Option Addr} {cs : List Value} (h : Rd w A cs) (p : Addr) (u : Value) (hne : ∀ ad, A = some ad → ad.block ≠ p.block) : Rd (w.setCell p u) A cs := by
 rcases h with rfl | ⟨b, off, rfl, hb, hc⟩
 ·exact .inl rfl
 ·refine .inr ⟨b, off, rfl, by simpa [World.setCell] using hb, fun i hi => ?_⟩
  rw [← hc i hi]
  exact World.cell?_of_block (Below.heap_setCell w p u b (hne _ rfl))
set_option maxRecDepth 100000 in
set_option maxHeartbeats 3200000 in
theorem eParse_ok (s : List UInt8) (w : World) (hL : LaidE w) (hs : s.length ≤ 1048576) (r : List UInt8) (ns : List Nd) (b : Nat) (hp : parA 61 s [] 0 = some (r, ns, b)) (hz : checkE ns = 0) (ht : textE ns = s) : Calls Tryz.prog 20 #[.string ⟨s.toArray⟩] w (RetEs (ns, 0) w) := by
 have hmf : ∀ (fn : Fn) (first cap : Array Value) (w : World), (Instr.makeFunc fn first cap).run Tryz.prog w = .ok (.func fn first cap) w := fun _ _ _ _ => rfl
 obtain ⟨W, hW⟩ : ∃ W, W = ((w.alloc (.cells #[.slice none 0 0] 22)).alloc (.cells #[.int .i64 0] 35)).alloc (.cells #[.string ⟨s.toArray⟩, .slice none 0 0, .int .i64 0] 84) := ⟨_, rfl⟩
 have htwo := Three.new w 22 35 84 #[.slice none 0 0] #[.int .i64 0] #[.string ⟨s.toArray⟩, .slice none 0 0, .int .i64 0]
 rw [← hW] at htwo
 obtain ⟨hk0, hk1, hk2, hba, hsz⟩ := htwo
 obtain ⟨B, hB⟩ : ∃ B, B = w.heap.size := ⟨_, rfl⟩
 have HB := Lib.hid hB
 rw [← hB] at hba hsz hk0 hk1 hk2
 have HE := Lib.hid (expr_any w hL (B + 2) (by rw [HB.out]; omega) 61 s [] 0 (.slice none 0 0) W (by rw [← HB.out]; exact hba) hk2 (World.ownsRow_nil _ _ _ _) hs (Nat.le_refl _) (by omega) (by omega))
 rw [hp] at HE
 have HF := Lib.hid (parA_fine 61 s [] 0 _ hp hs (fun n h => by cases h)).2
 have HK0 := Lib.hid hk0
 have HK1 := Lib.hid hk1
 have HBA := Lib.hid hba
 have HL := Lib.hid hL
 clear hk0 hk1 hk2 hba hL hs hp
 have HTS : Hid ((⟨(textE ns).toArray⟩ : ByteArray) = ⟨s.toArray⟩) := by show _ = _; rw [ht]
 clear ht
 generalize (⟨s.toArray⟩ : ByteArray) = SS at *
 go_enter_defers Tryz.func20, Tryz.ntmps20
 go_wp2_with fail
 simp only [← hW, ← hB]
 clear hW hB
 refine HE.out.mono ?_
 rintro e w5 ⟨rfl, v5, hk5, hown5, hpf5⟩
 have hB5 : Below B w w5 := HBA.out.trans (hpf5.below (World.ownsRow_nil W (B + 2 + 1) 33 5) (by omega) (by omega))
 have hk0 := hpf5.blk HK0.out (by omega) (by intro h; cases h)
 have hk1 := hpf5.blk HK1.out (by omega) (by intro h; cases h)
 obtain ⟨A5, cap5, rfl, hn5, hm5, hr5, _⟩ := own_rd hown5
 have hL5 : LaidE w5 := HL.out.below (by rw [← HB.out]; exact hB5)
 have hEs : Es w5 ns A5 ns.length cap5 := ⟨rfl, hn5, hm5, hr5⟩
 have HTX := Lib.hid (eText_any ns A5 ns.length cap5 w5 hL5 hEs HF.out)
 unfold RetText at HTX
 simp only [hz, if_true] at HTX
 rw [HTS.out] at HTX
 have hne5 : ∀ ad, A5 = some ad → B + 3 ≤ ad.block := by
  obtain ⟨A', c', hv, _, _, _, h4⟩ := own_rd2 hown5
  injection hv with e1 e2 e3
  rw [e1]; exact h4
 have HNE := Lib.hid hne5
 have HK0' := Lib.hid hk0
 have HK1' := Lib.hid hk1
 have HK5 := Lib.hid hk5
 have HES := Lib.hid hEs
 have HB5 := Lib.hid hB5
 have hcp := hk5.cells
 clear hk0 hk1 hk5 hn5 hm5 hr5 hL5 hEs hB5 hown5 hpf5
 go_wp2_with fail
 refine HTX.out.mono ?_
 rintro e w6 ⟨rfl, hb6⟩
 have hk0 := HK0'.out.below hb6 HK0'.out.lt
 have hk1 := HK1'.out.below hb6 HK1'.out.lt
 have hk5 := HK5.out.below hb6 HK5.out.lt
 have hc0 : w6.cell? ⟨B, 0, none⟩ = some (.slice none 0 0) := hk0.cells 0
 have hc1 : w6.cell? ⟨B + 1, 0, none⟩ = some (.int .i64 0) := hk1.cells 0
 have hf0 := hk0.froz
 have hf1 := hk1.froz
 have hc5 := hk5.cells
 have HBW : Hid (∀ u v, Below w.heap.size w ((w6.setCell ⟨B, 0, none⟩ u).setCell ⟨B + 1, 0, none⟩ v)) := fun u v => by
  have h1 : Below B w w6 := HB5.out.trans (hb6.mono (by have := HK0'.out.lt; omega))
  rw [← HB.out]
  exact (h1.setCell (p := ⟨B, 0, none⟩) (Nat.le_refl _) u).setCell (p := ⟨B + 1, 0, none⟩) (by show B ≤ B + 1; omega) v
 have HES6 := Lib.hid (HES.out.below hb6)
 have HGB : Hid (∀ b, b < B → True) := fun _ _ => trivial
 clear hb6 hcp hk0 hk1 hk5
 go_wp2
 refine leaves_cons (f := 52) (args := #[.pointer (some ⟨B, 0, none⟩), .pointer (some ⟨B + 1, 0, none⟩)]) (by simp) (by simp [go_sem]) ?_
 refine (pcatch_idle B (B + 1) _).mono ?_
 rintro e u' w7 ⟨rfl, rfl, rfl⟩
 have hd0 : ((w6.setCell ⟨B, 0, none⟩ (.slice A5 ns.length cap5)).setCell ⟨B + 1, 0, none⟩ (.int .i64 0)).cell? ⟨B, 0, none⟩ = some (.slice A5 ns.length cap5) := by
  rw [World.cell?_setCell_other _ _ _ _ (by simp)]
  exact World.cell?_setCell_same' _ _ _ (by rw [hc0]; rfl)
 have hd1 : ((w6.setCell ⟨B, 0, none⟩ (.slice A5 ns.length cap5)).setCell ⟨B + 1, 0, none⟩ (.int .i64 0)).cell? ⟨B + 1, 0, none⟩ = some (.int .i64 0) :=
  World.cell?_setCell_same' _ _ _ (by rw [World.cell?_setCell_other _ _ _ _ (by simp), hc1]; rfl)
 simp [Leaves, settle, results, Tryz.results20, go_sem, hd0, hd1]
 refine ⟨A5, ns.length, cap5, rfl, ⟨rfl, HES6.out.cap, HES6.out.max, ?_⟩, HBW.out _ _⟩
 exact rd_other (rd_other HES6.out.rd ⟨B, 0, none⟩ _ (fun ad h => by have := HNE.out ad h; show ad.block ≠ B; omega)) ⟨B + 1, 0, none⟩ _ (fun ad h => by have := HNE.out ad h; show ad.block ≠ B + 1; omega)
def parseE (s : List UInt8) : List Nd × Int := match parseA s with
 | some e => (e, 0)
 | none => ([], 11)
theorem eParse_any (s : List UInt8) (w : World) (hL : LaidE w) (hs : s.length ≤ 1048576) : Calls Tryz.prog 20 #[.string ⟨s.toArray⟩] w (RetEs (parseE s) w) := by
 unfold parseE parseA
 cases hp : parA 61 s [] 0 with
 | none => exact eParse_none s w hL hs hp
 | some q =>
  obtain ⟨r, ns, b⟩ := q
  simp only [Option.bind_some]
  by_cases hz : checkE ns = 0
  ·by_cases ht : textE ns = s
   ·rw [if_pos ⟨hz, ht⟩]
    exact eParse_ok s w hL hs r ns b hp hz ht
   ·rw [if_neg (fun h => ht h.2)]
    exact eParse_other s w hL hs r ns b hp hz ht
  ·rw [if_neg (fun h => hz h.1)]
   exact eParse_wrong s w hL hs r ns b hp hz
end Go.Proofs.YtbicehdehiakgaaGreatDoor
namespace Go.Proofs.YtbicehdehiakgaaGreatDoor
open Go.RowKit
theorem leaf_form (n : Int) (h0 : -9223372036854775808 ≤ n ∧ n ≤ 9223372036854775807) : ∃ (op : Int) (a : Bool) (u d s : ByteArray), leafN n = ⟨op, ⟨a, u, d⟩, s⟩ ∧ ∀ W : World, Calls Tryz.prog 45 #[.int .i64 n] W fun e w' => e = .returned (.agg #[.int .i64 op, .bool a, .string u, .string d, .string s]) ∧ Below W.heap.size W w' :=
 ⟨(leafN n).op, (leafN n).num.neg, (leafN n).num.num, (leafN n).num.den, (leafN n).name, rfl, fun W => gLeaf_any n W h0⟩
theorem step_form (q0 q1 : Int) (h0 : -9223372036854775808 ≤ q0 ∧ q0 ≤ 9223372036854775807) (h1 : -9223372036854775808 ≤ q1 ∧ q1 ≤ 9223372036854775807) : ∃ (a : Bool) (u d : ByteArray), stepR q0 q1 3 = ⟨a, u, d⟩ ∧ ∀ W : World, Calls Tryz.prog 32 #[.agg #[.int .i64 q0, .int .i64 q1, .int .i64 3]] W fun e w' => e = .returned (.agg #[.bool a, .string u, .string d]) ∧ Below W.heap.size W w' :=
 ⟨(stepR q0 q1 3).neg, (stepR q0 q1 3).num, (stepR q0 q1 3).den, rfl, fun W => gStep_any q0 q1 3 W h0 h1 (by omega)⟩
set_option maxRecDepth 100000 in
set_option maxHeartbeats 3200000 in
theorem gMade_any (l : List Int) (A1 : Option Addr) (l1 c1 : Nat) (w : World) (hl : l1 = l.length) (hm : l1 ≤ maxLen) (hr : Rd w A1 (Zs l)) (hb : ∀ n ∈ l, -9223372036854775808 ≤ n ∧ n ≤ 9223372036854775807) :
  Calls Tryz.prog 17 #[.slice A1 l1 c1] w fun e w' => ∃ A n c, e = .returned (.slice A n c) ∧ Es w' (madeE l) A n c ∧ Below w.heap.size w w' := by
 have HR := Lib.hid hr; have HLN := Lib.hid hl; have HRG := Lib.hid hb
 unfold maxLen at hm
 have HPL : Hid (∀ k, (madeP (l.take k)).1.length = min k l.length) := fun k => by rw [(madeP_len _).1, List.length_take]
 have HFIN : Hid (∀ os dp, (os, dp) = madeP (l.take 30) → madeE l = (madeF (os, dp)).1 ++ List.replicate ((madeF (os, dp)).2 - 1) (plN 9)) := fun os dp h => by rw [h]; rfl
 obtain ⟨one_a, one_u, one_d, hone, HON⟩ : ∃ (a : Bool) (u d : ByteArray), nuN 3 1 = ⟨3, ⟨a, u, d⟩, ⟨#[]⟩⟩ ∧ ∀ W : World, Calls Tryz.prog 37 #[.int .i64 1] W fun e w' => e = .returned (.agg #[.bool a, .string u, .string d]) ∧ Below W.heap.size W w' :=
  ⟨(ofI 1).neg, (ofI 1).num, (ofI 1).den, rfl, fun W => sOf_any 1 W (by omega) (by omega)⟩
 have HON := Lib.hid HON; have HONE := Lib.hid hone
 generalize madeE l = re at *
 clear hr hl hb hone
 go_enter Tryz.func17, Tryz.ntmps17
 go_wp2
 go_loopg [3, 4, 5] l1 (fun g ov dv iv wr => ∃ (k : Nat) (os : List Nd) (dp : Nat), k + g = l1 ∧ k ≤ 30 ∧ iv = .int .i64 k ∧ dv = .int .i64 dp ∧ Hid (wr.ownsRow w.heap.size 33 5 ov k (nds os)) ∧ Hid ((os, dp) = madeP (l.take k)) ∧ os.length = k ∧ dp ≤ k ∧ Below w.heap.size w wr)
 case atStart => exact ⟨0, [], 0, by omega, by omega, rfl, rfl, World.ownsRow_nil _ _ _ _, rfl, rfl, Nat.le_refl _, Below.refl _ _⟩
 case round =>
  obtain ⟨k, os, dp, hk, hk30, rfl, rfl, hown, hos, hol, hdk, hbr⟩ := hrel
  by_cases hlt : k < l1
  ·by_cases h30 : k < 30
   ·have h30' : (k : Int) < 30 := by omega
    have hke : k < l.length := by rw [← HLN.out]; exact hlt
    have hng := HRG.out (l[k]) (List.getElem_mem hke)
    obtain ⟨b, off, hA, hb, hc⟩ := (HR.out.below hbr).at_ (k := k) (by rw [Zs_length]; exact hke)
    subst hA
    have hcell := hc k (by rw [Zs_length]; exact hke)
    have hzs : (Zs l)[k]'(by rw [Zs_length]; exact hke) = .int .i64 l[k] := by simp [Zs]
    rw [hzs] at hcell
    have HT : Hid (madeP (l.take (k + 1)) = madeS (os, dp) l[k]) := by
     show _ = _
     rw [List.take_succ_eq_append_getElem hke, madeP_snoc, ← hos.out]
    generalize l[k] = n at *
    obtain ⟨hz0, hz1⟩ := mod_in n 24 (by omega)
    obtain ⟨hx0, hx1⟩ := tdiv_in n 24 (by omega) hng
    obtain ⟨hy0, hy1⟩ := tdiv_in n 48 (by omega) hng
    have HMo := Lib.hid (fun W => sMod_any n 24 W hng.1 hng.2 (by omega) (by omega))
    have HMS : Hid (madeS (os, dp) n = if (shp (1 + n % 24)).ops = 0 ∨ dp < (shp (1 + n % 24)).ops then (os ++ [leafN (n.tdiv 24)], dp + 1) else (os ++ [nodeN n], dp - (shp (1 + n % 24)).ops + 1)) := rfl
    have HND : Hid (nodeN n = ⟨1 + n % 24, if (shp (1 + n % 24)).stp then stepR (n.tdiv 24) (n.tdiv 48) 3 else zR, if (shp (1 + n % 24)).nam then poolS (n.tdiv 24) else ⟨#[]⟩⟩) := rfl
    generalize madeS (os, dp) n = ms at *
    generalize nodeN n = nn at *
    obtain ⟨x, hx⟩ : ∃ x, n.tdiv 24 = x := ⟨_, rfl⟩
    obtain ⟨y, hy⟩ : ∃ y, n.tdiv 48 = y := ⟨_, rfl⟩
    rw [hx] at hx0 hx1 HMS HND
    rw [hy] at hy0 hy1 HND
    have hwx : IntKind.i64.wrap x = x := IntWalk.i64_in _ (by omega)
    have hwy : IntKind.i64.wrap y = y := IntWalk.i64_in _ (by omega)
    have hwz : IntKind.i64.wrap (1 + n % 24) = 1 + n % 24 := IntWalk.i64_in _ (by omega)
    obtain ⟨lo, la, lu, ld, ls, hlq, hLF⟩ := leaf_form x ⟨by omega, hx1⟩
    obtain ⟨sa, su, sd, hsq, hST⟩ := step_form x y ⟨by omega, hx1⟩ ⟨by omega, hy1⟩
    have HPO := Lib.hid (fun W => gPool_any x W ⟨by omega, hx1⟩)
    have HLF := Lib.hid hLF; have HSTE := Lib.hid hST
    rw [hlq] at HMS
    rw [hsq] at HND
    generalize poolS x = ps at *
    obtain ⟨z, hz⟩ : ∃ z, n % 24 = z := ⟨_, rfl⟩
    rw [hz] at HMo HMS HND hwz hz0 hz1
    obtain ⟨op, hop⟩ : ∃ op, 1 + z = op := ⟨_, rfl⟩
    have hwo : IntKind.i64.wrap (1 + z) = op := hwz.trans hop
    rw [hop] at HMS HND
    have HAR := Lib.hid (fun W => gArity_any op W)
    have HNM := Lib.hid (fun W => gNamed_any op W)
    have HSP := Lib.hid (fun W => gStepped_any op W)
    have hns : ¬ ((shp op).nam = true ∧ (shp op).stp = true) := by
     rw [shp_nam, shp_stp]; simp; omega
    generalize (shp op).ops = o at *
    generalize (shp op).nam = nm at *
    generalize (shp op).stp = st at *
    clear hng hx0 hx1 hy0 hy1 hz0 hz1 hwz hlq hsq hLF hST hz hzs hop hos hb hc
    go_wp2_with fail
    refine (HMo.out _).mono ?_
    rintro e w1 ⟨rfl, rfl⟩
    obtain ⟨W0, rfl⟩ : ∃ W0 : World, W0 = wr := ⟨_, rfl⟩
    go_wp2_with fail
    refine (HAR.out _).mono ?_
    rintro e w1 ⟨rfl, rfl⟩
    by_cases hlf : o = 0 ∨ dp < o
    ·have HM : Hid (ms = (os ++ [(⟨lo, ⟨la, lu, ld⟩, ls⟩ : Nd)], dp + 1)) := by show _ = _; rw [HMS.out, if_pos hlf]
     rcases Nat.eq_zero_or_pos o with ho | ho
     ·subst ho
      go_wp2_with fail
      refine (HLF.out _).mono ?_
      rintro e w2 ⟨rfl, hb2⟩
      have HOX := Lib.hid (own_below hown.out hb2)
      have HBB := Lib.hid (bstep hbr hb2)
      clear hb2 hbr hown
      go_wp2_with (at_builtin; go_must (refine wpList_push w2 #[.int .i64 lo, .bool la, .string lu, .string ld, .string ls] rfl _ _ 22 rfl w.heap.size 33 _ 5 64 1 Tryz.underlying22 info_node rfl (by decide) u3 k (nds os) rfl HOX.out rfl rfl ?_ ?_ ?_ ?_ ?_))
      any_goals first | (unfold maxLen; omega) | omega
      ·first | exact ⟨rfl, rfl, rfl, rfl, rfl⟩ | (simp [Value.oneCell']; done)
      ·exact HBB.out.size
      intro v' w' hown' hb'
      have HOWN : Hid (w'.ownsRow w.heap.size 33 5 v' (k + 1) (nds (os ++ [(⟨lo, ⟨la, lu, ld⟩, ls⟩ : Nd)]))) := by
       show World.ownsRow _ _ _ _ _ _ _
       rw [nds_append]; exact hown'
      have HB := Lib.hid (HBB.out.trans hb')
      clear hown' hb'
      go_wp2
      go_roundg (l1 - (k + 1))
      case measure => omega
      case rel => exact ⟨k + 1, os ++ [(⟨lo, ⟨la, lu, ld⟩, ls⟩ : Nd)], dp + 1, by omega, by omega, by go_num, by go_num, HOWN, by show _ = _; rw [HT.out]; exact HM.out.symm, by simp [hol], by omega, HB.out⟩
     ·have hq0 : ((o : Int) == 0) = false := by rw [beq_eq_false_iff_ne]; omega
      have hq1 : (dp : Int) < o := by omega
      go_wp2_with fail
      refine (HLF.out _).mono ?_
      rintro e w2 ⟨rfl, hb2⟩
      have HOX := Lib.hid (own_below hown.out hb2)
      have HBB := Lib.hid (bstep hbr hb2)
      clear hb2 hbr hown
      go_wp2_with (at_builtin; go_must (refine wpList_push w2 #[.int .i64 lo, .bool la, .string lu, .string ld, .string ls] rfl _ _ 22 rfl w.heap.size 33 _ 5 64 1 Tryz.underlying22 info_node rfl (by decide) u3 k (nds os) rfl HOX.out rfl rfl ?_ ?_ ?_ ?_ ?_))
      any_goals first | (unfold maxLen; omega) | omega
      ·first | exact ⟨rfl, rfl, rfl, rfl, rfl⟩ | (simp [Value.oneCell']; done)
      ·exact HBB.out.size
      intro v' w' hown' hb'
      have HOWN : Hid (w'.ownsRow w.heap.size 33 5 v' (k + 1) (nds (os ++ [(⟨lo, ⟨la, lu, ld⟩, ls⟩ : Nd)]))) := by
       show World.ownsRow _ _ _ _ _ _ _
       rw [nds_append]; exact hown'
      have HB := Lib.hid (HBB.out.trans hb')
      clear hown' hb'
      go_wp2
      go_roundg (l1 - (k + 1))
      case measure => omega
      case rel => exact ⟨k + 1, os ++ [(⟨lo, ⟨la, lu, ld⟩, ls⟩ : Nd)], dp + 1, by omega, by omega, by go_num, by go_num, HOWN, by show _ = _; rw [HT.out]; exact HM.out.symm, by simp [hol], by omega, HB.out⟩
    ·have hq0 : ((o : Int) == 0) = false := by rw [beq_eq_false_iff_ne]; omega
     have hq1 : decide ((dp : Int) < o) = false := by rw [decide_eq_false_iff_not]; omega
     have hq2 : ¬ (dp : Int) < o := by omega
     go_wp2_with fail
     obtain ⟨V, hV⟩ : ∃ V, V = W0.alloc (.cells #[.int .i64 op, .bool false, .string ⟨#[]⟩, .string ⟨#[]⟩, .string ⟨#[]⟩] 33) := ⟨_, rfl⟩
     have hkV : Blk V W0.heap.size 33 [.int .i64 op, .bool false, .string ⟨#[]⟩, .string ⟨#[]⟩, .string ⟨#[]⟩] := by rw [hV]; exact Blk.new W0 _ _
     have hbV : Below W0.heap.size W0 V := by rw [hV]; exact (Below.refl _ _).alloc (Nat.le_refl _) _
     simp only [← hV]
     clear hV
     obtain ⟨C, hC⟩ : ∃ C, C = W0.heap.size := ⟨_, rfl⟩
     have HC := Lib.hid hC
     rw [← hC] at hkV
     simp only [← hC]
     clear hC
     refine (HNM.out _).mono ?_
     rintro e w1 ⟨rfl, rfl⟩
     cases nm
     ·go_wp2_with fail
      refine (HSP.out _).mono ?_
      rintro e w1 ⟨rfl, rfl⟩
      have hcV := hkV.cells
      have hfV := hkV.froz
      cases st
      ·have HBX := Lib.hid hbV
       clear hbV
       have HM : Hid (ms = (os ++ [(⟨op, ⟨false, ⟨#[]⟩, ⟨#[]⟩⟩, ⟨#[]⟩⟩ : Nd)], dp - o + 1)) := by
        show _ = _
        rw [HMS.out, if_neg hlf, HND.out]; rfl
       have HOX := Lib.hid (own_below hown.out HBX.out)
       have HBB := Lib.hid (hbr.trans (HBX.out.mono hbr.size))
       clear HBX hbr hown
       go_wp2_with (at_builtin; go_must (refine wpList_push V #[.int .i64 op, .bool false, .string ⟨#[]⟩, .string ⟨#[]⟩, .string ⟨#[]⟩] rfl _ _ 22 rfl w.heap.size 33 _ 5 64 1 Tryz.underlying22 info_node rfl (by decide) u3 k (nds os) rfl HOX.out rfl rfl ?_ ?_ ?_ ?_ ?_))
       any_goals first | (unfold maxLen; omega) | omega
       ·first | exact ⟨rfl, rfl, rfl, rfl, rfl⟩ | (simp [Value.oneCell']; done)
       ·exact HBB.out.size
       intro v' w' hown' hb'
       have HOWN : Hid (w'.ownsRow w.heap.size 33 5 v' (k + 1) (nds (os ++ [(⟨op, ⟨false, ⟨#[]⟩, ⟨#[]⟩⟩, ⟨#[]⟩⟩ : Nd)]))) := by
        show World.ownsRow _ _ _ _ _ _ _
        rw [nds_append]; exact hown'
       have HB := Lib.hid (HBB.out.trans hb')
       clear hown' hb'
       have hsb2 : IntKind.i64.wrap ((dp : Int) - o) = ((dp - o : Nat) : Int) := by rw [IntWalk.i64_in _ (by omega)]; omega
       go_wp2
       go_roundg (l1 - (k + 1))
       case measure => omega
       case rel => exact ⟨k + 1, os ++ [(⟨op, ⟨false, ⟨#[]⟩, ⟨#[]⟩⟩, ⟨#[]⟩⟩ : Nd)], dp - o + 1, by omega, by omega, by go_num, by first | go_num | (congr 1; omega), HOWN, by show _ = _; rw [HT.out]; exact HM.out.symm, by simp [hol], by omega, HB.out⟩
      ·go_wp2_with fail
       refine (HSTE.out _).mono ?_
       rintro e w2 ⟨rfl, hb2⟩
       have hk2 := hkV.below hb2 hkV.lt
       have hbX := hbV.trans (hb2.mono hbV.size)
       clear hcV hfV hkV hbV hb2
       have hc2 := hk2.cells
       have hf2 := hk2.froz
       have hkX := ((hk2.set 1 (.bool sa)).set 2 (.string su)).set 3 (.string sd)
       have HBX : Hid (Below W0.heap.size W0 (((w2.setCell ⟨C, 1, none⟩ (.bool sa)).setCell ⟨C, 2, none⟩ (.string su)).setCell ⟨C, 3, none⟩ (.string sd))) := by
        have hCe := HC.out
        have hCl : W0.heap.size ≤ C := by omega
        exact ((hbX.setCell (p := ⟨C, 1, none⟩) hCl _).setCell (p := ⟨C, 2, none⟩) hCl _).setCell (p := ⟨C, 3, none⟩) hCl _
       have hcX := hkX.cells
       simp only [List.set_cons_zero, List.set_cons_succ] at hcX
       clear hbX hkX hk2
       have HM : Hid (ms = (os ++ [(⟨op, ⟨sa, su, sd⟩, ⟨#[]⟩⟩ : Nd)], dp - o + 1)) := by
        show _ = _
        rw [HMS.out, if_neg hlf, HND.out]; rfl
       have HOX := Lib.hid (own_below hown.out HBX.out)
       have HBB := Lib.hid (hbr.trans (HBX.out.mono hbr.size))
       clear HBX hbr hown
       go_wp2_with (at_builtin; go_must (refine wpList_push (((w2.setCell ⟨C, 1, none⟩ (.bool sa)).setCell ⟨C, 2, none⟩ (.string su)).setCell ⟨C, 3, none⟩ (.string sd)) #[.int .i64 op, .bool sa, .string su, .string sd, .string ⟨#[]⟩] rfl _ _ 22 rfl w.heap.size 33 _ 5 64 1 Tryz.underlying22 info_node rfl (by decide) u3 k (nds os) rfl HOX.out (by rw [World.size_setCell, World.size_setCell, World.size_setCell]; rfl) rfl ?_ ?_ ?_ ?_ ?_))
       any_goals first | (unfold maxLen; omega) | omega
       ·first | exact ⟨rfl, rfl, rfl, rfl, rfl⟩ | (simp [Value.oneCell']; done)
       ·exact HBB.out.size
       intro v' w' hown' hb'
       have HOWN : Hid (w'.ownsRow w.heap.size 33 5 v' (k + 1) (nds (os ++ [(⟨op, ⟨sa, su, sd⟩, ⟨#[]⟩⟩ : Nd)]))) := by
        show World.ownsRow _ _ _ _ _ _ _
        rw [nds_append]; exact hown'
       have HB := Lib.hid (HBB.out.trans hb')
       clear hown' hb'
       have hsb2 : IntKind.i64.wrap ((dp : Int) - o) = ((dp - o : Nat) : Int) := by rw [IntWalk.i64_in _ (by omega)]; omega
       go_wp2
       go_roundg (l1 - (k + 1))
       case measure => omega
       case rel => exact ⟨k + 1, os ++ [(⟨op, ⟨sa, su, sd⟩, ⟨#[]⟩⟩ : Nd)], dp - o + 1, by omega, by omega, by go_num, by first | go_num | (congr 1; omega), HOWN, by show _ = _; rw [HT.out]; exact HM.out.symm, by simp [hol], by omega, HB.out⟩
     ·obtain rfl : st = false := by
       cases st
       ·rfl
       ·exact absurd ⟨rfl, rfl⟩ hns
      go_wp2_with fail
      refine (HPO.out _).mono ?_
      rintro e w2 ⟨rfl, hb2⟩
      have hk2 := hkV.below hb2 hkV.lt
      have hbX := hbV.trans (hb2.mono hbV.size)
      clear hkV hbV hb2
      have hc2 := hk2.cells
      have hf2 := hk2.froz
      obtain ⟨X, hX⟩ : ∃ X, X = w2.setCell ⟨C, 4, none⟩ (.string ps) := ⟨_, rfl⟩
      have hkX := hk2.set 4 (.string ps)
      have HBX : Hid (Below W0.heap.size W0 X) := by
       have hCe := HC.out
       have hCl : W0.heap.size ≤ C := by omega
       rw [hX]
       exact hbX.setCell (p := ⟨C, 4, none⟩) hCl _
      rw [← hX] at hkX
      simp only [List.set_cons_zero, List.set_cons_succ] at hkX
      go_wp2_with fail
      simp only [← hX]
      clear hX hc2 hf2 hk2 hbX
      refine (HSP.out _).mono ?_
      rintro e w1 ⟨rfl, rfl⟩
      have hcX := hkX.cells
      have hfX := hkX.froz
      have HM : Hid (ms = (os ++ [(⟨op, ⟨false, ⟨#[]⟩, ⟨#[]⟩⟩, ps⟩ : Nd)], dp - o + 1)) := by
       show _ = _
       rw [HMS.out, if_neg hlf, HND.out]; rfl
      have HOX := Lib.hid (own_below hown.out HBX.out)
      have HBB := Lib.hid (hbr.trans (HBX.out.mono hbr.size))
      clear HBX hbr hown
      go_wp2_with (at_builtin; go_must (refine wpList_push X #[.int .i64 op, .bool false, .string ⟨#[]⟩, .string ⟨#[]⟩, .string ps] rfl _ _ 22 rfl w.heap.size 33 _ 5 64 1 Tryz.underlying22 info_node rfl (by decide) u3 k (nds os) rfl HOX.out rfl rfl ?_ ?_ ?_ ?_ ?_))
      any_goals first | (unfold maxLen; omega) | omega
      ·first | exact ⟨rfl, rfl, rfl, rfl, rfl⟩ | (simp [Value.oneCell']; done)
      ·exact HBB.out.size
      intro v' w' hown' hb'
      have HOWN : Hid (w'.ownsRow w.heap.size 33 5 v' (k + 1) (nds (os ++ [(⟨op, ⟨false, ⟨#[]⟩, ⟨#[]⟩⟩, ps⟩ : Nd)]))) := by
       show World.ownsRow _ _ _ _ _ _ _
       rw [nds_append]; exact hown'
      have HB := Lib.hid (HBB.out.trans hb')
      clear hown' hb'
      have hsb2 : IntKind.i64.wrap ((dp : Int) - o) = ((dp - o : Nat) : Int) := by rw [IntWalk.i64_in _ (by omega)]; omega
      go_wp2
      go_roundg (l1 - (k + 1))
      case measure => omega
      case rel => exact ⟨k + 1, os ++ [(⟨op, ⟨false, ⟨#[]⟩, ⟨#[]⟩⟩, ps⟩ : Nd)], dp - o + 1, by omega, by omega, by go_num, by first | go_num | (congr 1; omega), HOWN, by show _ = _; rw [HT.out]; exact HM.out.symm, by simp [hol], by omega, HB.out⟩
   ·have h30' : decide ((k : Int) < 30) = false := by rw [decide_eq_false_iff_not]; omega
    have hq9 : (k : Int) < l1 := by omega
    have HD : Hid ((os, dp) = madeP (l.take 30)) := by show _ = _; rw [hos.out, show k = 30 from by omega]
    have HRE0 := Lib.hid (HFIN.out os dp HD.out)
    by_cases hd0 : dp = 0
    ·subst hd0
     have HRE : Hid (re = (os ++ [(⟨3, ⟨one_a, one_u, one_d⟩, ⟨#[]⟩⟩ : Nd)]) ++ List.replicate (1 - 1) (plN 9)) := by
      show _ = _
      rw [HRE0.out]; unfold madeF; rw [if_pos rfl, HONE.out]
     clear HRE0 HFIN HD hos
     go_wp2_with fail
     refine (HON.out _).mono ?_
     rintro e w2 ⟨rfl, hb2⟩
     have HOX := Lib.hid (own_below hown.out hb2)
     have HBB := Lib.hid (bstep hbr hb2)
     clear hb2 hbr hown
     go_wp2_with (at_builtin; go_must (refine wpList_push w2 #[.int .i64 3, .bool one_a, .string one_u, .string one_d, .string ⟨#[]⟩] rfl _ _ 22 rfl w.heap.size 33 _ 5 64 1 Tryz.underlying22 info_node rfl (by decide) u3 k (nds os) rfl HOX.out rfl rfl ?_ ?_ ?_ ?_ ?_))
     any_goals first | (unfold maxLen; omega) | omega
     ·first | exact ⟨rfl, rfl, rfl, rfl, rfl⟩ | (simp [Value.oneCell']; done)
     ·exact HBB.out.size
     intro v' w' hown' hb'
     have HOWN : Hid (w'.ownsRow w.heap.size 33 5 v' (k + 1) (nds (os ++ [(⟨3, ⟨one_a, one_u, one_d⟩, ⟨#[]⟩⟩ : Nd)]))) := by
      show World.ownsRow _ _ _ _ _ _ _
      rw [nds_append]; exact hown'
     have HB := Lib.hid (HBB.out.trans hb')
     clear hown' hb'
     go_wp2
     go_loopg [3, 4] (1 - 1) (fun g ov dv wr2 => ∃ j : Nat, j + g = 1 - 1 ∧ dv = .int .i64 ((1 - j : Nat) : Int) ∧ Hid (wr2.ownsRow w.heap.size 33 5 ov (k + 1 + j) (nds ((os ++ [(⟨3, ⟨one_a, one_u, one_d⟩, ⟨#[]⟩⟩ : Nd)]) ++ List.replicate j (plN 9)))) ∧ Below w.heap.size w wr2)
     case atStart => exact ⟨0, by omega, by first | rfl | (congr 1), by simpa using HOWN, HB.out⟩
     case round =>
      obtain ⟨j, hj, rfl, hown2, hb2⟩ := hrel
      clear HB HOWN
      by_cases hjl : j < 1 - 1
      ·omega
      ·have hq3 : decide ((1 : Int) < ((1 - j : Nat) : Int)) = false := by rw [decide_eq_false_iff_not]; omega
       have hq4 : ¬ (1 : Int) < ((1 - j : Nat) : Int) := by omega
       obtain ⟨A, cp, rfl, g1, g2, g3, g4⟩ := own_rd hown2.out
       have HBR := Lib.hid hb2
       have HE : Hid (Es wr re A (k + 1 + j) cp) := by
        refine ⟨?_, g1, g2, ?_⟩
        ·rw [HRE.out]; simp [hol]; omega
        ·rw [HRE.out, show 1 - 1 = j from by omega]; exact g3
       clear hb2 g1 g2 g3 g4 hown2
       go_wp2
       go_ret
       exact ⟨A, k + 1 + j, cp, rfl, HE.out, HBR.out⟩
    ·have HRE : Hid (re = os ++ List.replicate (dp - 1) (plN 9)) := by
      show _ = _
      rw [HRE0.out]; unfold madeF; rw [if_neg hd0]
     have hq5 : ((dp : Int) == 0) = false := by rw [beq_eq_false_iff_ne]; omega
     have HOWN := hown
     have HB := Lib.hid hbr
     clear HRE0 HFIN HD hos hown hbr
     go_wp2
     go_loopg [3, 4] (dp - 1) (fun g ov dv wr2 => ∃ j : Nat, j + g = dp - 1 ∧ dv = .int .i64 ((dp - j : Nat) : Int) ∧ Hid (wr2.ownsRow w.heap.size 33 5 ov (k + j) (nds (os ++ List.replicate j (plN 9)))) ∧ Below w.heap.size w wr2)
     case atStart => exact ⟨0, by omega, by first | rfl | (congr 1), by simpa using HOWN, HB.out⟩
     case round =>
      obtain ⟨j, hj, rfl, hown2, hb2⟩ := hrel
      clear HB HOWN
      by_cases hjl : j < dp - 1
      ·have hq3 : (1 : Int) < ((dp - j : Nat) : Int) := by omega
       have HB2 := Lib.hid hb2
       clear hb2
       go_wp2_with (at_builtin; go_must (refine wpList_push wr #[.int .i64 9, .bool false, .string ⟨#[]⟩, .string ⟨#[]⟩, .string ⟨#[]⟩] rfl _ _ 22 rfl w.heap.size 33 _ 5 64 1 Tryz.underlying22 info_node rfl (by decide) u3 (k + j) (nds (os ++ List.replicate j (plN 9))) rfl hown2.out rfl rfl ?_ ?_ ?_ ?_ ?_))
       any_goals first | (unfold maxLen; omega) | omega
       ·first | exact ⟨rfl, rfl, rfl, rfl, rfl⟩ | (simp [Value.oneCell']; done)
       ·exact HB2.out.size
       intro v' w' hown' hb'
       have HOW3 : Hid (w'.ownsRow w.heap.size 33 5 v' (k + (j + 1)) (nds (os ++ List.replicate (j + 1) (plN 9)))) := by
        show World.ownsRow _ _ _ _ _ _ _
        rw [List.replicate_succ', ← List.append_assoc, nds_append]; exact hown'
       have HB3 := Lib.hid (HB2.out.trans hb')
       have hsb : IntKind.i64.wrap (((dp - j : Nat) : Int) - 1) = ((dp - (j + 1) : Nat) : Int) := by rw [IntWalk.i64_in _ (by omega)]; omega
       clear hown' hb'
       go_wp2
       go_roundg (dp - 1 - (j + 1))
       case measure => omega
       case rel => exact ⟨j + 1, by omega, by first | go_num | (congr 1; omega), HOW3, HB3.out⟩
      ·have hq3 : decide ((1 : Int) < ((dp - j : Nat) : Int)) = false := by rw [decide_eq_false_iff_not]; omega
       have hq4 : ¬ (1 : Int) < ((dp - j : Nat) : Int) := by omega
       obtain ⟨A, cp, rfl, g1, g2, g3, g4⟩ := own_rd hown2.out
       have HBR := Lib.hid hb2
       have HE : Hid (Es wr re A (k + j) cp) := by
        refine ⟨?_, g1, g2, ?_⟩
        ·rw [HRE.out]; simp [hol]; omega
        ·rw [HRE.out, show dp - 1 = j from by omega]; exact g3
       clear hb2 g1 g2 g3 g4 hown2
       go_wp2
       go_ret
       exact ⟨A, k + j, cp, rfl, HE.out, HBR.out⟩
  ·have hq9 : decide ((k : Int) < l1) = false := by rw [decide_eq_false_iff_not]; omega
   have HD : Hid ((os, dp) = madeP (l.take 30)) := by
    show _ = _
    rw [hos.out, List.take_of_length_le (by have := HLN.out; omega), List.take_of_length_le (by have := HLN.out; omega)]
   have HRE0 := Lib.hid (HFIN.out os dp HD.out)
   by_cases hd0 : dp = 0
   ·subst hd0
    have HRE : Hid (re = (os ++ [(⟨3, ⟨one_a, one_u, one_d⟩, ⟨#[]⟩⟩ : Nd)]) ++ List.replicate (1 - 1) (plN 9)) := by
     show _ = _
     rw [HRE0.out]; unfold madeF; rw [if_pos rfl, HONE.out]
    clear HRE0 HFIN HD hos
    go_wp2_with fail
    refine (HON.out _).mono ?_
    rintro e w2 ⟨rfl, hb2⟩
    have HOX := Lib.hid (own_below hown.out hb2)
    have HBB := Lib.hid (bstep hbr hb2)
    clear hb2 hbr hown
    go_wp2_with (at_builtin; go_must (refine wpList_push w2 #[.int .i64 3, .bool one_a, .string one_u, .string one_d, .string ⟨#[]⟩] rfl _ _ 22 rfl w.heap.size 33 _ 5 64 1 Tryz.underlying22 info_node rfl (by decide) u3 k (nds os) rfl HOX.out rfl rfl ?_ ?_ ?_ ?_ ?_))
    any_goals first | (unfold maxLen; omega) | omega
    ·first | exact ⟨rfl, rfl, rfl, rfl, rfl⟩ | (simp [Value.oneCell']; done)
    ·exact HBB.out.size
    intro v' w' hown' hb'
    have HOWN : Hid (w'.ownsRow w.heap.size 33 5 v' (k + 1) (nds (os ++ [(⟨3, ⟨one_a, one_u, one_d⟩, ⟨#[]⟩⟩ : Nd)]))) := by
     show World.ownsRow _ _ _ _ _ _ _
     rw [nds_append]; exact hown'
    have HB := Lib.hid (HBB.out.trans hb')
    clear hown' hb'
    go_wp2
    go_loopg [3, 4] (1 - 1) (fun g ov dv wr2 => ∃ j : Nat, j + g = 1 - 1 ∧ dv = .int .i64 ((1 - j : Nat) : Int) ∧ Hid (wr2.ownsRow w.heap.size 33 5 ov (k + 1 + j) (nds ((os ++ [(⟨3, ⟨one_a, one_u, one_d⟩, ⟨#[]⟩⟩ : Nd)]) ++ List.replicate j (plN 9)))) ∧ Below w.heap.size w wr2)
    case atStart => exact ⟨0, by omega, by first | rfl | (congr 1), by simpa using HOWN, HB.out⟩
    case round =>
     obtain ⟨j, hj, rfl, hown2, hb2⟩ := hrel
     clear HB HOWN
     by_cases hjl : j < 1 - 1
     ·omega
     ·have hq3 : decide ((1 : Int) < ((1 - j : Nat) : Int)) = false := by rw [decide_eq_false_iff_not]; omega
      have hq4 : ¬ (1 : Int) < ((1 - j : Nat) : Int) := by omega
      obtain ⟨A, cp, rfl, g1, g2, g3, g4⟩ := own_rd hown2.out
      have HBR := Lib.hid hb2
      have HE : Hid (Es wr re A (k + 1 + j) cp) := by
       refine ⟨?_, g1, g2, ?_⟩
       ·rw [HRE.out]; simp [hol]; omega
       ·rw [HRE.out, show 1 - 1 = j from by omega]; exact g3
      clear hb2 g1 g2 g3 g4 hown2
      go_wp2
      go_ret
      exact ⟨A, k + 1 + j, cp, rfl, HE.out, HBR.out⟩
   ·have HRE : Hid (re = os ++ List.replicate (dp - 1) (plN 9)) := by
     show _ = _
     rw [HRE0.out]; unfold madeF; rw [if_neg hd0]
    have hq5 : ((dp : Int) == 0) = false := by rw [beq_eq_false_iff_ne]; omega
    have HOWN := hown
    have HB := Lib.hid hbr
    clear HRE0 HFIN HD hos hown hbr
    go_wp2
    go_loopg [3, 4] (dp - 1) (fun g ov dv wr2 => ∃ j : Nat, j + g = dp - 1 ∧ dv = .int .i64 ((dp - j : Nat) : Int) ∧ Hid (wr2.ownsRow w.heap.size 33 5 ov (k + j) (nds (os ++ List.replicate j (plN 9)))) ∧ Below w.heap.size w wr2)
    case atStart => exact ⟨0, by omega, by first | rfl | (congr 1), by simpa using HOWN, HB.out⟩
    case round =>
     obtain ⟨j, hj, rfl, hown2, hb2⟩ := hrel
     clear HB HOWN
     by_cases hjl : j < dp - 1
     ·have hq3 : (1 : Int) < ((dp - j : Nat) : Int) := by omega
      have HB2 := Lib.hid hb2
      clear hb2
      go_wp2_with (at_builtin; go_must (refine wpList_push wr #[.int .i64 9, .bool false, .string ⟨#[]⟩, .string ⟨#[]⟩, .string ⟨#[]⟩] rfl _ _ 22 rfl w.heap.size 33 _ 5 64 1 Tryz.underlying22 info_node rfl (by decide) u3 (k + j) (nds (os ++ List.replicate j (plN 9))) rfl hown2.out rfl rfl ?_ ?_ ?_ ?_ ?_))
      any_goals first | (unfold maxLen; omega) | omega
      ·first | exact ⟨rfl, rfl, rfl, rfl, rfl⟩ | (simp [Value.oneCell']; done)
      ·exact HB2.out.size
      intro v' w' hown' hb'
      have HOW3 : Hid (w'.ownsRow w.heap.size 33 5 v' (k + (j + 1)) (nds (os ++ List.replicate (j + 1) (plN 9)))) := by
       show World.ownsRow _ _ _ _ _ _ _
       rw [List.replicate_succ', ← List.append_assoc, nds_append]; exact hown'
      have HB3 := Lib.hid (HB2.out.trans hb')
      have hsb : IntKind.i64.wrap (((dp - j : Nat) : Int) - 1) = ((dp - (j + 1) : Nat) : Int) := by rw [IntWalk.i64_in _ (by omega)]; omega
      clear hown' hb'
      go_wp2
      go_roundg (dp - 1 - (j + 1))
      case measure => omega
      case rel => exact ⟨j + 1, by omega, by first | go_num | (congr 1; omega), HOW3, HB3.out⟩
     ·have hq3 : decide ((1 : Int) < ((dp - j : Nat) : Int)) = false := by rw [decide_eq_false_iff_not]; omega
      have hq4 : ¬ (1 : Int) < ((dp - j : Nat) : Int) := by omega
      obtain ⟨A, cp, rfl, g1, g2, g3, g4⟩ := own_rd hown2.out
      have HBR := Lib.hid hb2
      have HE : Hid (Es wr re A (k + j) cp) := by
       refine ⟨?_, g1, g2, ?_⟩
       ·rw [HRE.out]; simp [hol]; omega
       ·rw [HRE.out, show dp - 1 = j from by omega]; exact g3
      clear hb2 g1 g2 g3 g4 hown2
      go_wp2
      go_ret
      exact ⟨A, k + j, cp, rfl, HE.out, HBR.out⟩
end Go.Proofs.YtbicehdehiakgaaGreatDoor
