/- A part of the proof: R11 R12 Q1 Q2 Q3 Q4. -/
import Derived.Deep.LoopGhost
import Derived.Deep.RegionHeld3
import Derived.Test.YtbicehdehiakgaaGreatDoorE09
import Derived.Test.YtbicehdehiakgaaGreatDoorE12
import Derived.Test.YtbicehdehiakgaaGreatDoorE13
set_option linter.unusedVariables false
set_option linter.unusedSimpArgs false
namespace Go.Proofs.YtbicehdehiakgaaGreatDoor
open Go.RowKit
theorem rQuo_any (a b : ByteArray) (w : World) (ha : a.size ≤ 1073741824) (hb : b.size ≤ 1073741824) :
  Calls Tryz.prog 106 #[.string a, .string b] w (RetQuo (vbs a) (vbs b) w) := by
 rcases Nat.eq_zero_or_pos (vbs b) with h0 | h0
 ·exact rQuo_zero a b w hb h0
 ·by_cases hs : vbs a < 256 ^ 7 ∧ vbs b < 256 ^ 7
  ·exact rQuo_small a b w ha hb h0 hs.1 hs.2
  ·exact rQuo_long a b w ha hb h0 hs
theorem rQuo_nb (n m K : Nat) (w : World) (hK : K ≤ 1073741824) (hn : n < 256 ^ K) (hm : m < 256 ^ K) (h0 : 0 < m) :
  Calls Tryz.prog 106 #[.string (nbs n), .string (nbs m)] w fun e w' =>
   e = .returned (.tuple #[.string (nbs (n / m)), .string (nbs (n % m)), .bool true]) ∧ Below w.heap.size w w' := by
 refine (rQuo_any (nbs n) (nbs m) w (Nat.le_trans (nbs_size_le _ _ hn) hK) (Nat.le_trans (nbs_size_le _ _ hm) hK)).mono ?_
 rintro e w' ⟨rfl, hb⟩
 rw [vbs_nbs, vbs_nbs]
 have p0 : ¬ (m = 0) := by omega
 rw [if_neg p0, if_neg p0, show (m != 0) = true from by simp [p0]]
 exact ⟨rfl, hb⟩
theorem nbs_len_pos (n : Nat) : 0 < (nbs n).size ↔ 0 < n := by
 constructor
 ·intro h
  rcases Nat.eq_zero_or_pos n with h0 | h0
  ·subst h0; exact absurd h (by decide)
  ·exact h0
 ·intro h
  have := nb_ne _ (show n ≠ 0 by omega)
  exact List.length_pos_iff.2 this
set_option maxHeartbeats 800000 in
theorem rGcd_any (a b : ByteArray) (w : World) (ha : a.size ≤ 1073741824) (hb : b.size ≤ 1073741824) :
  Calls Tryz.prog 105 #[.string a, .string b] w fun e w' => e = .returned (.string (nbs (Nat.gcd (vbs a) (vbs b)))) ∧ Below w.heap.size w w' := by
 have hK : ∃ K, K ≤ 1073741824 ∧ vbs a < 256 ^ K ∧ vbs b < 256 ^ K := ⟨max a.size b.size, by omega, vbs_le a _ (Nat.le_max_left _ _), vbs_le b _ (Nat.le_max_right _ _)⟩
 obtain ⟨K, hK0, hK1, hK2⟩ := hK
 have HK1 := Lib.hid hK1; have HK2 := Lib.hid hK2
 clear hK1 hK2
 go_enter Tryz.func105, Tryz.ntmps105
 go_wp2_with fail
 refine (rCanon_any a _ (by omega)).mono ?_
 rintro e w' ⟨rfl, rfl⟩
 go_wp2_with fail
 refine (rCanon_any b _ (by omega)).mono ?_
 rintro e w' ⟨rfl, rfl⟩
 go_wp2_with fail
 go_loopg [0, 1] (vbs b) (fun g xv yv wr => ∃ n : Nat, xv = .string (nbs n) ∧ yv = .string (nbs g) ∧ Hid (Nat.gcd n g = Nat.gcd (vbs a) (vbs b)) ∧ Hid (n < 256 ^ K) ∧ Hid (g < 256 ^ K) ∧ Below w.heap.size w wr)
 case atStart => exact ⟨vbs a, rfl, rfl, rfl, HK1, HK2, Below.refl _ _⟩
 case round =>
  obtain ⟨n, rfl, rfl, hg, hn, hm, hbw⟩ := hrel
  have hz := nbs_len_pos gk
  by_cases h0 : 0 < gk
  ·have hp := hz.2 h0
   clear hz
   go_wp2_with fail
   refine (rQuo_nb n gk K _ hK0 hn.out hm.out h0).mono ?_
   rintro e w3 ⟨rfl, hb3⟩
   go_wp2_with fail
   go_roundg (n % gk)
   case measure => exact Nat.mod_lt _ h0
   case rel =>
    refine ⟨gk, rfl, rfl, ?_, hm, Nat.lt_of_lt_of_le (Nat.mod_lt _ h0) (Nat.le_of_lt hm.out), bstep hbw hb3⟩
    show _ = _
    rw [← hg.out, Nat.gcd_comm n gk, Nat.gcd_rec gk n, Nat.gcd_comm]
  ·obtain rfl : gk = 0 := by omega
   have hp : ¬ 0 < (nbs 0).size := by decide
   clear hz
   go_wp2
   go_ret
   have := hg.out
   rw [Nat.gcd_zero_right] at this
   exact ⟨by rw [this]; rfl, hbw⟩
def decD (n : Nat) : List UInt8 := if n = 0 then [] else Lib.decDigits n
theorem decD_step (n : Nat) (h : 0 < n) : decD n = decD (n / 10) ++ [UInt8.ofNat (48 + n % 10)] := by
 unfold decD
 rw [if_neg (by omega)]
 by_cases h1 : n < 10
 ·rw [if_pos (by omega), dec_small n h1, show n % 10 = n from by omega]; rfl
 ·rw [if_neg (by omega), dec_big n h1]
theorem dec_len_le (n K : Nat) (hK : 0 < K) (h : n < 256 ^ K) : (Lib.decDigits n).length ≤ 3 * K := by
 refine dec_len (3 * K) n (by omega) (Nat.lt_of_lt_of_le h ?_)
 rw [Nat.pow_mul]
 exact Nat.pow_le_pow_left (by omega) K
set_option maxRecDepth 100000 in
set_option maxHeartbeats 1600000 in
theorem rText_any (a : ByteArray) (w : World) (ha : a.size ≤ 1048576) :
  Calls Tryz.prog 82 #[.string a] w fun e w' => e = .returned (.string (decS (vbs a))) ∧ Below w.heap.size w w' := by
 have hlt := vbs_lt a
 have HC := Lib.hid (rCanon_any a w (by omega))
 rcases Nat.eq_zero_or_pos (vbs a) with h0 | h0
 ·have hs0 : (nbs 0).size = 0 := rfl
  rw [h0] at HC ⊢
  clear hlt
  go_enter Tryz.func82, Tryz.ntmps82
  go_wp2_with fail
  refine HC.out.mono ?_
  rintro e w' ⟨rfl, rfl⟩
  go_wp2
  go_ret
  exact ⟨by unfold decS; rw [dec_small 0 (by omega)]; rfl, Below.refl _ _⟩
 ·have hp := (nbs_len_pos _).2 h0
  have hsz : 0 < a.size := by
   have := nbs_size_le _ _ hlt
   omega
  have HL := Lib.hid (dec_len_le _ _ hsz hlt)
  have HK := Lib.hid hlt
  obtain ⟨K, hKe⟩ : ∃ K, a.size = K := ⟨_, rfl⟩
  rw [hKe] at HK HL
  have hK0 : K ≤ 1048576 := by omega
  clear hlt
  generalize vbs a = n at *
  go_enter Tryz.func82, Tryz.ntmps82
  go_wp2_with fail
  refine HC.out.mono ?_
  rintro e w' ⟨rfl, rfl⟩
  go_wp2_with fail
  have hT : (((nbs n).size : Int) == 0) = false := by simpa using (show ¬ ((nbs n).size : Int) = 0 by omega)
  simp only [hT]
  go_loopg [0, 3] n (fun g xv ov wr => ∃ o : ByteArray, xv = .string (nbs g) ∧ ov = .string o ∧ Hid (decD g ++ o.data.toList = Lib.decDigits n) ∧ Hid (g < 256 ^ K) ∧ Below w.heap.size w wr)
  case atStart => exact ⟨⟨#[]⟩, rfl, rfl, by show _ = _; unfold decD; rw [if_neg (by omega)]; simp, HK, Below.refl _ _⟩
  case round =>
   obtain ⟨o, rfl, rfl, ho, hg, hbw⟩ := hrel
   by_cases hg0 : 0 < gk
   ·have hp' := (nbs_len_pos _).2 hg0
    have hos : o.size ≤ 3145728 := by
     have h1 := congrArg List.length ho.out
     rw [List.length_append] at h1
     have h2 := HL.out
     have : o.data.toList.length = o.size := rfl
     omega
    have hst := decD_step gk hg0
    have HST := Lib.hid hst
    clear hst
    have hten : (10 : Nat) < 256 ^ (K + 1) := by
     have := Nat.pow_le_pow_right (show 0 < 256 by omega) (show 1 ≤ K + 1 by omega)
     omega
    have HTEN := Lib.hid hten
    clear hten
    go_wp2_with fail
    refine (rOf_any 10 _ (by omega) (by omega)).mono ?_
    rintro e w1 ⟨rfl, hb1⟩
    rw [show ((10 : Int).toNat) = 10 from rfl]
    go_wp2_with fail
    refine (rQuo_nb gk 10 (K + 1) _ (by omega) (Nat.lt_of_lt_of_le hg.out (Nat.pow_le_pow_right (by omega) (by omega))) HTEN.out (by omega)).mono ?_
    rintro e w2 ⟨rfl, hb2⟩
    go_wp2_with fail
    refine (rInt_any _ _ (Nat.le_trans (nbs_size_le (gk % 10) 1 (by omega)) (by omega))).mono ?_
    rintro e w3 ⟨rfl, rfl⟩
    rw [vbs_nbs, show decide (gk % 10 < 9223372036854775808) = true from decide_eq_true (by omega)]
    have hb12 := bstep hbw (bstep hb1 hb2)
    obtain ⟨q, hq⟩ : ∃ q, Hid (gk / 10 = q) := ⟨_, rfl⟩
    obtain ⟨d, hd⟩ : ∃ d, Hid (gk % 10 = d) := ⟨_, rfl⟩
    have hd10 : d < 10 := by rw [← hd.out]; omega
    rw [hq.out, hd.out] at HST ⊢
    have hqlt : q < gk := by rw [← hq.out]; omega
    rw [if_pos rfl]
    clear hb1 hb2 hbw
    have hown := World.ownsRow_lit (base := w2.heap.size) (e := 5) (size := 1) w2 #[.int .u8 (48 + (d : Int))] 1 (Nat.le_refl _) (by unfold maxLen; omega) rfl
    have hu8 : (#[Value.int .u8 (48 + (d : Int))] : Array Value).toList = U8 [UInt8.ofNat (48 + d)] := by
     show [Value.int .u8 (48 + (d : Int))] = [Value.int .u8 ((UInt8.ofNat (48 + d)).toNat : Int)]
     rw [UInt8.toNat_ofNat', Nat.mod_eq_of_lt (by omega)]; simp
    rw [hu8] at hown
    obtain ⟨A, cap, hA, hconv⟩ := conv_own 89 9 Tryz.underlying89 Tryz.underlying9 hown
    rw [← hA] at hconv
    have hba : Below w2.heap.size w2 (w2.alloc (.cells #[.int .u8 (48 + (d : Int))] 5)) := (Below.refl _ _).alloc (Nat.le_refl _) _
    have hb13 := bstep hb12 hba
    clear hown hu8 hA hba hb12
    go_wp2
    go_roundg q
    case measure => exact hqlt
    case rel =>
     refine ⟨_, rfl, rfl, ?_, ?_, hb13⟩
     ·show _ = _
      rw [← ho.out, HST.out]
      simp
     ·exact Nat.lt_trans hqlt hg.out
   ·obtain rfl : gk = 0 := by omega
    have hp' : ¬ 0 < (nbs 0).size := by decide
    go_wp2
    go_ret
    have h1 := ho.out
    refine ⟨?_, hbw⟩
    unfold decS
    rw [← h1]; rfl
end Go.Proofs.YtbicehdehiakgaaGreatDoor
namespace Go.Proofs.YtbicehdehiakgaaGreatDoor
open Go.RowKit
theorem rMul_nb (n m : Nat) (w : World) (hn : (nbs n).size ≤ 1073741824) (hm : (nbs m).size ≤ 1073741824) :
  Calls Tryz.prog 66 #[.string (nbs n), .string (nbs m)] w fun e w' => e = .returned (.string (nbs (n * m))) ∧ Below w.heap.size w w' := by
 have := rMul_any (nbs n) (nbs m) w hn hm
 rwa [vbs_nbs, vbs_nbs] at this
end Go.Proofs.YtbicehdehiakgaaGreatDoor
namespace Go.Proofs.YtbicehdehiakgaaGreatDoor
open Go.RowKit
structure Ra where
 neg : Bool
 num : ByteArray
 den : ByteArray
deriving DecidableEq
def Ra.v (a : Ra) : Value := .agg #[.bool a.neg, .string a.num, .string a.den]
def low (neg : Bool) (n d : Nat) : Ra := ⟨neg && decide (n ≠ 0), nbs (n / Nat.gcd n d), nbs (d / Nat.gcd n d)⟩
theorem nbs_inj {n m : Nat} (h : nbs n = nbs m) : n = m := by
 have := congrArg vbs h
 rwa [vbs_nbs, vbs_nbs] at this
theorem nbs_isEmpty (n : Nat) : (nbs n).toList.isEmpty = decide (n = 0) := by
 rw [toList_nbs, Bool.eq_iff_iff, List.isEmpty_iff, decide_eq_true_iff]
 constructor
 ·intro h
  rcases Nat.eq_zero_or_pos n with h0 | h0
  ·exact h0
  ·exact absurd h (nb_ne n (by omega))
 ·intro h; subst h; rfl
theorem natQuo_nb (n m K : Nat) (w : World) (hK : K ≤ 536870912) (hn : n < 256 ^ K) (hm : m < 256 ^ K) (h0 : 0 < m) :
  Calls Tryz.prog 172 #[.string (nbs n), .string (nbs m)] w fun e w' =>
   e = .returned (.tuple #[.string (nbs (n / m)), .string (nbs (n % m)), .bool true]) ∧ Below w.heap.size w w' := by
 refine (natQuo_any (nbs n) (nbs m) w (Nat.le_trans (nbs_size_le _ _ hn) hK) (Nat.le_trans (nbs_size_le _ _ hm) hK)).mono ?_
 rintro e w' ⟨rfl, hb⟩
 rw [vbs_nbs, vbs_nbs]
 have p0 : ¬ (m = 0) := by omega
 rw [if_neg p0, if_neg p0, show (m != 0) = true from by simp [p0]]
 exact ⟨rfl, hb⟩
theorem natGcd_nb (n m K : Nat) (w : World) (hK : K ≤ 536870912) (hn : n < 256 ^ K) (hm : m < 256 ^ K) :
  Calls Tryz.prog 171 #[.string (nbs n), .string (nbs m)] w fun e w' => e = .returned (.string (nbs (Nat.gcd n m))) ∧ Below w.heap.size w w' := by
 have := natGcd_any (nbs n) (nbs m) w (Nat.le_trans (nbs_size_le _ _ hn) hK) (Nat.le_trans (nbs_size_le _ _ hm) hK)
 rwa [vbs_nbs, vbs_nbs] at this
set_option maxHeartbeats 800000 in
theorem qlowest_any (neg : Bool) (n d K : Nat) (w : World) (hK : K ≤ 536870912) (hn : n < 256 ^ K) (hd : d < 256 ^ K) (h0 : 0 < d) :
  Calls Tryz.prog 147 #[.bool neg, .string (nbs n), .string (nbs d)] w fun e w' => e = .returned (low neg n d).v ∧ Below w.heap.size w w' := by
 have hg : 0 < Nat.gcd n d := Nat.gcd_pos_of_pos_right _ h0
 have hgd : Nat.gcd n d ≤ d := Nat.gcd_le_right _ h0
 have HG := Lib.hid (natGcd_nb n d K)
 have HQ1 := Lib.hid (fun w => natQuo_nb n (Nat.gcd n d) K w hK hn (by omega) hg)
 have HQ2 := Lib.hid (fun w => natQuo_nb d (Nat.gcd n d) K w hK hd (by omega) hg)
 have HN := Lib.hid hn; have HD := Lib.hid hd
 have hdz : (n / Nat.gcd n d = 0) ↔ n = 0 := by
  constructor
  ·intro h
   rcases Nat.eq_zero_or_pos n with h1 | h1
   ·exact h1
   ·have h2 := Nat.gcd_le_left d h1
    have := Nat.div_pos h2 hg
    omega
  ·intro h; rw [h]; exact Nat.zero_div _
 have hb : (!(nbs (n / Nat.gcd n d)).toList.isEmpty) = decide (n ≠ 0) := by
  rw [nbs_isEmpty, decide_not, Bool.not_eq_eq_eq_not, Bool.not_not, decide_eq_decide, hdz]
 have HBB := Lib.hid hb
 have HLOW : Hid (low neg n d = ⟨neg && decide (n ≠ 0), nbs (n / Nat.gcd n d), nbs (d / Nat.gcd n d)⟩) := rfl
 generalize low neg n d = r at *
 generalize Nat.gcd n d = g at *
 clear hb hdz hgd hn hd
 obtain ⟨W, hW⟩ : ∃ W, W = w.alloc (.cells #[.bool false, .string ⟨#[]⟩, .string ⟨#[]⟩] 31) := ⟨_, rfl⟩
 have hba : Below w.heap.size w W := by rw [hW]; exact (Below.refl _ _).alloc (Nat.le_refl _) _
 have hblk : Blk W w.heap.size 31 [.bool false, .string ⟨#[]⟩, .string ⟨#[]⟩] := by rw [hW]; exact Blk.new w _ _
 cases neg
 all_goals
  go_enter Tryz.func147, Tryz.ntmps147
  go_wp2_with fail
  simp only [← hW]
  refine (HG.out _ hK HN.out HD.out).mono ?_
  rintro e w1 ⟨rfl, hb1⟩
  go_wp2_with fail
  refine (HQ1.out _).mono ?_
  rintro e w2 ⟨rfl, hb2⟩
  go_wp2_with fail
  refine (HQ2.out _).mono ?_
  rintro e w3 ⟨rfl, hb3⟩
  have hb13 := bstep (bstep hb1 hb2) hb3
  have hk3 := hblk.below hb13 hblk.lt
  have hc0 := hk3.cell (i := 0) (by decide)
  have hc1 := hk3.cell (i := 1) (by decide)
  have hc2 := hk3.cell (i := 2) (by decide)
  have hf0 := hk3.frozen 0
  have hf1 := hk3.frozen 1
  have hf2 := hk3.frozen 2
  simp only [List.getElem_cons_zero, List.getElem_cons_succ] at hc0 hc1 hc2
  have hbw := bstep hba hb13
  clear hb1 hb2 hb3 hb13 hW
  go_wp2
 ·refine bodyPost_ret (v := .agg #[.bool false, .string (nbs (n / g)), .string (nbs (d / g))]) (by simp [results, Tryz.results147, go_sem, hc0, hc1, hc2]) rfl ⟨?_, ((hbw.setCell (Nat.le_refl _) _).setCell (Nat.le_refl _) _).setCell (Nat.le_refl _) _⟩
  rw [HLOW.out]; rfl
 ·refine bodyPost_ret (v := .agg #[.bool (!(nbs (n / g)).toList.isEmpty), .string (nbs (n / g)), .string (nbs (d / g))]) (by simp [results, Tryz.results147, go_sem, hc0, hc1, hc2]) rfl ⟨?_, ((hbw.setCell (Nat.le_refl _) _).setCell (Nat.le_refl _) _).setCell (Nat.le_refl _) _⟩
  rw [HLOW.out, HBB.out]; rfl
end Go.Proofs.YtbicehdehiakgaaGreatDoor
namespace Go.Proofs.YtbicehdehiakgaaGreatDoor
open Go.RowKit
theorem rightS_iff (s : ByteArray) : rightS s = true ↔ s = nbs (vbs s) := by
 obtain ⟨⟨l⟩⟩ := s
 constructor
 ·intro h
  have h1 : l = nb (vb l) := by
   rw [← canonB_eq]
   cases l with
   | nil => rfl
   | cons c l =>
    have hc : c ≠ 0 := by simpa [rightS] using h
    simp [canonB, hc]
  show _ = (⟨(nb (vb l)).toArray⟩ : ByteArray)
  rw [← h1]
 ·intro h
  have hr := right_nb (vb l)
  have h1 : l = nb (vb l) := by
   have := congrArg (fun s : ByteArray => s.data.toList) h
   exact this
  rw [← h1] at hr
  cases l with
  | nil => rfl
  | cons c l => have := hr (by simp); simpa [rightS] using this
def okR (a : Ra) : Bool := rightS a.den && decide (0 < vbs a.den) && rightS a.num && decide (low a.neg (vbs a.num) (vbs a.den) = a)
set_option maxHeartbeats 800000 in
theorem qpos_any (n : ByteArray) (w : World) (hn : n.size ≤ 1073741824) :
  Calls Tryz.prog 145 #[.agg #[.string ⟨#[]⟩], .string n] w fun e w' => e = .returned (.bool (rightS n && decide (0 < vbs n))) ∧ Below w.heap.size w w' := by
 obtain ⟨W, hW⟩ : ∃ W, W = w.alloc (.cells #[.string ⟨#[]⟩] 169) := ⟨_, rfl⟩
 have hba : Below w.heap.size w W := by rw [hW]; exact (Below.refl _ _).alloc (Nat.le_refl _) _
 have hblk : Blk W w.heap.size 169 [.string ⟨#[]⟩] := by rw [hW]; exact Blk.new w _ _
 have hc0 := hblk.cell (i := 0) (by decide)
 simp only [List.getElem_cons_zero] at hc0
 have HR := Lib.hid (natRight_any n W)
 have HC := Lib.hid (natCmp_any n ⟨#[]⟩ W hn (by show 0 ≤ _; omega))
 have hcmp : decide (0 < cmpI (vbs n) (vbs ⟨#[]⟩)) = decide (0 < vbs n) := by
  rw [decide_eq_decide, show vbs ⟨#[]⟩ = 0 from rfl]
  unfold cmpI
  split
  ·omega
  ·split <;> omega
 generalize cmpI (vbs n) (vbs ⟨#[]⟩) = z at *
 cases hr : rightS n
 ·rw [hr] at HR
  go_enter Tryz.func145, Tryz.ntmps145
  go_wp2_with fail
  simp only [← hW]
  clear hW
  refine HR.out.mono ?_
  rintro e w' ⟨rfl, rfl⟩
  go_wp2
  go_ret
  exact ⟨rfl, hba⟩
 ·rw [hr] at HR
  go_enter Tryz.func145, Tryz.ntmps145
  go_wp2_with fail
  simp only [← hW]
  clear hW
  refine HR.out.mono ?_
  rintro e w' ⟨rfl, rfl⟩
  go_wp2_with fail
  refine HC.out.mono ?_
  rintro e w2 ⟨rfl, hb2⟩
  go_wp2
  go_ret
  refine ⟨?_, bstep hba hb2⟩
  rw [← hcmp]; rfl
theorem toList_inj {a b : ByteArray} (h : a.toList = b.toList) : a = b := by
 rw [ByteArray.toList_eq, ByteArray.toList_eq] at h
 obtain ⟨⟨a⟩⟩ := a
 obtain ⟨⟨b⟩⟩ := b
 simp at h
 rw [h]
theorem eqRa_if {α : Type} (f : Bool → α) (a b : Ra) :
  (if a.neg = b.neg then if a.num.toList = b.num.toList then if a.den.toList = b.den.toList then f true else f false else f false else f false) = f (decide (a = b)) := by
 by_cases h : a = b
 ·subst h; simp
 ·rw [decide_eq_false h]
  split
  ·split
   ·split
    ·next h1 h2 h3 =>
     exfalso; apply h
     obtain ⟨x, y, z⟩ := a
     obtain ⟨x', y', z'⟩ := b
     simp only at h1 h2 h3
     rw [h1, toList_inj h2, toList_inj h3]
    ·rfl
   ·rfl
  ·rfl
def RaAt (w : World) (b : Nat) (a : Ra) : Prop :=
 w.cell? ⟨b, 0, none⟩ = some (.bool a.neg) ∧ w.cell? ⟨b, 1, none⟩ = some (.string a.num) ∧ w.cell? ⟨b, 2, none⟩ = some (.string a.den)
theorem RaAt.of_blk {w : World} {b : Nat} {a : Ra} {t : TypeId} (h : Blk w b t [.bool a.neg, .string a.num, .string a.den]) : RaAt w b a := by
 have hc0 := h.cell (i := 0) (by simp)
 have hc1 := h.cell (i := 1) (by simp)
 have hc2 := h.cell (i := 2) (by simp)
 exact ⟨hc0, hc1, hc2⟩
set_option maxRecDepth 100000 in
set_option maxHeartbeats 1600000 in
theorem qRight_any (a : Ra) (w : World) (hn : a.num.size ≤ 536870912) (hd : a.den.size ≤ 536870912) :
  Calls Tryz.prog 112 #[a.v] w fun e w' => e = .returned (.bool (okR a)) ∧ Below w.heap.size w w' := by
 obtain ⟨neg, num, den⟩ := a
 obtain ⟨W, hW⟩ : ∃ W, W = w.alloc (.cells #[.bool neg, .string num, .string den] 31) := ⟨_, rfl⟩
 have hba : Below w.heap.size w W := by rw [hW]; exact (Below.refl _ _).alloc (Nat.le_refl _) _
 have hblk : Blk W w.heap.size 31 [.bool neg, .string num, .string den] := by rw [hW]; exact Blk.new w _ _
 obtain ⟨B, hB⟩ : ∃ B, B = w.heap.size := ⟨_, rfl⟩
 rw [← hB] at hblk
 have hbs : B < W.heap.size := hblk.lt
 have hc := RaAt.of_blk (a := ⟨neg, num, den⟩) hblk
 obtain ⟨hc0, hc1, hc2⟩ := hc
 have HK : Hid (∀ w' w1 : World, (w'.cell? ⟨B, 0, none⟩ = some (.bool neg) ∧ w'.cell? ⟨B, 1, none⟩ = some (.string num) ∧ w'.cell? ⟨B, 2, none⟩ = some (.string den) ∧ Below W.heap.size W w') → Below w'.heap.size w' w1 →
   (w1.cell? ⟨B, 0, none⟩ = some (.bool neg) ∧ w1.cell? ⟨B, 1, none⟩ = some (.string num) ∧ w1.cell? ⟨B, 2, none⟩ = some (.string den) ∧ Below W.heap.size W w1)) := by
  rintro w' w1 ⟨h0, h1, h2, hb⟩ hb1
  have hlt : B < w'.heap.size := Nat.lt_of_lt_of_le hbs hb.size
  exact ⟨(hb1.cell hlt).trans h0, (hb1.cell hlt).trans h1, (hb1.cell hlt).trans h2, bstep hb hb1⟩
 have HS : Hid (W.drew.cell? ⟨B, 0, none⟩ = some (.bool neg) ∧ W.drew.cell? ⟨B, 1, none⟩ = some (.string num) ∧ W.drew.cell? ⟨B, 2, none⟩ = some (.string den) ∧ Below W.heap.size W W.drew) :=
  ⟨hc0, hc1, hc2, below_drewN (Below.refl _ _) 1⟩
 have HP := Lib.hid (fun w => qpos_any den w (by simp at hd; omega))
 have HR := Lib.hid (fun w => natRight_any num w)
 simp only at hn hd
 have HOK : Hid (okR ⟨neg, num, den⟩ = (rightS den && decide (0 < vbs den) && rightS num && decide (low neg (vbs num) (vbs den) = ⟨neg, num, den⟩))) := rfl
 cases hp : (rightS den && decide (0 < vbs den))
 ·rw [hp] at HP HOK
  clear hp hblk hc0 hc1 hc2
  unfold Ra.v
  go_enter Tryz.func112, Tryz.ntmps112
  go_wp2_with fail
  simp only [← hW, ← hB]
  clear hW hB
  refine wp_region_noPanic ?_
  refine wp_region_held_drew (S := fun w' => w'.cell? ⟨B, 0, none⟩ = some (.bool neg) ∧ w'.cell? ⟨B, 1, none⟩ = some (.string num) ∧ w'.cell? ⟨B, 2, none⟩ = some (.string den) ∧ Below W.heap.size W w') (by kernel_rfl) HS.out (fun hHeld => ?_)
  refine wpAnyH_take (i := 0) (v := ?_) rfl (by kernel_rfl) (by kernel_rfl) (by kernel_rfl) (fun _ _ _ h => h) (Or.inl ⟨by kernel_rfl, ?_⟩) (by assumption) ?_
  rotate_left
  ·intro w hSw; (try dsimp only at hSw); go_simp
   all_goals with_reducible rfl
  try simp only [Act.put, List.setIfInBounds_toArray, List.set_cons_zero, List.set_cons_succ, List.getElem_toArray, List.getElem_cons_succ, List.getElem_cons_zero]
  refine wpAnyH_take (i := 1) (v := ?_) rfl (by kernel_rfl) (by kernel_rfl) (by kernel_rfl) (fun _ _ _ h => h) (Or.inl ⟨by kernel_rfl, ?_⟩) (by assumption) ?_
  rotate_left
  ·intro w hSw; (try dsimp only at hSw); go_simp
   all_goals with_reducible rfl
  try simp only [Act.put, List.setIfInBounds_toArray, List.set_cons_zero, List.set_cons_succ, List.getElem_toArray, List.getElem_cons_succ, List.getElem_cons_zero]
  refine wpAnyH_take (i := 2) (v := ?_) rfl (by kernel_rfl) (by kernel_rfl) (by kernel_rfl) (fun _ _ _ h => h) (Or.inl ⟨by kernel_rfl, ?_⟩) (by assumption) ?_
  rotate_left
  ·intro w hSw; (try dsimp only at hSw); go_simp
   all_goals with_reducible rfl
  try simp only [Act.put, List.setIfInBounds_toArray, List.set_cons_zero, List.set_cons_succ, List.getElem_toArray, List.getElem_cons_succ, List.getElem_cons_zero]
  refine wpAnyH_ready (rs := [3]) (by kernel_rfl) (by simp) ?_
  refine AllReadyH.cons rfl (fun K hK => ?_) AllReadyH.nil
  go_simp
  refine (HP.out _).mono ?_
  rintro e w1 ⟨rfl, hb1⟩
  go_wp2_with fail
  refine hK.out _ _ ?_ (fun hHeld => ?_)
  ·exact HK.out _ _ (by assumption) hb1
  clear hK K
  try simp only [Act.put, List.setIfInBounds_toArray, List.set_cons_zero, List.set_cons_succ, List.getElem_toArray, List.getElem_cons_succ, List.getElem_cons_zero]
  refine wpAnyH_take (i := 4) (v := ?_) rfl (by kernel_rfl) (by kernel_rfl) (by kernel_rfl) (fun _ _ _ h => h) (Or.inl ⟨by kernel_rfl, ?_⟩) (by assumption) ?_
  rotate_left
  ·intro w hSw; (try dsimp only at hSw); go_simp
   all_goals with_reducible rfl
  try simp only [Act.put, List.setIfInBounds_toArray, List.set_cons_zero, List.set_cons_succ, List.getElem_toArray, List.getElem_cons_succ, List.getElem_cons_zero]
  refine wpAnyH_take (i := 5) (v := undef) rfl (by kernel_rfl) (by kernel_rfl) (by kernel_rfl) (fun _ _ _ h => h) (Or.inr ⟨by kernel_rfl, rfl⟩) (by assumption) ?_
  try simp only [Act.put, List.setIfInBounds_toArray, List.set_cons_zero, List.set_cons_succ, List.getElem_toArray, List.getElem_cons_succ, List.getElem_cons_zero]
  refine wpAnyH_take (i := 6) (v := undef) rfl (by kernel_rfl) (by kernel_rfl) (by kernel_rfl) (fun _ _ _ h => h) (Or.inr ⟨by kernel_rfl, rfl⟩) (by assumption) ?_
  try simp only [Act.put, List.setIfInBounds_toArray, List.set_cons_zero, List.set_cons_succ, List.getElem_toArray, List.getElem_cons_succ, List.getElem_cons_zero]
  refine wpAnyH_take (i := 7) (v := undef) rfl (by kernel_rfl) (by kernel_rfl) (by kernel_rfl) (fun _ _ _ h => h) (Or.inr ⟨by kernel_rfl, rfl⟩) (by assumption) ?_
  try simp only [Act.put, List.setIfInBounds_toArray, List.set_cons_zero, List.set_cons_succ, List.getElem_toArray, List.getElem_cons_succ, List.getElem_cons_zero]
  refine wpAnyH_take (i := 8) (v := ?_) rfl (by kernel_rfl) (by kernel_rfl) (by kernel_rfl) (fun _ _ _ h => h) (Or.inl ⟨by kernel_rfl, ?_⟩) (by assumption) ?_
  rotate_left
  ·intro w hSw; (try dsimp only at hSw); go_simp
   all_goals with_reducible rfl
  try simp only [Act.put, List.setIfInBounds_toArray, List.set_cons_zero, List.set_cons_succ, List.getElem_toArray, List.getElem_cons_succ, List.getElem_cons_zero]
  refine wpAnyH_take (i := 9) (v := ?_) rfl (by kernel_rfl) (by kernel_rfl) (by kernel_rfl) (fun _ _ _ h => h) (Or.inl ⟨by kernel_rfl, ?_⟩) (by assumption) ?_
  rotate_left
  ·intro w hSw; (try dsimp only at hSw); go_simp
   all_goals with_reducible rfl
  try simp only [Act.put, List.setIfInBounds_toArray, List.set_cons_zero, List.set_cons_succ, List.getElem_toArray, List.getElem_cons_succ, List.getElem_cons_zero]
  refine wpAnyH_take (i := 10) (v := undef) rfl (by kernel_rfl) (by kernel_rfl) (by kernel_rfl) (fun _ _ _ h => h) (Or.inr ⟨by kernel_rfl, rfl⟩) (by assumption) ?_
  try simp only [Act.put, List.setIfInBounds_toArray, List.set_cons_zero, List.set_cons_succ, List.getElem_toArray, List.getElem_cons_succ, List.getElem_cons_zero]
  refine wpAnyH_take (i := 11) (v := undef) rfl (by kernel_rfl) (by kernel_rfl) (by kernel_rfl) (fun _ _ _ h => h) (Or.inr ⟨by kernel_rfl, rfl⟩) (by assumption) ?_
  try simp only [Act.put, List.setIfInBounds_toArray, List.set_cons_zero, List.set_cons_succ, List.getElem_toArray, List.getElem_cons_succ, List.getElem_cons_zero]
  refine wpAnyH_take (i := 12) (v := undef) rfl (by kernel_rfl) (by kernel_rfl) (by kernel_rfl) (fun _ _ _ h => h) (Or.inr ⟨by kernel_rfl, rfl⟩) (by assumption) ?_
  try simp only [Act.put, List.setIfInBounds_toArray, List.set_cons_zero, List.set_cons_succ, List.getElem_toArray, List.getElem_cons_succ, List.getElem_cons_zero]
  refine wpAnyH_take (i := 13) (v := undef) rfl (by kernel_rfl) (by kernel_rfl) (by kernel_rfl) (fun _ _ _ h => h) (Or.inr ⟨by kernel_rfl, rfl⟩) (by assumption) ?_
  try simp only [Act.put, List.setIfInBounds_toArray, List.set_cons_zero, List.set_cons_succ, List.getElem_toArray, List.getElem_cons_succ, List.getElem_cons_zero]
  refine wpAnyH_take (i := 14) (v := undef) rfl (by kernel_rfl) (by kernel_rfl) (by kernel_rfl) (fun _ _ _ h => h) (Or.inr ⟨by kernel_rfl, rfl⟩) (by assumption) ?_
  try simp only [Act.put, List.setIfInBounds_toArray, List.set_cons_zero, List.set_cons_succ, List.getElem_toArray, List.getElem_cons_succ, List.getElem_cons_zero]
  refine wpAnyH_take (i := 15) (v := undef) rfl (by kernel_rfl) (by kernel_rfl) (by kernel_rfl) (fun _ _ _ h => h) (Or.inr ⟨by kernel_rfl, rfl⟩) (by assumption) ?_
  try simp only [Act.put, List.setIfInBounds_toArray, List.set_cons_zero, List.set_cons_succ, List.getElem_toArray, List.getElem_cons_succ, List.getElem_cons_zero]
  refine wpAnyH_take (i := 16) (v := undef) rfl (by kernel_rfl) (by kernel_rfl) (by kernel_rfl) (fun _ _ _ h => h) (Or.inr ⟨by kernel_rfl, rfl⟩) (by assumption) ?_
  try simp only [Act.put, List.setIfInBounds_toArray, List.set_cons_zero, List.set_cons_succ, List.getElem_toArray, List.getElem_cons_succ, List.getElem_cons_zero]
  refine wpAnyH_take (i := 17) (v := undef) rfl (by kernel_rfl) (by kernel_rfl) (by kernel_rfl) (fun _ _ _ h => h) (Or.inr ⟨by kernel_rfl, rfl⟩) (by assumption) ?_
  try simp only [Act.put, List.setIfInBounds_toArray, List.set_cons_zero, List.set_cons_succ, List.getElem_toArray, List.getElem_cons_succ, List.getElem_cons_zero]
  refine wpAnyH_take (i := 18) (v := undef) rfl (by kernel_rfl) (by kernel_rfl) (by kernel_rfl) (fun _ _ _ h => h) (Or.inr ⟨by kernel_rfl, rfl⟩) (by assumption) ?_
  try simp only [Act.put, List.setIfInBounds_toArray, List.set_cons_zero, List.set_cons_succ, List.getElem_toArray, List.getElem_cons_succ, List.getElem_cons_zero]
  refine wpAnyH_take (i := 19) (v := ?_) rfl (by kernel_rfl) (by kernel_rfl) (by kernel_rfl) (fun _ _ _ h => h) (Or.inl ⟨by kernel_rfl, ?_⟩) (by assumption) ?_
  rotate_left
  ·intro w hSw; (try dsimp only at hSw); go_simp
   all_goals with_reducible rfl
  try simp only [Act.put, List.setIfInBounds_toArray, List.set_cons_zero, List.set_cons_succ, List.getElem_toArray, List.getElem_cons_succ, List.getElem_cons_zero]
  refine wpAnyH_take (i := 20) (v := ?_) rfl (by kernel_rfl) (by kernel_rfl) (by kernel_rfl) (fun _ _ _ h => h) (Or.inl ⟨by kernel_rfl, ?_⟩) (by assumption) ?_
  rotate_left
  ·intro w hSw; (try dsimp only at hSw); go_simp
   all_goals with_reducible rfl
  try simp only [Act.put, List.setIfInBounds_toArray, List.set_cons_zero, List.set_cons_succ, List.getElem_toArray, List.getElem_cons_succ, List.getElem_cons_zero]
  refine wpAnyH_done (by kernel_rfl) ?_ _
  refine NoPanic.normal ?_
  go_wp2
  go_ret
  exact ⟨by rw [HOK.out]; rfl, bstep hba hHeld.2.2.2⟩
 ·rw [hp] at HP HOK
  cases hr : rightS num
  ·rw [hr] at HR HOK
   clear hr hp hblk hc0 hc1 hc2
   unfold Ra.v
   go_enter Tryz.func112, Tryz.ntmps112
   go_wp2_with fail
   simp only [← hW, ← hB]
   clear hW hB
   refine wp_region_noPanic ?_
   refine wp_region_held_drew (S := fun w' => w'.cell? ⟨B, 0, none⟩ = some (.bool neg) ∧ w'.cell? ⟨B, 1, none⟩ = some (.string num) ∧ w'.cell? ⟨B, 2, none⟩ = some (.string den) ∧ Below W.heap.size W w') (by kernel_rfl) HS.out (fun hHeld => ?_)
   refine wpAnyH_take (i := 0) (v := ?_) rfl (by kernel_rfl) (by kernel_rfl) (by kernel_rfl) (fun _ _ _ h => h) (Or.inl ⟨by kernel_rfl, ?_⟩) (by assumption) ?_
   rotate_left
   ·intro w hSw; (try dsimp only at hSw); go_simp
    all_goals with_reducible rfl
   try simp only [Act.put, List.setIfInBounds_toArray, List.set_cons_zero, List.set_cons_succ, List.getElem_toArray, List.getElem_cons_succ, List.getElem_cons_zero]
   refine wpAnyH_take (i := 1) (v := ?_) rfl (by kernel_rfl) (by kernel_rfl) (by kernel_rfl) (fun _ _ _ h => h) (Or.inl ⟨by kernel_rfl, ?_⟩) (by assumption) ?_
   rotate_left
   ·intro w hSw; (try dsimp only at hSw); go_simp
    all_goals with_reducible rfl
   try simp only [Act.put, List.setIfInBounds_toArray, List.set_cons_zero, List.set_cons_succ, List.getElem_toArray, List.getElem_cons_succ, List.getElem_cons_zero]
   refine wpAnyH_take (i := 2) (v := ?_) rfl (by kernel_rfl) (by kernel_rfl) (by kernel_rfl) (fun _ _ _ h => h) (Or.inl ⟨by kernel_rfl, ?_⟩) (by assumption) ?_
   rotate_left
   ·intro w hSw; (try dsimp only at hSw); go_simp
    all_goals with_reducible rfl
   try simp only [Act.put, List.setIfInBounds_toArray, List.set_cons_zero, List.set_cons_succ, List.getElem_toArray, List.getElem_cons_succ, List.getElem_cons_zero]
   refine wpAnyH_ready (rs := [3]) (by kernel_rfl) (by simp) ?_
   refine AllReadyH.cons rfl (fun K hK => ?_) AllReadyH.nil
   go_simp
   refine (HP.out _).mono ?_
   rintro e w1 ⟨rfl, hb1⟩
   go_wp2_with fail
   refine hK.out _ _ ?_ (fun hHeld => ?_)
   ·exact HK.out _ _ (by assumption) hb1
   clear hK K
   try simp only [Act.put, List.setIfInBounds_toArray, List.set_cons_zero, List.set_cons_succ, List.getElem_toArray, List.getElem_cons_succ, List.getElem_cons_zero]
   refine wpAnyH_take (i := 4) (v := ?_) rfl (by kernel_rfl) (by kernel_rfl) (by kernel_rfl) (fun _ _ _ h => h) (Or.inl ⟨by kernel_rfl, ?_⟩) (by assumption) ?_
   rotate_left
   ·intro w hSw; (try dsimp only at hSw); go_simp
    all_goals with_reducible rfl
   try simp only [Act.put, List.setIfInBounds_toArray, List.set_cons_zero, List.set_cons_succ, List.getElem_toArray, List.getElem_cons_succ, List.getElem_cons_zero]
   refine wpAnyH_take (i := 5) (v := ?_) rfl (by kernel_rfl) (by kernel_rfl) (by kernel_rfl) (fun _ _ _ h => h) (Or.inl ⟨by kernel_rfl, ?_⟩) (by assumption) ?_
   rotate_left
   ·intro w hSw; (try dsimp only at hSw); go_simp
    all_goals with_reducible rfl
   try simp only [Act.put, List.setIfInBounds_toArray, List.set_cons_zero, List.set_cons_succ, List.getElem_toArray, List.getElem_cons_succ, List.getElem_cons_zero]
   refine wpAnyH_take (i := 6) (v := ?_) rfl (by kernel_rfl) (by kernel_rfl) (by kernel_rfl) (fun _ _ _ h => h) (Or.inl ⟨by kernel_rfl, ?_⟩) (by assumption) ?_
   rotate_left
   ·intro w hSw; (try dsimp only at hSw); go_simp
    all_goals with_reducible rfl
   try simp only [Act.put, List.setIfInBounds_toArray, List.set_cons_zero, List.set_cons_succ, List.getElem_toArray, List.getElem_cons_succ, List.getElem_cons_zero]
   refine wpAnyH_ready (rs := [7]) (by kernel_rfl) (by simp) ?_
   refine AllReadyH.cons rfl (fun K hK => ?_) AllReadyH.nil
   go_simp
   refine (HR.out _).mono ?_
   rintro e w1 ⟨rfl, rfl⟩
   go_wp2_with fail
   refine hK.out _ _ ?_ (fun hHeld => ?_)
   ·assumption
   clear hK K
   try simp only [Act.put, List.setIfInBounds_toArray, List.set_cons_zero, List.set_cons_succ, List.getElem_toArray, List.getElem_cons_succ, List.getElem_cons_zero]
   refine wpAnyH_take (i := 8) (v := ?_) rfl (by kernel_rfl) (by kernel_rfl) (by kernel_rfl) (fun _ _ _ h => h) (Or.inl ⟨by kernel_rfl, ?_⟩) (by assumption) ?_
   rotate_left
   ·intro w hSw; (try dsimp only at hSw); go_simp
    all_goals with_reducible rfl
   try simp only [Act.put, List.setIfInBounds_toArray, List.set_cons_zero, List.set_cons_succ, List.getElem_toArray, List.getElem_cons_succ, List.getElem_cons_zero]
   refine wpAnyH_take (i := 9) (v := ?_) rfl (by kernel_rfl) (by kernel_rfl) (by kernel_rfl) (fun _ _ _ h => h) (Or.inl ⟨by kernel_rfl, ?_⟩) (by assumption) ?_
   rotate_left
   ·intro w hSw; (try dsimp only at hSw); go_simp
    all_goals with_reducible rfl
   try simp only [Act.put, List.setIfInBounds_toArray, List.set_cons_zero, List.set_cons_succ, List.getElem_toArray, List.getElem_cons_succ, List.getElem_cons_zero]
   refine wpAnyH_take (i := 10) (v := undef) rfl (by kernel_rfl) (by kernel_rfl) (by kernel_rfl) (fun _ _ _ h => h) (Or.inr ⟨by kernel_rfl, rfl⟩) (by assumption) ?_
   try simp only [Act.put, List.setIfInBounds_toArray, List.set_cons_zero, List.set_cons_succ, List.getElem_toArray, List.getElem_cons_succ, List.getElem_cons_zero]
   refine wpAnyH_take (i := 11) (v := undef) rfl (by kernel_rfl) (by kernel_rfl) (by kernel_rfl) (fun _ _ _ h => h) (Or.inr ⟨by kernel_rfl, rfl⟩) (by assumption) ?_
   try simp only [Act.put, List.setIfInBounds_toArray, List.set_cons_zero, List.set_cons_succ, List.getElem_toArray, List.getElem_cons_succ, List.getElem_cons_zero]
   refine wpAnyH_take (i := 12) (v := undef) rfl (by kernel_rfl) (by kernel_rfl) (by kernel_rfl) (fun _ _ _ h => h) (Or.inr ⟨by kernel_rfl, rfl⟩) (by assumption) ?_
   try simp only [Act.put, List.setIfInBounds_toArray, List.set_cons_zero, List.set_cons_succ, List.getElem_toArray, List.getElem_cons_succ, List.getElem_cons_zero]
   refine wpAnyH_take (i := 13) (v := undef) rfl (by kernel_rfl) (by kernel_rfl) (by kernel_rfl) (fun _ _ _ h => h) (Or.inr ⟨by kernel_rfl, rfl⟩) (by assumption) ?_
   try simp only [Act.put, List.setIfInBounds_toArray, List.set_cons_zero, List.set_cons_succ, List.getElem_toArray, List.getElem_cons_succ, List.getElem_cons_zero]
   refine wpAnyH_take (i := 14) (v := undef) rfl (by kernel_rfl) (by kernel_rfl) (by kernel_rfl) (fun _ _ _ h => h) (Or.inr ⟨by kernel_rfl, rfl⟩) (by assumption) ?_
   try simp only [Act.put, List.setIfInBounds_toArray, List.set_cons_zero, List.set_cons_succ, List.getElem_toArray, List.getElem_cons_succ, List.getElem_cons_zero]
   refine wpAnyH_take (i := 15) (v := undef) rfl (by kernel_rfl) (by kernel_rfl) (by kernel_rfl) (fun _ _ _ h => h) (Or.inr ⟨by kernel_rfl, rfl⟩) (by assumption) ?_
   try simp only [Act.put, List.setIfInBounds_toArray, List.set_cons_zero, List.set_cons_succ, List.getElem_toArray, List.getElem_cons_succ, List.getElem_cons_zero]
   refine wpAnyH_take (i := 16) (v := undef) rfl (by kernel_rfl) (by kernel_rfl) (by kernel_rfl) (fun _ _ _ h => h) (Or.inr ⟨by kernel_rfl, rfl⟩) (by assumption) ?_
   try simp only [Act.put, List.setIfInBounds_toArray, List.set_cons_zero, List.set_cons_succ, List.getElem_toArray, List.getElem_cons_succ, List.getElem_cons_zero]
   refine wpAnyH_take (i := 17) (v := undef) rfl (by kernel_rfl) (by kernel_rfl) (by kernel_rfl) (fun _ _ _ h => h) (Or.inr ⟨by kernel_rfl, rfl⟩) (by assumption) ?_
   try simp only [Act.put, List.setIfInBounds_toArray, List.set_cons_zero, List.set_cons_succ, List.getElem_toArray, List.getElem_cons_succ, List.getElem_cons_zero]
   refine wpAnyH_take (i := 18) (v := undef) rfl (by kernel_rfl) (by kernel_rfl) (by kernel_rfl) (fun _ _ _ h => h) (Or.inr ⟨by kernel_rfl, rfl⟩) (by assumption) ?_
   try simp only [Act.put, List.setIfInBounds_toArray, List.set_cons_zero, List.set_cons_succ, List.getElem_toArray, List.getElem_cons_succ, List.getElem_cons_zero]
   refine wpAnyH_take (i := 19) (v := ?_) rfl (by kernel_rfl) (by kernel_rfl) (by kernel_rfl) (fun _ _ _ h => h) (Or.inl ⟨by kernel_rfl, ?_⟩) (by assumption) ?_
   rotate_left
   ·intro w hSw; (try dsimp only at hSw); go_simp
    all_goals with_reducible rfl
   try simp only [Act.put, List.setIfInBounds_toArray, List.set_cons_zero, List.set_cons_succ, List.getElem_toArray, List.getElem_cons_succ, List.getElem_cons_zero]
   refine wpAnyH_take (i := 20) (v := ?_) rfl (by kernel_rfl) (by kernel_rfl) (by kernel_rfl) (fun _ _ _ h => h) (Or.inl ⟨by kernel_rfl, ?_⟩) (by assumption) ?_
   rotate_left
   ·intro w hSw; (try dsimp only at hSw); go_simp
    all_goals with_reducible rfl
   try simp only [Act.put, List.setIfInBounds_toArray, List.set_cons_zero, List.set_cons_succ, List.getElem_toArray, List.getElem_cons_succ, List.getElem_cons_zero]
   refine wpAnyH_done (by kernel_rfl) ?_ _
   refine NoPanic.normal ?_
   go_wp2
   go_ret
   exact ⟨by rw [HOK.out]; rfl, bstep hba hHeld.2.2.2⟩
  ·rw [hr] at HR HOK
   rw [Bool.and_eq_true, decide_eq_true_eq] at hp
   have en := (rightS_iff num).1 hr
   have ed := (rightS_iff den).1 hp.1
   have hvn := vbs_lt num
   have hvd := vbs_lt den
   obtain ⟨K, hK⟩ : ∃ K, K = 536870912 := ⟨_, rfl⟩
   have HL := Lib.hid (fun w => qlowest_any neg (vbs num) (vbs den) K w (Nat.le_of_eq hK) (vbs_le num K (by rw [hK]; exact hn)) (vbs_le den K (by rw [hK]; exact hd)) hp.2)
   clear hK
   rw [← en, ← ed] at HL
   obtain ⟨lw, hlw⟩ : ∃ lw, low neg (vbs num) (vbs den) = lw := ⟨_, rfl⟩
   rw [hlw] at HL HOK
   obtain ⟨ln, lu, ld⟩ := lw
   obtain ⟨dq, hdq⟩ : ∃ d, decide ((⟨ln, lu, ld⟩ : Ra) = ⟨neg, num, den⟩) = d := ⟨_, rfl⟩
   rw [hdq] at HOK
   have HDQ := Lib.hid hdq
   clear hdq
   clear hr hp hblk hc0 hc1 hc2 en ed hvn hvd hlw
   unfold Ra.v
   go_enter Tryz.func112, Tryz.ntmps112
   go_wp2_with fail
   simp only [← hW, ← hB]
   clear hW hB
   refine wp_region_noPanic ?_
   refine wp_region_held_drew (S := fun w' => w'.cell? ⟨B, 0, none⟩ = some (.bool neg) ∧ w'.cell? ⟨B, 1, none⟩ = some (.string num) ∧ w'.cell? ⟨B, 2, none⟩ = some (.string den) ∧ Below W.heap.size W w') (by kernel_rfl) HS.out (fun hHeld => ?_)
   refine wpAnyH_take (i := 0) (v := ?_) rfl (by kernel_rfl) (by kernel_rfl) (by kernel_rfl) (fun _ _ _ h => h) (Or.inl ⟨by kernel_rfl, ?_⟩) (by assumption) ?_
   rotate_left
   ·intro w hSw; (try dsimp only at hSw); go_simp
    all_goals with_reducible rfl
   try simp only [Act.put, List.setIfInBounds_toArray, List.set_cons_zero, List.set_cons_succ, List.getElem_toArray, List.getElem_cons_succ, List.getElem_cons_zero]
   refine wpAnyH_take (i := 1) (v := ?_) rfl (by kernel_rfl) (by kernel_rfl) (by kernel_rfl) (fun _ _ _ h => h) (Or.inl ⟨by kernel_rfl, ?_⟩) (by assumption) ?_
   rotate_left
   ·intro w hSw; (try dsimp only at hSw); go_simp
    all_goals with_reducible rfl
   try simp only [Act.put, List.setIfInBounds_toArray, List.set_cons_zero, List.set_cons_succ, List.getElem_toArray, List.getElem_cons_succ, List.getElem_cons_zero]
   refine wpAnyH_take (i := 2) (v := ?_) rfl (by kernel_rfl) (by kernel_rfl) (by kernel_rfl) (fun _ _ _ h => h) (Or.inl ⟨by kernel_rfl, ?_⟩) (by assumption) ?_
   rotate_left
   ·intro w hSw; (try dsimp only at hSw); go_simp
    all_goals with_reducible rfl
   try simp only [Act.put, List.setIfInBounds_toArray, List.set_cons_zero, List.set_cons_succ, List.getElem_toArray, List.getElem_cons_succ, List.getElem_cons_zero]
   refine wpAnyH_ready (rs := [3]) (by kernel_rfl) (by simp) ?_
   refine AllReadyH.cons rfl (fun K hK => ?_) AllReadyH.nil
   go_simp
   refine (HP.out _).mono ?_
   rintro e w1 ⟨rfl, hb1⟩
   go_wp2_with fail
   refine hK.out _ _ ?_ (fun hHeld => ?_)
   ·exact HK.out _ _ (by assumption) hb1
   clear hK K
   try simp only [Act.put, List.setIfInBounds_toArray, List.set_cons_zero, List.set_cons_succ, List.getElem_toArray, List.getElem_cons_succ, List.getElem_cons_zero]
   refine wpAnyH_take (i := 4) (v := ?_) rfl (by kernel_rfl) (by kernel_rfl) (by kernel_rfl) (fun _ _ _ h => h) (Or.inl ⟨by kernel_rfl, ?_⟩) (by assumption) ?_
   rotate_left
   ·intro w hSw; (try dsimp only at hSw); go_simp
    all_goals with_reducible rfl
   try simp only [Act.put, List.setIfInBounds_toArray, List.set_cons_zero, List.set_cons_succ, List.getElem_toArray, List.getElem_cons_succ, List.getElem_cons_zero]
   refine wpAnyH_take (i := 5) (v := ?_) rfl (by kernel_rfl) (by kernel_rfl) (by kernel_rfl) (fun _ _ _ h => h) (Or.inl ⟨by kernel_rfl, ?_⟩) (by assumption) ?_
   rotate_left
   ·intro w hSw; (try dsimp only at hSw); go_simp
    all_goals with_reducible rfl
   try simp only [Act.put, List.setIfInBounds_toArray, List.set_cons_zero, List.set_cons_succ, List.getElem_toArray, List.getElem_cons_succ, List.getElem_cons_zero]
   refine wpAnyH_take (i := 6) (v := ?_) rfl (by kernel_rfl) (by kernel_rfl) (by kernel_rfl) (fun _ _ _ h => h) (Or.inl ⟨by kernel_rfl, ?_⟩) (by assumption) ?_
   rotate_left
   ·intro w hSw; (try dsimp only at hSw); go_simp
    all_goals with_reducible rfl
   try simp only [Act.put, List.setIfInBounds_toArray, List.set_cons_zero, List.set_cons_succ, List.getElem_toArray, List.getElem_cons_succ, List.getElem_cons_zero]
   refine wpAnyH_ready (rs := [7]) (by kernel_rfl) (by simp) ?_
   refine AllReadyH.cons rfl (fun K hK => ?_) AllReadyH.nil
   go_simp
   refine (HR.out _).mono ?_
   rintro e w1 ⟨rfl, rfl⟩
   go_wp2_with fail
   refine hK.out _ _ ?_ (fun hHeld => ?_)
   ·assumption
   clear hK K
   try simp only [Act.put, List.setIfInBounds_toArray, List.set_cons_zero, List.set_cons_succ, List.getElem_toArray, List.getElem_cons_succ, List.getElem_cons_zero]
   refine wpAnyH_take (i := 8) (v := ?_) rfl (by kernel_rfl) (by kernel_rfl) (by kernel_rfl) (fun _ _ _ h => h) (Or.inl ⟨by kernel_rfl, ?_⟩) (by assumption) ?_
   rotate_left
   ·intro w hSw; (try dsimp only at hSw); go_simp
    all_goals with_reducible rfl
   try simp only [Act.put, List.setIfInBounds_toArray, List.set_cons_zero, List.set_cons_succ, List.getElem_toArray, List.getElem_cons_succ, List.getElem_cons_zero]
   refine wpAnyH_take (i := 9) (v := ?_) rfl (by kernel_rfl) (by kernel_rfl) (by kernel_rfl) (fun _ _ _ h => h) (Or.inl ⟨by kernel_rfl, ?_⟩) (by assumption) ?_
   rotate_left
   ·intro w hSw; (try dsimp only at hSw); go_simp
    all_goals with_reducible rfl
   try simp only [Act.put, List.setIfInBounds_toArray, List.set_cons_zero, List.set_cons_succ, List.getElem_toArray, List.getElem_cons_succ, List.getElem_cons_zero]
   refine wpAnyH_take (i := 10) (v := ?_) rfl (by kernel_rfl) (by kernel_rfl) (by kernel_rfl) (fun _ _ _ h => h) (Or.inl ⟨by kernel_rfl, ?_⟩) (by assumption) ?_
   rotate_left
   ·intro w hSw; (try dsimp only at hSw); go_simp
    all_goals with_reducible rfl
   try simp only [Act.put, List.setIfInBounds_toArray, List.set_cons_zero, List.set_cons_succ, List.getElem_toArray, List.getElem_cons_succ, List.getElem_cons_zero]
   refine wpAnyH_take (i := 11) (v := ?_) rfl (by kernel_rfl) (by kernel_rfl) (by kernel_rfl) (fun _ _ _ h => h) (Or.inl ⟨by kernel_rfl, ?_⟩) (by assumption) ?_
   rotate_left
   ·intro w hSw; (try dsimp only at hSw); go_simp
    all_goals with_reducible rfl
   try simp only [Act.put, List.setIfInBounds_toArray, List.set_cons_zero, List.set_cons_succ, List.getElem_toArray, List.getElem_cons_succ, List.getElem_cons_zero]
   refine wpAnyH_take (i := 12) (v := ?_) rfl (by kernel_rfl) (by kernel_rfl) (by kernel_rfl) (fun _ _ _ h => h) (Or.inl ⟨by kernel_rfl, ?_⟩) (by assumption) ?_
   rotate_left
   ·intro w hSw; (try dsimp only at hSw); go_simp
    all_goals with_reducible rfl
   try simp only [Act.put, List.setIfInBounds_toArray, List.set_cons_zero, List.set_cons_succ, List.getElem_toArray, List.getElem_cons_succ, List.getElem_cons_zero]
   refine wpAnyH_take (i := 13) (v := ?_) rfl (by kernel_rfl) (by kernel_rfl) (by kernel_rfl) (fun _ _ _ h => h) (Or.inl ⟨by kernel_rfl, ?_⟩) (by assumption) ?_
   rotate_left
   ·intro w hSw; (try dsimp only at hSw); go_simp
    all_goals with_reducible rfl
   try simp only [Act.put, List.setIfInBounds_toArray, List.set_cons_zero, List.set_cons_succ, List.getElem_toArray, List.getElem_cons_succ, List.getElem_cons_zero]
   refine wpAnyH_take (i := 14) (v := ?_) rfl (by kernel_rfl) (by kernel_rfl) (by kernel_rfl) (fun _ _ _ h => h) (Or.inl ⟨by kernel_rfl, ?_⟩) (by assumption) ?_
   rotate_left
   ·intro w hSw; (try dsimp only at hSw); go_simp
    all_goals with_reducible rfl
   try simp only [Act.put, List.setIfInBounds_toArray, List.set_cons_zero, List.set_cons_succ, List.getElem_toArray, List.getElem_cons_succ, List.getElem_cons_zero]
   refine wpAnyH_take (i := 15) (v := ?_) rfl (by kernel_rfl) (by kernel_rfl) (by kernel_rfl) (fun _ _ _ h => h) (Or.inl ⟨by kernel_rfl, ?_⟩) (by assumption) ?_
   rotate_left
   ·intro w hSw; (try dsimp only at hSw); go_simp
    all_goals with_reducible rfl
   try simp only [Act.put, List.setIfInBounds_toArray, List.set_cons_zero, List.set_cons_succ, List.getElem_toArray, List.getElem_cons_succ, List.getElem_cons_zero]
   refine wpAnyH_take (i := 17) (v := ?_) rfl (by kernel_rfl) (by kernel_rfl) (by kernel_rfl) (fun _ _ _ h => h) (Or.inl ⟨by kernel_rfl, ?_⟩) (by assumption) ?_
   rotate_left
   ·intro w hSw; (try dsimp only at hSw); go_simp
    all_goals with_reducible rfl
   try simp only [Act.put, List.setIfInBounds_toArray, List.set_cons_zero, List.set_cons_succ, List.getElem_toArray, List.getElem_cons_succ, List.getElem_cons_zero]
   refine wpAnyH_ready (rs := [16]) (by kernel_rfl) (by simp) ?_
   refine AllReadyH.cons rfl (fun K hK => ?_) AllReadyH.nil
   go_simp
   refine (HL.out _).mono ?_
   rintro e w1 ⟨rfl, hb1⟩
   simp only [Ra.v]
   go_wp2_with fail
   refine hK.out _ _ ?_ (fun hHeld => ?_)
   ·exact HK.out _ _ (by assumption) hb1
   clear hK K
   try simp only [Act.put, List.setIfInBounds_toArray, List.set_cons_zero, List.set_cons_succ, List.getElem_toArray, List.getElem_cons_succ, List.getElem_cons_zero]
   refine wpAnyH_take (i := 18) (v := .bool dq) rfl (by kernel_rfl) (by kernel_rfl) (by kernel_rfl) (fun _ _ _ h => h) (Or.inl ⟨by kernel_rfl, ?_⟩) (by assumption) ?_
   ·intro w hSw; (try dsimp only at hSw); go_simp
    rw [← HDQ.out]; exact eqRa_if (fun t => Result.ok (Next.value (Value.bool t)) w) ⟨ln, lu, ld⟩ ⟨neg, num, den⟩
   try simp only [Act.put, List.setIfInBounds_toArray, List.set_cons_zero, List.set_cons_succ, List.getElem_toArray, List.getElem_cons_succ, List.getElem_cons_zero]
   refine wpAnyH_take (i := 19) (v := ?_) rfl (by kernel_rfl) (by kernel_rfl) (by kernel_rfl) (fun _ _ _ h => h) (Or.inl ⟨by kernel_rfl, ?_⟩) (by assumption) ?_
   rotate_left
   ·intro w hSw; (try dsimp only at hSw); go_simp
    all_goals with_reducible rfl
   try simp only [Act.put, List.setIfInBounds_toArray, List.set_cons_zero, List.set_cons_succ, List.getElem_toArray, List.getElem_cons_succ, List.getElem_cons_zero]
   refine wpAnyH_take (i := 20) (v := ?_) rfl (by kernel_rfl) (by kernel_rfl) (by kernel_rfl) (fun _ _ _ h => h) (Or.inl ⟨by kernel_rfl, ?_⟩) (by assumption) ?_
   rotate_left
   ·intro w hSw; (try dsimp only at hSw); go_simp
    all_goals with_reducible rfl
   try simp only [Act.put, List.setIfInBounds_toArray, List.set_cons_zero, List.set_cons_succ, List.getElem_toArray, List.getElem_cons_succ, List.getElem_cons_zero]
   refine wpAnyH_done (by kernel_rfl) ?_ _
   refine NoPanic.normal ?_
   go_wp2
   go_ret
   exact ⟨by rw [HOK.out]; rfl, bstep hba hHeld.2.2.2⟩
end Go.Proofs.YtbicehdehiakgaaGreatDoor
namespace Go.Proofs.YtbicehdehiakgaaGreatDoor
open Go.RowKit
def ofI (n : Int) : Ra := ⟨decide (n < 0), nbs n.natAbs, nbs 1⟩
theorem natOf_one (w : World) : Calls Tryz.prog 111 #[.int .i64 1] w fun e w' => e = .returned (.string (nbs 1)) ∧ Below w.heap.size w w' := natOf_any 1 w (by omega) (by omega)
set_option maxRecDepth 100000 in
set_option maxHeartbeats 800000 in
theorem qOf_any (n : Int) (w : World) (h0 : -9223372036854775808 ≤ n) (h1 : n ≤ 9223372036854775807) :
  Calls Tryz.prog 78 #[.int .i64 n] w fun e w' => e = .returned (ofI n).v ∧ Below w.heap.size w w' := by
 obtain ⟨W, hW⟩ : ∃ W, W = w.alloc (.cells #[.bool false, .string ⟨#[]⟩, .string ⟨#[]⟩] 31) := ⟨_, rfl⟩
 have hba : Below w.heap.size w W := by rw [hW]; exact (Below.refl _ _).alloc (Nat.le_refl _) _
 have hblk : Blk W w.heap.size 31 [.bool false, .string ⟨#[]⟩, .string ⟨#[]⟩] := by rw [hW]; exact Blk.new w _ _
 by_cases hn : n < 0
 ·have HO : Hid (ofI n = ⟨true, nbs (n + 1).natAbs.succ, nbs 1⟩) := by
   show _ = _
   unfold ofI
   rw [decide_eq_true hn, show n.natAbs = (n + 1).natAbs.succ from by omega]
  have HA := Lib.hid (fun w => natAdd_any (nbs (n + 1).natAbs) (nbs 1) w (Nat.le_trans (nbs_size_le _ 9 (by omega)) (by omega)) (Nat.le_trans (nbs_size_le _ 9 (by omega)) (by omega)))
  rw [vbs_nbs, vbs_nbs] at HA
  have hneg : IntKind.i64.wrap (-(n + 1)) = -(n + 1) := IntWalk.i64_in _ (by omega)
  have hng : (-(n + 1)).toNat = (n + 1).natAbs := by omega
  go_enter Tryz.func78, Tryz.ntmps78
  go_wp2_with fail
  simp only [← hW]
  clear hW
  refine (natOf_any _ _ (by omega) (by omega)).mono ?_
  rintro e w1 ⟨rfl, hb1⟩
  go_wp2_with fail
  refine (natOf_one _).mono ?_
  rintro e w2 ⟨rfl, hb2⟩
  try rw [hng]
  go_wp2_with fail
  refine (HA.out _).mono ?_
  rintro e w3 ⟨rfl, hb3⟩
  go_wp2_with fail
  refine (natOf_one _).mono ?_
  rintro e w4 ⟨rfl, hb4⟩
  have hb14 := bstep (bstep (bstep hb1 hb2) hb3) hb4
  have hk3 := hblk.below hb14 hblk.lt
  have hc0 := hk3.cell (i := 0) (by decide)
  have hc1 := hk3.cell (i := 1) (by decide)
  have hc2 := hk3.cell (i := 2) (by decide)
  have hf0 := hk3.frozen 0
  have hf1 := hk3.frozen 1
  have hf2 := hk3.frozen 2
  simp only [List.getElem_cons_zero, List.getElem_cons_succ] at hc0 hc1 hc2
  have hbw := bstep hba hb14
  clear hb1 hb2 hb3 hb4 hb14
  go_wp2
  refine bodyPost_ret (v := .agg #[.bool true, .string (nbs ((n + 1).natAbs + 1)), .string (nbs 1)]) (by simp [results, Tryz.results78, go_sem, hc0, hc1, hc2]) rfl ⟨?_, ((hbw.setCell (Nat.le_refl _) _).setCell (Nat.le_refl _) _).setCell (Nat.le_refl _) _⟩
  rw [HO.out]; rfl
 ·have HO : Hid (ofI n = ⟨false, nbs n.toNat, nbs 1⟩) := by
   show _ = _
   unfold ofI
   rw [decide_eq_false hn, show n.natAbs = n.toNat from by omega]
  go_enter Tryz.func78, Tryz.ntmps78
  go_wp2_with fail
  simp only [← hW]
  clear hW
  refine (natOf_any _ _ (by omega) (by omega)).mono ?_
  rintro e w1 ⟨rfl, hb1⟩
  go_wp2_with fail
  refine (natOf_one _).mono ?_
  rintro e w2 ⟨rfl, hb2⟩
  have hb14 := bstep hb1 hb2
  have hk3 := hblk.below hb14 hblk.lt
  have hc0 := hk3.cell (i := 0) (by decide)
  have hc1 := hk3.cell (i := 1) (by decide)
  have hc2 := hk3.cell (i := 2) (by decide)
  have hf0 := hk3.frozen 0
  have hf1 := hk3.frozen 1
  have hf2 := hk3.frozen 2
  simp only [List.getElem_cons_zero, List.getElem_cons_succ] at hc0 hc1 hc2
  have hbw := bstep hba hb14
  clear hb1 hb2 hb14
  go_wp2
  refine bodyPost_ret (v := .agg #[.bool false, .string (nbs n.toNat), .string (nbs 1)]) (by simp [results, Tryz.results78, go_sem, hc0, hc1, hc2]) rfl ⟨?_, ((hbw.setCell (Nat.le_refl _) _).setCell (Nat.le_refl _) _).setCell (Nat.le_refl _) _⟩
  rw [HO.out]; rfl
end Go.Proofs.YtbicehdehiakgaaGreatDoor
namespace Go.Proofs.YtbicehdehiakgaaGreatDoor
open Go.RowKit
def valR (a : Ra) : Ra := if okR a then a else ofI 0
structure Two (w : World) (t1 t2 : TypeId) (l1 l2 : List Value) (W : World) : Prop where
 one : Blk W w.heap.size t1 l1
 two : Blk W (w.heap.size + 1) t2 l2
 below : Below w.heap.size w W
 size : W.heap.size = w.heap.size + 2
theorem Two.new (w : World) (t1 t2 : TypeId) (cs1 cs2 : Array Value) : Two w t1 t2 cs1.toList cs2.toList ((w.alloc (.cells cs1 t1)).alloc (.cells cs2 t2)) := by
 have h1 : (w.alloc (.cells cs1 t1)).heap.size = w.heap.size + 1 := by show (w.heap.push _).size = _; rw [Array.size_push]
 have hb1 : Below w.heap.size w (w.alloc (.cells cs1 t1)) := (Below.refl _ _).alloc (Nat.le_refl _) _
 have hb2 : Below (w.alloc (.cells cs1 t1)).heap.size (w.alloc (.cells cs1 t1)) ((w.alloc (.cells cs1 t1)).alloc (.cells cs2 t2)) := (Below.refl _ _).alloc (Nat.le_refl _) _
 have k1 := Blk.new w t1 cs1
 have k2 := Blk.new (w.alloc (.cells cs1 t1)) t2 cs2
 rw [h1] at k2
 exact ⟨k1.below hb2 k1.lt, k2, bstep hb1 hb2, by show ((w.alloc (.cells cs1 t1)).heap.push _).size = _; rw [Array.size_push, h1]⟩
set_option maxRecDepth 100000 in
set_option maxHeartbeats 800000 in
theorem qvalue_any (a : Ra) (w : World) (hn : a.num.size ≤ 536870912) (hd : a.den.size ≤ 536870912) :
  Calls Tryz.prog 122 #[a.v] w fun e w' => e = .returned (valR a).v ∧ Below w.heap.size w w' := by
 have HR := Lib.hid (fun w => qRight_any a w hn hd)
 have HV : Hid (valR a = if okR a then a else ofI 0) := rfl
 obtain ⟨o, ho⟩ : ∃ o, okR a = o := ⟨_, rfl⟩
 rw [ho] at HR HV
 clear ho hn hd
 generalize valR a = va at *
 obtain ⟨neg, num, den⟩ := a
 unfold Ra.v at HR ⊢
 obtain ⟨W, hW⟩ : ∃ W, W = (w.alloc (.cells #[.bool neg, .string num, .string den] 31)).alloc (.cells #[.bool false, .string ⟨#[]⟩, .string ⟨#[]⟩] 31) := ⟨_, rfl⟩
 have htwo := Two.new w 31 31 #[.bool neg, .string num, .string den] #[.bool false, .string ⟨#[]⟩, .string ⟨#[]⟩]
 rw [← hW] at htwo
 obtain ⟨hblk1, hblk, hbw, hsz⟩ := htwo
 have hl1 := hblk1.lt
 have hl2 := hblk.lt
 obtain ⟨hd0, hd1, hd2⟩ := RaAt.of_blk (a := ⟨neg, num, den⟩) hblk1
 simp only at hd0 hd1 hd2
 obtain ⟨B, hB⟩ : ∃ B, B = w.heap.size := ⟨_, rfl⟩
 rw [← hB] at hd0 hd1 hd2 hblk hbw hsz hl1 hl2 hblk1
 have HB := Lib.hid hB
 have hr : ∀ w1, Below W.heap.size W w1 → w1.cell? ⟨B, 0, none⟩ = some (.bool neg) ∧ w1.cell? ⟨B, 1, none⟩ = some (.string num) ∧ w1.cell? ⟨B, 2, none⟩ = some (.string den) := fun w1 hb => by
  obtain ⟨h0, h1, h2⟩ := RaAt.of_blk (a := ⟨neg, num, den⟩) (hblk1.below hb hl1)
  exact ⟨h0, h1, h2⟩
 have HRD := Lib.hid hr
 clear hr
 cases o
 all_goals
  go_enter Tryz.func122, Tryz.ntmps122
  go_wp2_with fail
  simp only [← hW, ← hB]
  clear hW hB
  refine (HR.out _).mono ?_
  rintro e w1 ⟨rfl, hb1⟩
  obtain ⟨hd0, hd1, hd2⟩ := HRD.out w1 hb1
  have hk1 := hblk.below hb1 hl2
 ·go_wp2_with fail
  refine (qOf_any 0 _ (by omega) (by omega)).mono ?_
  rintro e w2 ⟨rfl, hb2⟩
  have hk2 := hk1.below hb2 hk1.lt
  have hc0 := hk2.cell (i := 0) (by decide)
  have hc1 := hk2.cell (i := 1) (by decide)
  have hc2 := hk2.cell (i := 2) (by decide)
  have hf0 := hk2.frozen 0
  have hf1 := hk2.frozen 1
  have hf2 := hk2.frozen 2
  simp only [List.getElem_cons_zero, List.getElem_cons_succ] at hc0 hc1 hc2
  simp only [Ra.v, ofI]
  go_wp2
  refine bodyPost_ret (v := .agg #[.bool false, .string (nbs 0), .string (nbs 1)]) (by simp [results, Tryz.results122, go_sem, hc0, hc1, hc2]) rfl ⟨?_, ?_⟩
  ·rw [HV.out]; rfl
  ·have h1 : Below B w w2 := hbw.trans ((bstep hb1 hb2).mono (by omega))
   rw [← HB.out]
   exact ((h1.setCell (Nat.le_succ _) _).setCell (Nat.le_succ _) _).setCell (Nat.le_succ _) _
 ·have hc0 := hk1.cell (i := 0) (by decide)
  have hc1 := hk1.cell (i := 1) (by decide)
  have hc2 := hk1.cell (i := 2) (by decide)
  have hf0 := hk1.frozen 0
  have hf1 := hk1.frozen 1
  have hf2 := hk1.frozen 2
  simp only [List.getElem_cons_zero, List.getElem_cons_succ] at hc0 hc1 hc2
  go_wp2
  refine bodyPost_ret (v := .agg #[.bool neg, .string num, .string den]) (by simp [results, Tryz.results122, go_sem, hc0, hc1, hc2]) rfl ⟨?_, ?_⟩
  ·rw [HV.out]; rfl
  ·have h1 : Below B w w1 := hbw.trans (hb1.mono (by omega))
   rw [← HB.out]
   exact ((h1.setCell (Nat.le_succ _) _).setCell (Nat.le_succ _) _).setCell (Nat.le_succ _) _
end Go.Proofs.YtbicehdehiakgaaGreatDoor
