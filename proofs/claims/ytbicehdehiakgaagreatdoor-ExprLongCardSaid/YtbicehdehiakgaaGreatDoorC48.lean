/- The proof of the statement, a part of it: Lg. -/
import Derived.Test.YtbicehdehiakgaaGreatDoorC32
import Derived.Test.YtbicehdehiakgaaGreatDoorC47
set_option linter.unusedVariables false
set_option linter.unusedSimpArgs false
namespace Go.Proofs.YtbicehdehiakgaaGreatDoor
open Go.RowKit
theorem chain_c : ∀ k : Nat, k < 40 → checkE (chainL k) = if k ≤ 29 then 0 else 2 := by decide +kernel
theorem chain_f : ∀ k : Nat, k < 40 → ∀ n ∈ chainL k, Fine n := by unfold Fine; decide +kernel
theorem chain_p : parseE ([97, 100, 100, 40] ++ textE (chainL 29) ++ [44, 32, 49, 41]) = ([], 11) := by decide +kernel
theorem chain_l : (textE (chainL 29)).length ≤ 100000 := by decide +kernel
theorem chain_s (k : Nat) (b : List Nd) : (subL (chainL k) ⟨#[97]⟩ b).length = 2 * k + b.length := by
  induction k with
  | zero => show (List.flatMap _ [nmN 6 ⟨#[97]⟩]).length = _; simp [nmN]
  | succ k ih =>
    have h : subL (chainL (k + 1)) ⟨#[97]⟩ b = subL (chainL k) ⟨#[97]⟩ b ++ [nuN 3 (k : Int), plN 9] := by
      show subL (chainL k ++ _) _ _ = _
      unfold subL; rw [List.flatMap_append]; rfl
    rw [h, List.length_append, ih]; show 2 * k + b.length + 2 = _; omega
set_option maxRecDepth 100000 in
set_option maxHeartbeats 6400000 in
theorem exprLong_core (n m : Nat) (w : World) (hL : LaidE w) (hn : n < 256) (hm : m < 256) :
    Calls Tryz.prog 11 #[.int .u8 (n : Int), .int .u8 (m : Int)] w fun e w' => e = .returned (.bool true) ∧ Below w.heap.size w w' := by
  have HL : Hid (∀ W, Below w.heap.size w W → LaidE W) := fun W hb => hL.below hb
  have e1 : (n : Int).tmod 40 = ((n % 40 : Nat) : Int) := by rw [Int.tmod_eq_emod_of_nonneg (by omega)]; omega
  have e2 : (m : Int).tmod 40 = ((m % 40 : Nat) : Int) := by rw [Int.tmod_eq_emod_of_nonneg (by omega)]; omega
  have hna : n % 40 < 40 := Nat.mod_lt _ (by omega)
  have hnb : m % 40 < 40 := Nat.mod_lt _ (by omega)
  generalize n % 40 = na at *
  generalize m % 40 = nb at *
  have HCA := Lib.hid (chain_c na hna); have HCB := Lib.hid (chain_c nb hnb)
  have HFA := Lib.hid (chain_f na hna); have HFB := Lib.hid (chain_f nb hnb)
  have HLA := Lib.hid (chainL_len na); have HLB := Lib.hid (chainL_len nb)
  have HSU := Lib.hid (chain_s na (chainL nb))
  have HC29 : Hid (checkE (chainL 29) = 0) := chain_c 29 (by omega)
  have HF29 := Lib.hid (chain_f 29 (by omega))
  have w1 : IntKind.i64.wrap (na : Int) = na := IntWalk.i64_in _ (by omega)
  have w2 : IntKind.i64.wrap (nb : Int) = nb := IntWalk.i64_in _ (by omega)
  have w3 : IntKind.i64.wrap (n : Int) = n := IntWalk.i64_in _ (by omega)
  have w4 : IntKind.i64.wrap (m : Int) = m := IntWalk.i64_in _ (by omega)
  obtain ⟨T, hT⟩ : ∃ T, textE (chainL 29) = T := ⟨_, rfl⟩
  have HP := Lib.hid chain_p
  have htl := chain_l
  rw [hT] at HP htl
  have HTT := Lib.hid hT
  clear hT
  obtain ⟨TB, hTB⟩ : ∃ TB : ByteArray, TB = ⟨T.toArray⟩ := ⟨_, rfl⟩
  have hTs : TB.size = T.length := by rw [hTB]; rfl
  have HPS : Hid (∀ W, Below w.heap.size w W → Calls Tryz.prog 20 #[.string ((⟨#[97, 100, 100, 40]⟩ : ByteArray) ++ TB ++ (⟨#[44, 32, 49, 41]⟩ : ByteArray))] W fun e w' => ∃ A c, e = .returned (.tuple #[.slice A 0 c, .int .i64 11]) ∧ Below W.heap.size W w') := by
    intro W hb
    have hs : (⟨#[97, 100, 100, 40]⟩ : ByteArray) ++ TB ++ (⟨#[44, 32, 49, 41]⟩ : ByteArray) = ⟨([97, 100, 100, 40] ++ T ++ [44, 32, 49, 41]).toArray⟩ := ba_eq (by simp [ba_app, hTB])
    rw [hs]
    refine (ret_es HP.out (eParse_any _ W (hL.below hb) (by simp; omega))).mono ?_
    rintro e w' ⟨A, k, c, he, hE, hb'⟩
    obtain rfl : k = 0 := hE.len
    exact ⟨A, c, he, hb'⟩
  have hsm1 : ¬ (9223372036854775807 < (⟨#[97, 100, 100, 40]⟩ : ByteArray).size + TB.size) := by show ¬ (_ < 4 + _); omega
  have hsm2 : ¬ (9223372036854775807 < ((⟨#[97, 100, 100, 40]⟩ : ByteArray) ++ TB).size + (⟨#[44, 32, 49, 41]⟩ : ByteArray).size) := by rw [ByteArray.size_append]; show ¬ (_ < 4 + _ + 4); omega
  have HTX : Hid (∀ W A c, Es W (chainL 29) A 59 c → Calls Tryz.prog 19 #[.slice A 59 c] W fun e w' => e = .returned (.tuple #[.string TB, .int .i64 0]) ∧ Below W.heap.size W w') := by
    intro W A c h
    have := gText_any (chainL 29) A 59 c W h HF29.out
    unfold RetText at this
    rw [HC29.out, if_pos rfl, HTT.out] at this
    rw [hTB]; exact this
  have HC29c : Hid (∀ W : World, Calls Tryz.prog 35 #[.int .i64 29] W fun e w' => ∃ A c, e = .returned (.slice A 59 c) ∧ Es w' (chainL 29) A 59 c ∧ Below W.heap.size W w') := fun W => lchain_any 29 W (by omega)
  clear hTs htl hTB HP HC29 HF29 HTT hn hm
  have hways : (29 < na) ∨ (na ≤ 29 ∧ 29 < nb) ∨ (na ≤ 29 ∧ nb ≤ 29 ∧ 60 < 2 * na + 2 * nb + 1) ∨ (na ≤ 29 ∧ nb ≤ 29 ∧ 2 * na + 2 * nb + 1 ≤ 60) := by omega
  have HCHA := Lib.hid (fun W => lchain_any na W (by omega))
  have HCHB := Lib.hid (fun W => lchain_any nb W (by omega))
  have hal : na < 40 := hna
  generalize chainL na = xs at *
  generalize chainL nb = bs at *
  generalize chainL 29 = cs at *
  have HSV : Hid (substE xs ⟨#[97]⟩ bs = if checkE xs ≠ 0 then ([], checkE xs) else if checkE bs ≠ 0 then ([], checkE bs) else if 60 < (subL xs ⟨#[97]⟩ bs).length then ([], 2) else (subL xs ⟨#[97]⟩ bs, 0)) := rfl
  obtain ⟨la, hla⟩ : ∃ la, 2 * na + 1 = la := ⟨_, rfl⟩
  obtain ⟨lb, hlb⟩ : ∃ lb, 2 * nb + 1 = lb := ⟨_, rfl⟩
  rw [hla] at HCHA HLA
  rw [hlb] at HCHB HLB
  rw [HLB.out] at HSU
  rcases hways with h | ⟨h, h2⟩ | ⟨h, h2, h3⟩ | ⟨h, h2, h3⟩
  · have HZ : Hid (checkE xs = 2) := by show _ = _; rw [HCA.out, if_neg (by omega)]
    have f1 : (60 : Int) < (la : Int) := by omega
    have f2 : decide ((60 : Int) < (la : Int)) = true := decide_eq_true f1
    have HR : Hid (substE xs ⟨#[97]⟩ bs = ([], 2)) := by show _ = _; rw [HSV.out, HZ.out, if_pos (by decide)]
    clear HSV HCA HCB h
    go_enter Tryz.func11, Tryz.ntmps11
    go_wp2_with fail
    refine (lsanity_any _ hL).mono ?_
    rintro e w1 ⟨rfl, hb1⟩
    have HB := Lib.hid hb1
    clear hb1
    go_wp2_with fail
    refine (HCHA.out _).mono ?_
    rintro e w2 ⟨Aa, ca, rfl, ha, hb⟩
    replace HB := Lib.hid (bstep HB.out hb)
    have HA := Lib.hid ha
    clear hb ha
    go_wp2_with fail
    refine (HCHB.out _).mono ?_
    rintro e w3 ⟨Ab, cb, rfl, hbE, hb⟩
    replace HB := Lib.hid (bstep HB.out hb)
    replace HA := Lib.hid (HA.out.below hb)
    have HBE := Lib.hid hbE
    clear hb hbE
    have HTA := eText_any xs Aa la ca _ (HL.out _ HB.out) HA.out HFA.out
    unfold RetText at HTA
    rw [HZ.out] at HTA
    replace HTA := Lib.hid HTA
    go_wp2_with fail
    refine HTA.out.mono ?_
    rintro e w4 ⟨rfl, hb⟩
    replace HB := Lib.hid (bstep HB.out hb)
    replace HA := Lib.hid (HA.out.below hb)
    replace HBE := Lib.hid (HBE.out.below hb)
    clear hb HTA
    have HCK := Lib.hid (check_any xs Aa la ca _ (HL.out _ HB.out) HA.out.len HA.out.cap HA.out.max HA.out.rd HFA.out)
    rw [HZ.out] at HCK
    go_wp2_with fail
    refine HCK.out.mono ?_
    rintro e w5 ⟨rfl, hb⟩
    replace HB := Lib.hid (bstep HB.out hb)
    replace HA := Lib.hid (HA.out.below hb)
    replace HBE := Lib.hid (HBE.out.below hb)
    clear hb HCK
    go_wp2_with fail
    refine (HC29c.out _).mono ?_
    rintro e w6 ⟨Ac, cc, rfl, hc, hb⟩
    replace HB := Lib.hid (bstep HB.out hb)
    replace HA := Lib.hid (HA.out.below hb)
    replace HBE := Lib.hid (HBE.out.below hb)
    have HCE := Lib.hid hc
    clear hb hc
    go_wp2_with fail
    refine (HTX.out _ _ _ HCE.out).mono ?_
    rintro e w7 ⟨rfl, hb⟩
    replace HB := Lib.hid (bstep HB.out hb)
    replace HA := Lib.hid (HA.out.below hb)
    replace HBE := Lib.hid (HBE.out.below hb)
    clear hb HCE
    go_wp2_with fail
    refine (HPS.out _ HB.out).mono ?_
    rintro e w8 ⟨Ad, cd, rfl, hb⟩
    replace HB := Lib.hid (bstep HB.out hb)
    replace HA := Lib.hid (HA.out.below hb)
    replace HBE := Lib.hid (HBE.out.below hb)
    clear hb
    have HSB := Lib.hid (ret_es HR.out (eSubst_any xs bs ⟨#[97]⟩ Aa Ab la ca lb cb _ (HL.out _ HB.out) HA.out HBE.out HFA.out HFB.out))
    go_wp2_with fail
    refine HSB.out.mono ?_
    rintro e w9 ⟨Ae, ne, ce, rfl, hE, hb⟩
    replace HB := Lib.hid (bstep HB.out hb)
    obtain rfl : ne = 0 := hE.len
    clear hb hE HSB HA HBE
    go_wp2
    go_ret
    exact ⟨rfl, HB.out⟩
  · have HZ : Hid (checkE xs = 0) := by show _ = _; rw [HCA.out, if_pos (by omega)]
    have f1 : ¬ (60 : Int) < (la : Int) := by omega
    have f2 : decide ((60 : Int) < (la : Int)) = false := decide_eq_false f1
    have hZB : checkE bs = 2 := by rw [HCB.out, if_neg (by omega)]
    have HR : Hid (substE xs ⟨#[97]⟩ bs = ([], 2)) := by show _ = _; rw [HSV.out, HZ.out, if_neg (by decide), hZB, if_pos (by decide)]
    clear hZB
    have g1 : (60 : Int) < (lb : Int) := by omega
    have g3 : decide ((60 : Int) < (lb : Int)) = true := decide_eq_true g1
    clear HSV HCA HCB h
    go_enter Tryz.func11, Tryz.ntmps11
    go_wp2_with fail
    refine (lsanity_any _ hL).mono ?_
    rintro e w1 ⟨rfl, hb1⟩
    have HB := Lib.hid hb1
    clear hb1
    go_wp2_with fail
    refine (HCHA.out _).mono ?_
    rintro e w2 ⟨Aa, ca, rfl, ha, hb⟩
    replace HB := Lib.hid (bstep HB.out hb)
    have HA := Lib.hid ha
    clear hb ha
    go_wp2_with fail
    refine (HCHB.out _).mono ?_
    rintro e w3 ⟨Ab, cb, rfl, hbE, hb⟩
    replace HB := Lib.hid (bstep HB.out hb)
    replace HA := Lib.hid (HA.out.below hb)
    have HBE := Lib.hid hbE
    clear hb hbE
    have HTA := eText_any xs Aa la ca _ (HL.out _ HB.out) HA.out HFA.out
    unfold RetText at HTA
    rw [HZ.out] at HTA
    replace HTA := Lib.hid HTA
    generalize (if (0 : Int) = 0 then textE xs else []) = ta at *
    generalize (⟨ta.toArray⟩ : ByteArray) = tb at *
    go_wp2_with fail
    refine HTA.out.mono ?_
    rintro e w4 ⟨rfl, hb⟩
    replace HB := Lib.hid (bstep HB.out hb)
    replace HA := Lib.hid (HA.out.below hb)
    replace HBE := Lib.hid (HBE.out.below hb)
    clear hb HTA
    have HCK := Lib.hid (check_any xs Aa la ca _ (HL.out _ HB.out) HA.out.len HA.out.cap HA.out.max HA.out.rd HFA.out)
    rw [HZ.out] at HCK
    go_wp2_with fail
    refine HCK.out.mono ?_
    rintro e w5 ⟨rfl, hb⟩
    replace HB := Lib.hid (bstep HB.out hb)
    replace HA := Lib.hid (HA.out.below hb)
    replace HBE := Lib.hid (HBE.out.below hb)
    clear hb HCK
    go_wp2_with fail
    refine (HC29c.out _).mono ?_
    rintro e w6 ⟨Ac, cc, rfl, hc, hb⟩
    replace HB := Lib.hid (bstep HB.out hb)
    replace HA := Lib.hid (HA.out.below hb)
    replace HBE := Lib.hid (HBE.out.below hb)
    have HCE := Lib.hid hc
    clear hb hc
    go_wp2_with fail
    refine (HTX.out _ _ _ HCE.out).mono ?_
    rintro e w7 ⟨rfl, hb⟩
    replace HB := Lib.hid (bstep HB.out hb)
    replace HA := Lib.hid (HA.out.below hb)
    replace HBE := Lib.hid (HBE.out.below hb)
    clear hb HCE
    go_wp2_with fail
    refine (HPS.out _ HB.out).mono ?_
    rintro e w8 ⟨Ad, cd, rfl, hb⟩
    replace HB := Lib.hid (bstep HB.out hb)
    replace HA := Lib.hid (HA.out.below hb)
    replace HBE := Lib.hid (HBE.out.below hb)
    clear hb
    have HSB := Lib.hid (ret_es HR.out (eSubst_any xs bs ⟨#[97]⟩ Aa Ab la ca lb cb _ (HL.out _ HB.out) HA.out HBE.out HFA.out HFB.out))
    go_wp2_with fail
    refine HSB.out.mono ?_
    rintro e w9 ⟨Ae, ne, ce, rfl, hE, hb⟩
    replace HB := Lib.hid (bstep HB.out hb)
    obtain rfl : ne = 0 := hE.len
    clear hb hE HSB HA HBE
    go_wp2
    go_ret
    exact ⟨rfl, HB.out⟩
  · have HZ : Hid (checkE xs = 0) := by show _ = _; rw [HCA.out, if_pos (by omega)]
    have f1 : ¬ (60 : Int) < (la : Int) := by omega
    have f2 : decide ((60 : Int) < (la : Int)) = false := decide_eq_false f1
    have hZB : checkE bs = 0 := by rw [HCB.out, if_pos (by omega)]
    have HR : Hid (substE xs ⟨#[97]⟩ bs = ([], 2)) := by show _ = _; rw [HSV.out, HZ.out, if_neg (by decide), hZB, if_neg (by decide), if_pos (by rw [HSU.out]; omega)]
    clear hZB
    have g1 : ¬ (60 : Int) < (lb : Int) := by omega
    have hw5 : IntKind.i64.wrap ((la : Int) + lb) = la + lb := IntWalk.i64_in _ (by omega)
    have hw6 : IntKind.i64.wrap ((la : Int) + lb - 1) = la + lb - 1 := IntWalk.i64_in _ (by omega)
    have g2 : (60 : Int) < (la : Int) + lb - 1 := by omega
    have g3 : decide ((60 : Int) < (lb : Int)) = false := decide_eq_false g1
    clear HSV HCA HCB h
    go_enter Tryz.func11, Tryz.ntmps11
    go_wp2_with fail
    refine (lsanity_any _ hL).mono ?_
    rintro e w1 ⟨rfl, hb1⟩
    have HB := Lib.hid hb1
    clear hb1
    go_wp2_with fail
    refine (HCHA.out _).mono ?_
    rintro e w2 ⟨Aa, ca, rfl, ha, hb⟩
    replace HB := Lib.hid (bstep HB.out hb)
    have HA := Lib.hid ha
    clear hb ha
    go_wp2_with fail
    refine (HCHB.out _).mono ?_
    rintro e w3 ⟨Ab, cb, rfl, hbE, hb⟩
    replace HB := Lib.hid (bstep HB.out hb)
    replace HA := Lib.hid (HA.out.below hb)
    have HBE := Lib.hid hbE
    clear hb hbE
    have HTA := eText_any xs Aa la ca _ (HL.out _ HB.out) HA.out HFA.out
    unfold RetText at HTA
    rw [HZ.out] at HTA
    replace HTA := Lib.hid HTA
    generalize (if (0 : Int) = 0 then textE xs else []) = ta at *
    generalize (⟨ta.toArray⟩ : ByteArray) = tb at *
    go_wp2_with fail
    refine HTA.out.mono ?_
    rintro e w4 ⟨rfl, hb⟩
    replace HB := Lib.hid (bstep HB.out hb)
    replace HA := Lib.hid (HA.out.below hb)
    replace HBE := Lib.hid (HBE.out.below hb)
    clear hb HTA
    have HCK := Lib.hid (check_any xs Aa la ca _ (HL.out _ HB.out) HA.out.len HA.out.cap HA.out.max HA.out.rd HFA.out)
    rw [HZ.out] at HCK
    go_wp2_with fail
    refine HCK.out.mono ?_
    rintro e w5 ⟨rfl, hb⟩
    replace HB := Lib.hid (bstep HB.out hb)
    replace HA := Lib.hid (HA.out.below hb)
    replace HBE := Lib.hid (HBE.out.below hb)
    clear hb HCK
    go_wp2_with fail
    refine (HC29c.out _).mono ?_
    rintro e w6 ⟨Ac, cc, rfl, hc, hb⟩
    replace HB := Lib.hid (bstep HB.out hb)
    replace HA := Lib.hid (HA.out.below hb)
    replace HBE := Lib.hid (HBE.out.below hb)
    have HCE := Lib.hid hc
    clear hb hc
    go_wp2_with fail
    refine (HTX.out _ _ _ HCE.out).mono ?_
    rintro e w7 ⟨rfl, hb⟩
    replace HB := Lib.hid (bstep HB.out hb)
    replace HA := Lib.hid (HA.out.below hb)
    replace HBE := Lib.hid (HBE.out.below hb)
    clear hb HCE
    go_wp2_with fail
    refine (HPS.out _ HB.out).mono ?_
    rintro e w8 ⟨Ad, cd, rfl, hb⟩
    replace HB := Lib.hid (bstep HB.out hb)
    replace HA := Lib.hid (HA.out.below hb)
    replace HBE := Lib.hid (HBE.out.below hb)
    clear hb
    have HSB := Lib.hid (ret_es HR.out (eSubst_any xs bs ⟨#[97]⟩ Aa Ab la ca lb cb _ (HL.out _ HB.out) HA.out HBE.out HFA.out HFB.out))
    go_wp2_with fail
    refine HSB.out.mono ?_
    rintro e w9 ⟨Ae, ne, ce, rfl, hE, hb⟩
    replace HB := Lib.hid (bstep HB.out hb)
    obtain rfl : ne = 0 := hE.len
    clear hb hE HSB HA HBE
    go_wp2
    go_ret
    exact ⟨rfl, HB.out⟩
  · have HZ : Hid (checkE xs = 0) := by show _ = _; rw [HCA.out, if_pos (by omega)]
    have f1 : ¬ (60 : Int) < (la : Int) := by omega
    have f2 : decide ((60 : Int) < (la : Int)) = false := decide_eq_false f1
    have hZB : checkE bs = 0 := by rw [HCB.out, if_pos (by omega)]
    have HR : Hid (substE xs ⟨#[97]⟩ bs = (subL xs ⟨#[97]⟩ bs, 0)) := by show _ = _; rw [HSV.out, HZ.out, if_neg (by decide), hZB, if_neg (by decide), if_neg (by rw [HSU.out]; omega)]
    clear hZB
    have g1 : ¬ (60 : Int) < (lb : Int) := by omega
    have hw5 : IntKind.i64.wrap ((la : Int) + lb) = la + lb := IntWalk.i64_in _ (by omega)
    have hw6 : IntKind.i64.wrap ((la : Int) + lb - 1) = la + lb - 1 := IntWalk.i64_in _ (by omega)
    have g2 : ¬ (60 : Int) < (la : Int) + lb - 1 := by omega
    have g3 : decide ((60 : Int) < (lb : Int)) = false := decide_eq_false g1
    clear HSV HCA HCB h
    go_enter Tryz.func11, Tryz.ntmps11
    go_wp2_with fail
    refine (lsanity_any _ hL).mono ?_
    rintro e w1 ⟨rfl, hb1⟩
    have HB := Lib.hid hb1
    clear hb1
    go_wp2_with fail
    refine (HCHA.out _).mono ?_
    rintro e w2 ⟨Aa, ca, rfl, ha, hb⟩
    replace HB := Lib.hid (bstep HB.out hb)
    have HA := Lib.hid ha
    clear hb ha
    go_wp2_with fail
    refine (HCHB.out _).mono ?_
    rintro e w3 ⟨Ab, cb, rfl, hbE, hb⟩
    replace HB := Lib.hid (bstep HB.out hb)
    replace HA := Lib.hid (HA.out.below hb)
    have HBE := Lib.hid hbE
    clear hb hbE
    have HTA := eText_any xs Aa la ca _ (HL.out _ HB.out) HA.out HFA.out
    unfold RetText at HTA
    rw [HZ.out] at HTA
    replace HTA := Lib.hid HTA
    generalize (if (0 : Int) = 0 then textE xs else []) = ta at *
    generalize (⟨ta.toArray⟩ : ByteArray) = tb at *
    go_wp2_with fail
    refine HTA.out.mono ?_
    rintro e w4 ⟨rfl, hb⟩
    replace HB := Lib.hid (bstep HB.out hb)
    replace HA := Lib.hid (HA.out.below hb)
    replace HBE := Lib.hid (HBE.out.below hb)
    clear hb HTA
    have HCK := Lib.hid (check_any xs Aa la ca _ (HL.out _ HB.out) HA.out.len HA.out.cap HA.out.max HA.out.rd HFA.out)
    rw [HZ.out] at HCK
    go_wp2_with fail
    refine HCK.out.mono ?_
    rintro e w5 ⟨rfl, hb⟩
    replace HB := Lib.hid (bstep HB.out hb)
    replace HA := Lib.hid (HA.out.below hb)
    replace HBE := Lib.hid (HBE.out.below hb)
    clear hb HCK
    go_wp2_with fail
    refine (HC29c.out _).mono ?_
    rintro e w6 ⟨Ac, cc, rfl, hc, hb⟩
    replace HB := Lib.hid (bstep HB.out hb)
    replace HA := Lib.hid (HA.out.below hb)
    replace HBE := Lib.hid (HBE.out.below hb)
    have HCE := Lib.hid hc
    clear hb hc
    go_wp2_with fail
    refine (HTX.out _ _ _ HCE.out).mono ?_
    rintro e w7 ⟨rfl, hb⟩
    replace HB := Lib.hid (bstep HB.out hb)
    replace HA := Lib.hid (HA.out.below hb)
    replace HBE := Lib.hid (HBE.out.below hb)
    clear hb HCE
    go_wp2_with fail
    refine (HPS.out _ HB.out).mono ?_
    rintro e w8 ⟨Ad, cd, rfl, hb⟩
    replace HB := Lib.hid (bstep HB.out hb)
    replace HA := Lib.hid (HA.out.below hb)
    replace HBE := Lib.hid (HBE.out.below hb)
    clear hb
    have HSB := Lib.hid (ret_es HR.out (eSubst_any xs bs ⟨#[97]⟩ Aa Ab la ca lb cb _ (HL.out _ HB.out) HA.out HBE.out HFA.out HFB.out))
    go_wp2_with fail
    refine HSB.out.mono ?_
    rintro e w9 ⟨Ae, ne, ce, rfl, hE, hb⟩
    replace HB := Lib.hid (bstep HB.out hb)
    have hne : (ne : Int) = la + lb - 1 := by have := hE.len; rw [HSU.out] at this; omega
    clear hb hE HSB HA HBE
    go_wp2
    go_ret
    exact ⟨rfl, HB.out⟩
end Go.Proofs.YtbicehdehiakgaaGreatDoor
