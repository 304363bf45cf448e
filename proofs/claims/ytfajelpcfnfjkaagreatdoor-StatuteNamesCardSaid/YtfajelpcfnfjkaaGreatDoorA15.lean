/- A part of the proof: R11 R12 Q1. -/
import Derived.Deep.LoopGhost
import Derived.Deep.RegionHeld3
import Derived.Test.YtfajelpcfnfjkaaGreatDoorA10
import Derived.Test.YtfajelpcfnfjkaaGreatDoorA13
import Derived.Test.YtfajelpcfnfjkaaGreatDoorA14
set_option linter.unusedVariables false
set_option linter.unusedSimpArgs false
namespace Go.Proofs.YtfajelpcfnfjkaaGreatDoor
open Go.RowKit
theorem dec_len_le (n K:Nat) (hK:0<K) (h:n<256 ^ K):(Lib.decDigits n).length≤3*K:=by
 refine dec_len (3*K) n (by omega) (Nat.lt_of_lt_of_le h ?_);rw[Nat.pow_mul];exact Nat.pow_le_pow_left (by omega) K
structure Ra where
 neg:Bool
 num:ByteArray
 den:ByteArray
deriving DecidableEq
def Ra.v (a:Ra):Value:=.agg #[.bool a.neg,.string a.num,.string a.den]
def low (neg:Bool) (n d:Nat):Ra:=⟨neg&&decide (n≠0),nbs (n / Nat.gcd n d),nbs (d / Nat.gcd n d)⟩
theorem nbs_inj {n m:Nat} (h:nbs n=nbs m):n=m:=by
 have:=congrArg vbs h;rwa[vbs_nbs,vbs_nbs] at this
theorem nbs_eq_nil (n:Nat):nbs n=⟨#[]⟩↔n=0:=by
 rw[show (⟨#[]⟩:ByteArray)=nbs 0 from rfl];exact⟨nbs_inj,fun h=>by rw[h]⟩
theorem nbs_isEmpty (n:Nat):(nbs n).toList.isEmpty=decide (n=0):=by
 rw[toList_nbs,Bool.eq_iff_iff,List.isEmpty_iff,decide_eq_true_iff];constructor
 ·intro h;rcases Nat.eq_zero_or_pos n with h0|h0
  ·exact h0
  ·exact absurd h (nb_ne n (by omega))
 ·intro h;subst h;rfl
theorem natQuo_nb (n m K:Nat) (w:World) (hK:K≤536870912) (hn:n<256 ^ K) (hm:m<256 ^ K) (h0:0<m):
  Calls Tryz.prog 115 #[.string (nbs n),.string (nbs m)] w fun e w'=>
   e=.returned (.tuple #[.string (nbs (n / m)),.string (nbs (n % m)),.bool true])∧Below w.heap.size w w':=by
 refine (natQuo_any (nbs n) (nbs m) w (Nat.le_trans (nbs_size_le _ _ hn) hK) (Nat.le_trans (nbs_size_le _ _ hm) hK)).mono ?_;rintro e w' ⟨rfl,hb⟩;rw[vbs_nbs,vbs_nbs];have p0:¬(m=0):=by omega
 rw[if_neg p0,if_neg p0,show (m !=0)=true from by simp[p0]];exact⟨rfl,hb⟩
theorem natGcd_nb (n m K:Nat) (w:World) (hK:K≤536870912) (hn:n<256 ^ K) (hm:m<256 ^ K):
  Calls Tryz.prog 114 #[.string (nbs n),.string (nbs m)] w fun e w'=>e=.returned (.string (nbs (Nat.gcd n m)))∧Below w.heap.size w w':=by
 have:=natGcd_any (nbs n) (nbs m) w (Nat.le_trans (nbs_size_le _ _ hn) hK) (Nat.le_trans (nbs_size_le _ _ hm) hK);rwa[vbs_nbs,vbs_nbs] at this
set_option maxHeartbeats 800000 in
theorem qlowest_any (neg:Bool) (n d K:Nat) (w:World) (hK:K≤536870912) (hn:n<256 ^ K) (hd:d<256 ^ K) (h0:0<d):
  Calls Tryz.prog 89 #[.bool neg,.string (nbs n),.string (nbs d)] w fun e w'=>e=.returned (low neg n d).v∧Below w.heap.size w w':=by
 have hg:0<Nat.gcd n d:=Nat.gcd_pos_of_pos_right _ h0;have hgd:Nat.gcd n d≤d:=Nat.gcd_le_right _ h0;have HG:=Lib.hid (natGcd_nb n d K);have HQ1:=Lib.hid (fun w=>natQuo_nb n (Nat.gcd n d) K w hK hn (by omega) hg);have HQ2:=Lib.hid (fun w=>natQuo_nb d (Nat.gcd n d) K w hK hd (by omega) hg);have HN:=Lib.hid hn;have HD:=Lib.hid hd
 have hdz:(n / Nat.gcd n d=0)↔n=0:=by
  constructor
  ·intro h;rcases Nat.eq_zero_or_pos n with h1|h1
   ·exact h1
   ·have h2:=Nat.gcd_le_left d h1;have:=Nat.div_pos h2 hg;omega
  ·intro h;rw[h];exact Nat.zero_div _
 have hb:(!(nbs (n / Nat.gcd n d)).toList.isEmpty)=decide (n≠0):=by
  rw[nbs_isEmpty,decide_not,Bool.not_eq_eq_eq_not,Bool.not_not,decide_eq_decide,hdz]
 have HBB:=Lib.hid hb;have HLOW:Hid (low neg n d=⟨neg&&decide (n≠0),nbs (n / Nat.gcd n d),nbs (d / Nat.gcd n d)⟩):=rfl;generalize low neg n d=r at*;generalize Nat.gcd n d=g at*;clear hb hdz hgd hn hd;obtain⟨W,hW⟩:∃W,W=w.alloc (.cells #[.bool false,.string ⟨#[]⟩,.string ⟨#[]⟩] 46):=⟨_,rfl⟩
 have hba:Below w.heap.size w W:=by rw[hW];exact (Below.refl _ _).alloc (Nat.le_refl _) _
 have hblk:Blk W w.heap.size 46 [.bool false,.string ⟨#[]⟩,.string ⟨#[]⟩]:=by rw[hW];exact Blk.new w _ _
 cases neg
 all_goals
  go_enter Tryz.func89,Tryz.ntmps89;go_wp2_with fail;simp only[←hW]
  refine (HG.out _ hK HN.out HD.out).mono ?_;rintro e w1 ⟨rfl,hb1⟩;go_wp2_with fail;refine (HQ1.out _).mono ?_;rintro e w2 ⟨rfl,hb2⟩;go_wp2_with fail;refine (HQ2.out _).mono ?_;rintro e w3 ⟨rfl,hb3⟩;have hb13:=bstep (bstep hb1 hb2) hb3;have hk3:=hblk.below hb13 hblk.lt;have hc0:=hk3.cell (i:=0) (by decide);have hc1:=hk3.cell (i:=1) (by decide);have hc2:=hk3.cell (i:=2) (by decide);have hf0:=hk3.frozen 0;have hf1:=hk3.frozen 1;have hf2:=hk3.frozen 2;simp only[List.getElem_cons_zero,List.getElem_cons_succ] at hc0 hc1 hc2;have hbw:=bstep hba hb13;clear hb1 hb2 hb3 hb13 hW;go_wp2
 ·refine bodyPost_ret (v:=.agg #[.bool false,.string (nbs (n / g)),.string (nbs (d / g))]) (by simp[results,Tryz.results89,go_sem,hc0,hc1,hc2]) rfl ⟨?_,((hbw.setCell (Nat.le_refl _) _).setCell (Nat.le_refl _) _).setCell (Nat.le_refl _) _⟩;rw[HLOW.out];rfl
 ·refine bodyPost_ret (v:=.agg #[.bool (!(nbs (n / g)).toList.isEmpty),.string (nbs (n / g)),.string (nbs (d / g))]) (by simp[results,Tryz.results89,go_sem,hc0,hc1,hc2]) rfl ⟨?_,((hbw.setCell (Nat.le_refl _) _).setCell (Nat.le_refl _) _).setCell (Nat.le_refl _) _⟩;rw[HLOW.out,HBB.out];rfl
end Go.Proofs.YtfajelpcfnfjkaaGreatDoor
