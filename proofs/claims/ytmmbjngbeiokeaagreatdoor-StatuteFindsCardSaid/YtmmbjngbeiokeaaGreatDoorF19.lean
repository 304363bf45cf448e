/- A part of the proof: S1 S2 S3 W1. -/
import Derived.BigQuiet
import Derived.Test.YtmmbjngbeiokeaaGreatDoorF01
import Derived.Test.YtmmbjngbeiokeaaGreatDoorF15
import Derived.Test.YtmmbjngbeiokeaaGreatDoorF16
set_option linter.unusedVariables false
set_option linter.unusedSimpArgs false
set_option maxRecDepth 100000
set_option maxHeartbeats 40000000
namespace Go.Proofs.YtmmbjngbeiokeaaGreatDoor
open Go.RowKit
theorem sQuo_nb (n m K:Nat) (w:World) (hK:K≤1073741824) (hn:n<256 ^ K) (hm:m<256 ^ K) (h0:0<m):
  Calls Tryz.prog 154 #[.string (nbs n),.string (nbs m)] w fun e w'=>
   e=.returned (.tuple #[.string (nbs (n / m)),.string (nbs (n % m)),.bool true])∧Below w.heap.size w w':=by
 refine (rQuo_any (nbs n) (nbs m) w (Nat.le_trans (nbs_size_le _ _ hn) hK) (Nat.le_trans (nbs_size_le _ _ hm) hK)).mono ?_;rintro e w' ⟨rfl,hb⟩;rw[vbs_nbs,vbs_nbs];have p0:¬(m=0):=by omega
 rw[if_neg p0,if_neg p0,show (m !=0)=true from by simp[p0]];exact⟨rfl,hb⟩
theorem sGcd_nb (n m K:Nat) (w:World) (hK:K≤1073741824) (hn:n<256 ^ K) (hm:m<256 ^ K):
  Calls Tryz.prog 153 #[.string (nbs n),.string (nbs m)] w fun e w'=>e=.returned (.string (nbs (Nat.gcd n m)))∧Below w.heap.size w w':=by
 have:=rGcd_any (nbs n) (nbs m) w (Nat.le_trans (nbs_size_le _ _ hn) hK) (Nat.le_trans (nbs_size_le _ _ hm) hK);rwa[vbs_nbs,vbs_nbs] at this
theorem rOf_one (w:World):Calls Tryz.prog 24 #[.int .i64 1] w fun e w'=>e=.returned (.string (nbs 1))∧Below w.heap.size w w':=rOf_any 1 w (by omega) (by omega)
theorem nbs_emp (n:Nat) (b:Bool) (h:decide (n=0)=b):(nbs n).toList.isEmpty=b:=by rw[nbs_isEmpty,h]
theorem slowest_any (neg:Bool) (n d K:Nat) (w:World) (hK:K≤1073741824) (hn:n<256 ^ K) (hd:d<256 ^ K) (h0:0<d):
  Calls Tryz.prog 120 #[.bool neg,.string (nbs n),.string (nbs d)] w fun e w'=>e=.returned (low neg n d).v∧Below w.heap.size w w':=by
 have hg:0<Nat.gcd n d:=Nat.gcd_pos_of_pos_right _ h0;have hgd:Nat.gcd n d≤d:=Nat.gcd_le_right _ h0;have HG:=zH (fun w=>sGcd_nb n d K w hK hn hd);have HQ1:=zH (fun w=>sQuo_nb n (Nat.gcd n d) K w hK hn (by omega) hg);have HQ2:=zH (fun w=>sQuo_nb d (Nat.gcd n d) K w hK hd (by omega) hg);have HLOW:Hid (low neg n d=⟨neg&&decide (n≠0),nbs (n / Nat.gcd n d),nbs (d / Nat.gcd n d)⟩):=rfl
 have HZ:Hid (n=0→low neg n d=⟨false,nbs 0,nbs 1⟩):=by
  intro h;subst h;rw[HLOW.out];simp[Nat.div_self h0]
 obtain⟨B,hB⟩:=zE w.heap.size;obtain⟨W,hW⟩:=zE (w.alloc (.cells #[.bool false,.string ⟨#[]⟩,.string ⟨#[]⟩] 39));have hba:Below w.heap.size w W:=by rw[hW];exact zB _ _
 have hblk:Blk W w.heap.size 39 [.bool false,.string ⟨#[]⟩,.string ⟨#[]⟩]:=by rw[hW];exact Blk.new w _ _
 rw[←hB] at hblk hba;have HB:=zH hB;obtain⟨r,hr⟩:=zF (low neg n d);rw[hr] at HLOW HZ⊢;clear hr hg hgd hn hd;by_cases hz:n=0
 ·have HZ:=zH (HZ.out hz);have he:=nbs_emp n true (by simp[hz]);clear hz;go_enter Tryz.func120,Tryz.ntmps120;go_wp2_with fail;simp only[←hW,←hB]
  clear hW hB;refine (rOf_one _).mono ?_;rintro e w1 ⟨rfl,hb1⟩;have hk:=hblk.below hb1 hblk.lt;have hc:=hk.cells;have hf:=hk.froz;have HBW:=zH (hba.trans (hb1.mono (Nat.le_of_lt hblk.lt)));clear hb1 hba hk;go_wp2;refine bodyPost_ret (v:=.agg #[.bool false,.string ⟨#[]⟩,.string (nbs 1)]) (by simp[results,Tryz.results120,go_sem,hc]) rfl ⟨?_,?_⟩
  ·rw[HZ.out];rfl
  ·rw[←HB.out];exact below_set3 HBW.out _ _ _
 ·have he:=nbs_emp n false (by simp[hz]);go_enter Tryz.func120,Tryz.ntmps120;go_wp2_with fail;simp only[←hW,←hB]
  clear hW hB;refine (HG.out _).mono ?_;rintro e w1 ⟨rfl,hb1⟩;go_wp2_with fail;refine (HQ1.out _).mono ?_;rintro e w2 ⟨rfl,hb2⟩;go_wp2_with fail;refine (HQ2.out _).mono ?_;rintro e w3 ⟨rfl,hb3⟩;have hb:=bstep (bstep hb1 hb2) hb3;have hk:=hblk.below hb hblk.lt;have hc:=hk.cells;have hf:=hk.froz;have HBW:=zH (hba.trans (hb.mono (Nat.le_of_lt hblk.lt)));clear hb1 hb2 hb3 hb hba hk;go_wp2;refine bodyPost_ret (v:=.agg #[.bool neg,.string (nbs (n / Nat.gcd n d)),.string (nbs (d / Nat.gcd n d))]) (by simp[results,Tryz.results120,go_sem,hc]) rfl ⟨?_,?_⟩
  ·rw[HLOW.out];simp[Ra.v,hz]
  ·rw[←HB.out];exact below_set3 HBW.out _ _ _
theorem okR_ref (a:Ra):okR a=(rightS a.num&&rightS a.den&& !a.den.toList.isEmpty&&(if a.num.toList.isEmpty then !a.neg&&decide (cmpI (vbs a.den) (vbs (nbs 1))=0) else decide (cmpI (vbs (nbs (Nat.gcd (vbs a.num) (vbs a.den)))) (vbs (nbs 1))=0))):=by
 obtain⟨neg,num,den⟩:=a;unfold okR;simp only
 cases hn:rightS num
 ·simp
 cases hd:rightS den
 ·simp
 have en:=(rightS_iff num).1 hn;have ed:=(rightS_iff den).1 hd;rw[vbs_nbs,vbs_nbs];generalize vbs num=n at*;generalize vbs den=d at*;subst en ed
 have hcz:∀x:Nat,(cmpI x 1=0)↔x=1:=by
  intro x;unfold cmpI;split
  ·omega
  ·split<;>omega
 rw[nbs_isEmpty,nbs_isEmpty];simp only[hcz,Bool.true_and,Bool.and_true]
 rcases Nat.eq_zero_or_pos d with h0|h0
 ·subst h0;simp
 ·have hd0:¬d=0:=by omega
  simp only[h0,hd0,decide_true,decide_false,Bool.not_false,Bool.true_and]
  have hg:0<Nat.gcd n d:=Nat.gcd_pos_of_pos_right _ h0;by_cases hz:n=0
  ·subst hz;simp only[decide_true,if_true]
   have:low neg 0 d=⟨false,nbs 0,nbs 1⟩:=by unfold low;simp[Nat.div_self h0]
   rw[this,Bool.eq_iff_iff,decide_eq_true_eq,Bool.and_eq_true,decide_eq_true_eq];constructor
   ·intro h;injection h with h1 h2 h3;exact⟨by rw[←h1];rfl,(nbs_inj h3).symm⟩
   ·rintro⟨h1,h2⟩;cases neg
    ·rw[h2]
    ·cases h1
  ·simp only[hz,decide_false,Bool.false_eq_true,if_false]
   rw[decide_eq_decide];unfold low;constructor
   ·intro h;injection h with h1 h2 h3;have h4:=nbs_inj h2;have h5:n / Nat.gcd n d*Nat.gcd n d=n:=Nat.div_mul_cancel (Nat.gcd_dvd_left n d);rw[h4] at h5;have h6:n*Nat.gcd n d=n*1:=by rw[h5,Nat.mul_one]
    exact Nat.eq_of_mul_eq_mul_left (by omega) h6
   ·intro h;rw[h,Nat.div_one,Nat.div_one];simp[hz]
theorem sRight_any (a:Ra) (w:World) (hn:a.num.size≤536870912) (hd:a.den.size≤536870912):
  Calls Tryz.prog 152 #[a.v] w fun e w'=>e=.returned (.bool (okR a))∧Below w.heap.size w w':=by
 have HOK:=zH (okR_ref a);have HN:=zH (fun w=>rRight_any a.num w);have HD:=zH (fun w=>rRight_any a.den w);have HG:=zH (fun w=>rGcd_any a.num a.den w (by omega) (by omega))
 have hgs:(nbs (Nat.gcd (vbs a.num) (vbs a.den))).size≤536870912:=by
  rcases Nat.eq_zero_or_pos (vbs a.den) with h0|h0
  ·rw[h0,Nat.gcd_zero_right];exact Nat.le_trans (nbs_size_le _ _ (vbs_lt a.num)) hn
  ·exact Nat.le_trans (nbs_size_le _ a.den.size (Nat.lt_of_le_of_lt (Nat.gcd_le_right _ h0) (vbs_lt a.den))) hd
 have HC1:=zH (fun w=>rCmp_any a.den (nbs 1) w (by omega) (by decide));have HC2:=zH (fun w=>rCmp_any (nbs (Nat.gcd (vbs a.num) (vbs a.den))) (nbs 1) w (by omega) (by decide));obtain⟨z1,h1⟩:∃z,cmpI (vbs a.den) (vbs (nbs 1))=z:=⟨_,rfl⟩
 obtain⟨z2,h2⟩:∃z,cmpI (vbs (nbs (Nat.gcd (vbs a.num) (vbs a.den)))) (vbs (nbs 1))=z:=⟨_,rfl⟩
 rw[h1] at HOK HC1;rw[h2] at HOK HC2;clear h1 h2 hgs hn hd;generalize nbs (Nat.gcd (vbs a.num) (vbs a.den))=gg at*;obtain⟨ok,hok⟩:∃o,okR a=o:=⟨_,rfl⟩
 rw[hok] at HOK⊢;clear hok;obtain⟨neg,num,den⟩:=a;unfold Ra.v;simp only at HOK HN HD HG HC1 HC2⊢;obtain⟨rn,hrn⟩:∃r,rightS num=r:=⟨_,rfl⟩
 obtain⟨rd,hrd⟩:∃r,rightS den=r:=⟨_,rfl⟩
 obtain⟨en,hen⟩:∃r,num.toList.isEmpty=r:=⟨_,rfl⟩
 obtain⟨ed,hed⟩:∃r,den.toList.isEmpty=r:=⟨_,rfl⟩
 rw[hrn,hrd,hen,hed] at HOK;rw[hrn] at HN;rw[hrd] at HD;clear hrn hrd;obtain⟨W,hW⟩:=zE (w.alloc (.cells #[.bool neg,.string num,.string den] 39));have hba:Below w.heap.size w W:=by rw[hW];exact zB _ _
 have hblk:Blk W w.heap.size 39 [.bool neg,.string num,.string den]:=by rw[hW];exact Blk.new w _ _
 obtain⟨B,hB⟩:=zE w.heap.size;have HB:=zH hB;rw[←hB] at hblk hba;have hc:=hblk.cells;cases rn
 ·go_enter Tryz.func152,Tryz.ntmps152;go_wp2_with fail;simp only[←hW,←hB]
  clear hW hB;refine (HN.out _).mono ?_;rintro e w1 ⟨rfl,rfl⟩;go_wp2_with fail;refine (HD.out _).mono ?_;rintro e w1 ⟨rfl,rfl⟩;go_wp2;go_ret;exact⟨by rw[HOK.out];rfl,by rw[←HB.out];exact hba⟩
 cases rd
 ·go_enter Tryz.func152,Tryz.ntmps152;go_wp2_with fail;simp only[←hW,←hB]
  clear hW hB;refine (HN.out _).mono ?_;rintro e w1 ⟨rfl,rfl⟩;go_wp2_with fail;refine (HD.out _).mono ?_;rintro e w1 ⟨rfl,rfl⟩;go_wp2;go_ret;exact⟨by rw[HOK.out];rfl,by rw[←HB.out];exact hba⟩
 cases ed
 case true=>
  go_enter Tryz.func152,Tryz.ntmps152;go_wp2_with fail;simp only[←hW,←hB]
  clear hW hB;refine (HN.out _).mono ?_;rintro e w1 ⟨rfl,rfl⟩;go_wp2_with fail;refine (HD.out _).mono ?_;rintro e w1 ⟨rfl,rfl⟩;go_wp2;go_ret;exact⟨by rw[HOK.out];rfl,by rw[←HB.out];exact hba⟩
 cases en
 ·go_enter Tryz.func152,Tryz.ntmps152;go_wp2_with fail;simp only[←hW,←hB]
  clear hW hB;refine (HN.out _).mono ?_;rintro e w1 ⟨rfl,rfl⟩;go_wp2_with fail;refine (HD.out _).mono ?_;rintro e w1 ⟨rfl,rfl⟩;go_wp2_with fail;refine (HG.out _).mono ?_;rintro e w1 ⟨rfl,hb1⟩;go_wp2_with fail;refine (rOf_one _).mono ?_;rintro e w2 ⟨rfl,hb2⟩;go_wp2_with fail;refine (HC2.out _).mono ?_;rintro e w3 ⟨rfl,rfl⟩;go_wp2;go_ret;refine⟨?_,by rw[←HB.out];exact hba.trans ((bstep hb1 hb2).mono (Nat.le_of_lt hblk.lt))⟩;rw[HOK.out];first|rfl|(simp;done)|(simp;rfl)
 cases neg
 ·go_enter Tryz.func152,Tryz.ntmps152;go_wp2_with fail;simp only[←hW,←hB]
  clear hW hB;refine (HN.out _).mono ?_;rintro e w1 ⟨rfl,rfl⟩;go_wp2_with fail;refine (HD.out _).mono ?_;rintro e w1 ⟨rfl,rfl⟩;go_wp2_with fail
  have HK:Hid (∀w' w1:World,((∀i,w'.cell? ⟨B,i,none⟩=([.bool false,.string num,.string den]:List Value)[i]?)∧B<w'.heap.size∧Below B w w')→Below w'.heap.size w' w1→
    ((∀i,w1.cell? ⟨B,i,none⟩=([.bool false,.string num,.string den]:List Value)[i]?)∧B<w1.heap.size∧Below B w w1)):=by
   rintro w' w1 ⟨h0,h2,h3⟩ hb1;exact⟨fun i=>(hb1.cell h2).trans (h0 i),Nat.lt_of_lt_of_le h2 hb1.size,h3.trans (hb1.mono (Nat.le_of_lt h2))⟩
  have HS:Hid ((∀i,W.drew.cell? ⟨B,i,none⟩=([.bool false,.string num,.string den]:List Value)[i]?)∧B<W.drew.heap.size∧Below B w W.drew):=
   ⟨hblk.cells,hblk.lt,below_drewN hba 1⟩
  clear hblk hba hc;refine wp_region_noPanic ?_;refine wp_region_held_drew (S:=fun w'=>(∀i,w'.cell? ⟨B,i,none⟩=([.bool false,.string num,.string den]:List Value)[i]?)∧B<w'.heap.size∧Below B w w') (by kernel_rfl) HS.out (fun hHeld=>?_);refine tkZ 0 ?_;refine tkZ 1 ?_;refine tkZ 2 ?_;refine tkZ 3 ?_;refine tkZ 4 ?_;refine tkZ 5 ?_;refine tkR 6 fun K hK=>?_
  go_simp;refine (rOf_one _).mono ?_;rintro e w1 ⟨rfl,hb1⟩;go_wp2_with fail;refine tkK hK (HK.out _ _ (by assumption) hb1) fun hHeld=>?_
  clear hK K;refine tkR 7 fun K hK=>?_
  go_simp;refine (HC1.out _).mono ?_;rintro e w1 ⟨rfl,rfl⟩;go_wp2_with fail;refine tkK hK (by assumption) fun hHeld=>?_
  clear hK K;refine tkZ 8 ?_;refine tkZ 9 ?_;refine tkZ 10 ?_;refine wpAnyH_done (by kernel_rfl) ?_ _;refine NoPanic.normal ?_;obtain⟨_,_,hb3⟩:=hHeld;have HH:=zH hb3;clear hb3;go_wp2;go_ret;refine⟨?_,by rw[←HB.out];exact HH.out⟩;rw[HOK.out];first|rfl|(simp;done)|(simp;rfl)
 ·go_enter Tryz.func152,Tryz.ntmps152;go_wp2_with fail;simp only[←hW,←hB]
  clear hW hB;refine (HN.out _).mono ?_;rintro e w1 ⟨rfl,rfl⟩;go_wp2_with fail;refine (HD.out _).mono ?_;rintro e w1 ⟨rfl,rfl⟩;go_wp2_with fail
  have HK:Hid (∀w' w1:World,((∀i,w'.cell? ⟨B,i,none⟩=([.bool true,.string num,.string den]:List Value)[i]?)∧B<w'.heap.size∧Below B w w')→Below w'.heap.size w' w1→
    ((∀i,w1.cell? ⟨B,i,none⟩=([.bool true,.string num,.string den]:List Value)[i]?)∧B<w1.heap.size∧Below B w w1)):=by
   rintro w' w1 ⟨h0,h2,h3⟩ hb1;exact⟨fun i=>(hb1.cell h2).trans (h0 i),Nat.lt_of_lt_of_le h2 hb1.size,h3.trans (hb1.mono (Nat.le_of_lt h2))⟩
  have HS:Hid ((∀i,W.drew.cell? ⟨B,i,none⟩=([.bool true,.string num,.string den]:List Value)[i]?)∧B<W.drew.heap.size∧Below B w W.drew):=
   ⟨hblk.cells,hblk.lt,below_drewN hba 1⟩
  clear hblk hba hc;refine wp_region_noPanic ?_;refine wp_region_held_drew (S:=fun w'=>(∀i,w'.cell? ⟨B,i,none⟩=([.bool true,.string num,.string den]:List Value)[i]?)∧B<w'.heap.size∧Below B w w') (by kernel_rfl) HS.out (fun hHeld=>?_);refine tkZ 0 ?_;refine tkZ 1 ?_;refine tkZ 2 ?_;refine tkZ 3 ?_;refine tkN 4 rfl ?_
  try simp only[Act.put,tk1,tk2,tk3,tk4,tk5,tk6]
  refine tkN 5 rfl ?_
  try simp only[Act.put,tk1,tk2,tk3,tk4,tk5,tk6]
  refine tkN 6 rfl ?_
  try simp only[Act.put,tk1,tk2,tk3,tk4,tk5,tk6]
  refine tkN 7 rfl ?_
  try simp only[Act.put,tk1,tk2,tk3,tk4,tk5,tk6]
  refine tkN 8 rfl ?_
  try simp only[Act.put,tk1,tk2,tk3,tk4,tk5,tk6]
  refine tkZ 9 ?_;refine tkZ 10 ?_;refine wpAnyH_done (by kernel_rfl) ?_ _;refine NoPanic.normal ?_;obtain⟨_,_,hb3⟩:=hHeld;have HH:=zH hb3;clear hb3;go_wp2;go_ret;refine⟨?_,by rw[←HB.out];exact HH.out⟩;rw[HOK.out];first|rfl|(simp;done)|(simp;rfl)
structure Three (w:World) (t1 t2 t3:TypeId) (l1 l2 l3:List Value) (W:World):Prop where
 one:Blk W w.heap.size t1 l1
 two:Blk W (w.heap.size+1) t2 l2
 three:Blk W (w.heap.size+2) t3 l3
 below:Below w.heap.size w W
 size:W.heap.size=w.heap.size+3
theorem Three.new (w:World) (t1 t2 t3:TypeId) (cs1 cs2 cs3:Array Value):Three w t1 t2 t3 cs1.toList cs2.toList cs3.toList (((w.alloc (.cells cs1 t1)).alloc (.cells cs2 t2)).alloc (.cells cs3 t3)):=by
 obtain⟨h1,h2,h3,h4⟩:=Two.new w t1 t2 cs1 cs2;have k:=Blk.new ((w.alloc (.cells cs1 t1)).alloc (.cells cs2 t2)) t3 cs3;rw[h4] at k;exact⟨h1.alloc _,h2.alloc _,k,h3.alloc (by omega) _,by show (Array.push _ _).size=_;rw[Array.size_push,h4]⟩
theorem below_at {B C:Nat} {w w':World} (h:Below B w w') (hC:B≤C) (x y z:Value):Below B w (((w'.setCell ⟨C,0,none⟩ x).setCell ⟨C,1,none⟩ y).setCell ⟨C,2,none⟩ z):=
 ((h.setCell (p:=⟨C,0,none⟩) hC _).setCell (p:=⟨C,1,none⟩) hC _).setCell (p:=⟨C,2,none⟩) hC _
theorem svalue_any (a:Ra) (w:World) (hn:a.num.size≤536870912) (hd:a.den.size≤536870912):
  Calls Tryz.prog 119 #[a.v] w fun e w'=>e=.returned (valR a).v∧Below w.heap.size w w':=by
 have HR:=zH (fun w=>sRight_any a w hn hd);have HV:Hid (valR a=if okR a then a else ofI 0):=rfl;obtain⟨o,ho⟩:=zF (okR a);rw[ho] at HR HV;clear ho hn hd;generalize valR a=va at*;obtain⟨neg,num,den⟩:=a;unfold Ra.v at HR⊢;obtain⟨W,hW⟩:=zE ((w.alloc (.cells #[.bool neg,.string num,.string den] 39)).alloc (.cells #[.bool false,.string ⟨#[]⟩,.string ⟨#[]⟩] 39));have htwo:=Two.new w 39 39 #[.bool neg,.string num,.string den] #[.bool false,.string ⟨#[]⟩,.string ⟨#[]⟩];rw[←hW] at htwo;obtain⟨hk0,hk1,hba,hsz⟩:=htwo;obtain⟨B,hB⟩:=zE w.heap.size;have HB:=zH hB;rw[←hB] at hba hsz hk0 hk1;have hc0:=hk0.cells;cases o
 all_goals
  go_enter Tryz.func119,Tryz.ntmps119;go_wp2_with fail;simp only[←hW,←hB]
  clear hW hB;refine (HR.out _).mono ?_;rintro e w1 ⟨rfl,hb1⟩;have hk0':=hk0.below hb1 hk0.lt;have hk1':=hk1.below hb1 hk1.lt;have hB1:Below B w w1:=hba.trans (hb1.mono (by omega));have hc1:=hk0'.cells;have hc2:=hk1'.cells;have hf2:=hk1'.froz
 ·go_wp2_with fail;refine (rOf_one _).mono ?_;rintro e w2 ⟨rfl,hb2⟩;have hk1'':=hk1'.below hb2 hk1'.lt;have hB2:Below B w w2:=hB1.trans (hb2.mono (Nat.le_of_lt hk0'.lt));have hc3:=hk1''.cells;have hf3:=hk1''.froz;go_wp2;refine bodyPost_ret (v:=.agg #[.bool false,.string ⟨#[]⟩,.string (nbs 1)]) (by simp[results,Tryz.results119,go_sem,hc3]) rfl ⟨by rw[HV.out];rfl,?_⟩;rw[←HB.out];exact below_at hB2 (Nat.le_succ _) _ _ _
 ·go_wp2;refine bodyPost_ret (v:=.agg #[.bool neg,.string num,.string den]) (by simp[results,Tryz.results119,go_sem,hc2]) rfl ⟨by rw[HV.out];rfl,?_⟩;rw[←HB.out];exact below_at hB1 (Nat.le_succ _) _ _ _
theorem sOf_any (n:Int) (w:World) (h0:-9223372036854775808≤n) (h1:n≤9223372036854775807):
  Calls Tryz.prog 11 #[.int .i64 n] w fun e w'=>e=.returned (ofI n).v∧Below w.heap.size w w':=by
 obtain⟨W,hW⟩:=zE (w.alloc (.cells #[.bool false,.string ⟨#[]⟩,.string ⟨#[]⟩] 39));have hba:Below w.heap.size w W:=by rw[hW];exact zB _ _
 have hk0:Blk W w.heap.size 39 [.bool false,.string ⟨#[]⟩,.string ⟨#[]⟩]:=by rw[hW];exact Blk.new w _ _
 have hsz:W.heap.size=w.heap.size+1:=by rw[hW];exact Array.size_push _
 obtain⟨B,hB⟩:=zE w.heap.size;have HB:=zH hB;rw[←hB] at hba hsz hk0;by_cases hn:n<0
 ·have HO:Hid (ofI n=⟨true,nbs (n+1).natAbs.succ,nbs 1⟩):=by
   show _=_;unfold ofI;rw[decide_eq_true hn,show n.natAbs=(n+1).natAbs.succ from by omega]
  have HA:=zH (fun w=>rAdd_any (nbs (n+1).natAbs) (nbs 1) w (Nat.le_trans (nbs_size_le _ 9 (by omega)) (by omega)) (Nat.le_trans (nbs_size_le _ 9 (by omega)) (by omega)));rw[vbs_nbs,vbs_nbs] at HA;have hneg:IntKind.i64.wrap (-(n+1))= -(n+1):=IntWalk.i64_in _ (by omega);have hng:(-(n+1)).toNat=(n+1).natAbs:=by omega
  go_enter Tryz.func11,Tryz.ntmps11;go_wp2_with fail;simp only[←hW,←hB]
  clear hW hB;refine (rOf_any _ _ (by omega) (by omega)).mono ?_;rintro e w1 ⟨rfl,hb1⟩;go_wp2_with fail;refine (rOf_one _).mono ?_;rintro e w2 ⟨rfl,hb2⟩
  try rw[hng]
  go_wp2_with fail;refine (HA.out _).mono ?_;rintro e w3 ⟨rfl,hb3⟩;go_wp2_with fail;refine (rOf_one _).mono ?_;rintro e w4 ⟨rfl,hb4⟩;have hb14:=bstep (bstep (bstep hb1 hb2) hb3) hb4;have hk3:=hk0.below hb14 hk0.lt;have hc:=hk3.cells;have hf:=hk3.froz;have HBW:=zH (hba.trans (hb14.mono (Nat.le_of_lt hk0.lt)));clear hb1 hb2 hb3 hb4 hb14;go_wp2;refine bodyPost_ret (v:=.agg #[.bool true,.string (nbs ((n+1).natAbs+1)),.string (nbs 1)]) (by simp[results,Tryz.results11,go_sem,hc]) rfl ⟨?_,by rw[←HB.out];exact below_set3 HBW.out _ _ _⟩;rw[HO.out];rfl
 ·have HO:Hid (ofI n=⟨false,nbs n.toNat,nbs 1⟩):=by
   show _=_;unfold ofI;rw[decide_eq_false hn,show n.natAbs=n.toNat from by omega]
  go_enter Tryz.func11,Tryz.ntmps11;go_wp2_with fail;simp only[←hW,←hB]
  clear hW hB;refine (rOf_any _ _ (by omega) (by omega)).mono ?_;rintro e w1 ⟨rfl,hb1⟩;go_wp2_with fail;refine (rOf_one _).mono ?_;rintro e w2 ⟨rfl,hb2⟩;have hb14:=bstep hb1 hb2;have hk3:=hk0.below hb14 hk0.lt;have hc:=hk3.cells;have hf:=hk3.froz;have HBW:=zH (hba.trans (hb14.mono (Nat.le_of_lt hk0.lt)));clear hb1 hb2 hb14;go_wp2;refine bodyPost_ret (v:=.agg #[.bool false,.string (nbs n.toNat),.string (nbs 1)]) (by simp[results,Tryz.results11,go_sem,hc]) rfl ⟨?_,by rw[←HB.out];exact below_set3 HBW.out _ _ _⟩;rw[HO.out];rfl
theorem emp_nil (s:ByteArray):s.toList.isEmpty=true↔s=⟨#[]⟩:=by
 have e0:(⟨#[]⟩:ByteArray).toList=[]:=by rw[ByteArray.toList_eq]
 rw[List.isEmpty_iff];exact⟨fun h=>toList_inj (by rw[h,e0]),fun h=>by rw[h,e0]⟩
theorem wtmod_ways (a m:Int) (hm:0<m):(0≤a.tmod m∧a % m=a.tmod m)∨(a.tmod m<0∧a % m=a.tmod m+m):=by
 by_cases ha:0≤a
 ·left
  rw[Int.tmod_eq_emod_of_nonneg ha];exact⟨Int.emod_nonneg _ (by omega),rfl⟩
 ·have h1:a.tmod m= -((-a) % m):=by
   have h2:=Int.neg_tmod (-a) m;rw[Int.neg_neg] at h2;rw[h2,Int.tmod_eq_emod_of_nonneg (show 0≤ -a by omega)]
  rw[h1];have hr0:=Int.emod_nonneg (-a) (show m≠0 by omega);have hr1:=Int.emod_lt_of_pos (-a) hm;have hd:=Int.mul_ediv_add_emod (-a) m;generalize (-a) % m=r at*;generalize (-a) / m=q at*;by_cases hz:r=0
  ·left
   refine⟨by omega,?_⟩;have:a=m*(-q):=by rw[Int.mul_neg];omega
   rw[this,Int.mul_emod_right];omega
  ·right
   refine⟨by omega,?_⟩;have:a=(m-r)+m*(-q-1):=by rw[Int.mul_sub,Int.mul_neg,Int.mul_one];omega
   rw[this,Int.add_mul_emod_self_left,Int.emod_eq_of_lt (by omega) (by omega)];omega
theorem wMod_any (a m:Int) (w:World) (h0:-9223372036854775808≤a) (h1:a≤9223372036854775807) (hm:0<m) (hm2:m≤9223372036854775807):
  Calls Tryz.prog 77 #[.int .i64 a,.int .i64 m] w fun e w'=>e=.returned (.int .i64 (a % m))∧w=w':=by
 have hb:-9223372036854775808≤a.tmod m∧a.tmod m≤9223372036854775807:=by
  have h2:=Int.emod_nonneg a (show m≠0 by omega);have h3:=Int.emod_lt_of_pos a hm;rcases wtmod_ways a m hm with⟨h4,h5⟩|⟨h4,h5⟩<;>omega
 have hmz:(m==0)=false:=by rw[beq_eq_false_iff_ne];omega
 have hmz':¬m=0:=by omega
 have hw:IntKind.i64.wrap (a.tmod m)=a.tmod m:=IntWalk.i64_in _ (by omega);have hlt:=Int.emod_lt_of_pos a hm;rcases wtmod_ways a m hm with⟨h4,h5⟩|⟨h4,h5⟩
 ·have HV:=zH h5;clear h5 hlt;go_enter Tryz.func77,Tryz.ntmps77;go_wp2;go_ret;exact⟨by rw[HV.out];rfl,rfl⟩
 ·have HV:=zH h5;have h6:=Int.emod_nonneg a (show m≠0 by omega);have hw2:IntKind.i64.wrap (a.tmod m+m)=a.tmod m+m:=IntWalk.i64_in _ (by omega);clear h5 hlt h6;go_enter Tryz.func77,Tryz.ntmps77;go_wp2;go_ret;exact⟨by rw[HV.out];rfl,rfl⟩
def zvs (l:List Int):List Value:=l.map (Value.int .i64)
structure Dw (w:World) (D:Nat) (A:Option Addr) (n c:Nat) (L:List Int) (k:Nat):Prop where
 blk:Blk w D 92 [.slice A n c,.int .i64 k]
 len:n=L.length
 max:n≤maxLen
 rd:Rd w A (zvs L)
 rng:∀x∈L,-9223372036854775808≤x∧x≤9223372036854775807
 ne:L≠[]→∀ad,A=some ad→ad.block≠D
 le:k≤n
def DS (w:World) (D u:Nat):Prop:=∃A n c L k,Dw w D A n c L k∧D<u∧(L≠[]→∀ad,A=some ad→ad.block<u)
theorem DS.lt {w:World} {D u:Nat} (h:DS w D u):D<w.heap.size:=by obtain⟨_,_,_,_,_,h,_⟩:=h;exact h.blk.lt
theorem DS.below {w w':World} {D u:Nat} (h:DS w D u) (hb:Below w.heap.size w w'):DS w' D u:=by
 obtain⟨A,n,c,L,k,h,hu⟩:=h;exact⟨A,n,c,L,k,⟨h.blk.below hb h.blk.lt,h.len,h.max,h.rd.below hb,h.rng,h.ne,h.le⟩,hu⟩
theorem DS.set {w:World} {D u B:Nat} (h:DS w D u) (hB:u≤B) (i:Nat) (x:Value):DS (w.setCell ⟨B,i,none⟩ x) D u:=by
 obtain⟨A,n,c,L,k,h,hu,ha⟩:=h;have ho:Onl B w (w.setCell ⟨B,i,none⟩ x):=(Onl.refl _ _).set i x;refine⟨A,n,c,L,k,⟨ho.blk h.blk (by omega),h.len,h.max,?_,h.rng,h.ne,h.le⟩,hu,ha⟩;rcases h.rd with h0|⟨b',off',e,hb,hc⟩
 ·exact .inl h0
 ·subst e;by_cases hL:L=[]
  ·exact .inl (by rw[hL];rfl)
  ·have h9:b'<u:=ha hL _ rfl;exact ho.rd (.inr ⟨b',off',rfl,hb,hc⟩) (by show b'≠B;omega)
theorem next_any (w:World) (D u:Nat) (m:Int) (h:DS w D u) (h1:1≤m) (h2:m≤1000000):Calls Tryz.prog 32 #[.pointer (some ⟨D,0,none⟩),.int .i64 m] w fun e w'=>∃r:Nat,(r:Int)<m∧e=.returned (.int .i64 r)∧DS w' D u∧Onl D w w':=by
 obtain⟨A,n,c,L,k,h,hu⟩:=h;have HU:=zH hu;clear hu;have HW:=zH h;have hkc:=h.blk.cells;have hkf:=h.blk.froz;have hmx:=h.max;have hkn:=h.le;unfold maxLen at hmx;by_cases hlt:k<n
 ·have hlen:=h.len;have hl:k<L.length:=by omega
  obtain⟨b,o,rfl,hb,hc⟩:=h.rd.at_ (k:=k) (by unfold zvs;rw[List.length_map];exact hl)
  have hcx:w.cell? ⟨b,o+k,none⟩=some (.int .i64 L[k]):=by
   have:=hc k (by unfold zvs;rw[List.length_map];exact hl);rw[this];unfold zvs;rw[List.getElem_map]
  have hne:=h.ne (by rintro rfl;exact absurd hl (by simp)) ⟨b,o,none⟩ rfl;have hrg:=h.rng _ (List.getElem_mem hl);have HM:=zH (fun W=>wMod_any L[k] m W hrg.1 hrg.2 (by omega) (by omega));have HR:Hid (∃r:Nat,(r:Int)<m∧L[k] % m=r):=⟨(L[k] % m).toNat,by have:=Int.emod_lt_of_pos L[k] (show 0<m by omega);have:=Int.emod_nonneg L[k] (show m≠0 by omega);omega,by have:=Int.emod_nonneg L[k] (show m≠0 by omega);omega⟩
  obtain⟨r,hr,hre⟩:=HR.out;rw[hre] at HM;have HRM:=zH hr;have HRE:=zH hre;have hlt':¬(k:Int)≥n:=by omega
  have hbD:¬b=D:=hne;have hbD':¬D=b:=fun e=>hne e.symm
  have hk0:(0:Int)≤(k:Int):=by omega
  have hk1:(k:Int)<n:=by omega
  have hkL:k+1≤L.length:=hl;clear hr hre h hc hne;obtain⟨x,hx⟩:=zF (L[k]);simp only[hx] at HM HRE hcx hrg;clear HR hrg hx hl hlen hkL;go_enter Tryz.func32,Tryz.ntmps32
  go_upto_region 1 with fail
  go_quiet (fail);generalize hwq:w.drewN _=wq;have HQ:Hid (Below w.heap.size w wq):=by show Below _ _ _;rw[←hwq];exact drewN_below _ _ _
  have HKQ:Hid (Blk wq D 92 [.slice (some ⟨b,o,none⟩) n c,.int .i64 k]):=HW.out.blk.below HQ.out HW.out.blk.lt;have hbx:wq.cell? ⟨b,o+k,none⟩=some (.int .i64 x):=(HQ.out.cell (p:=⟨b,o+k,none⟩) hb).trans hcx;clear hwq hkc hkf hcx;have hkc:=HKQ.out.cells;have hkf:=HKQ.out.froz
  go_upto_region 4 with fail
  have hk2:Blk (wq.setCell ⟨D,1,none⟩ (.int .i64 ((k:Int)+1))) D 92 [.slice (some ⟨b,o,none⟩) n c,.int .i64 ((k:Int)+1)]:=HKQ.out.set 1 _;have hbx2:(wq.setCell ⟨D,1,none⟩ (.int .i64 ((k:Int)+1))).cell? ⟨b,o+k,none⟩=some (.int .i64 x):=by rw[World.cell?_setCell_other _ _ _ _ (by simp[hbD,hbD'])];exact hbx
  have HO2:Hid (Onl D w (wq.setCell ⟨D,1,none⟩ (.int .i64 ((k:Int)+1)))):=(Onl.of_below HQ.out).set 1 _;have HK2:=zH hk2
  have HDS:Hid (∀W,Below (wq.setCell ⟨D,1,none⟩ (.int .i64 ((k:Int)+1))).heap.size (wq.setCell ⟨D,1,none⟩ (.int .i64 ((k:Int)+1))) W→DS W D u):=fun W hW=>by
   refine DS.below ⟨some ⟨b,o,none⟩,n,c,L,k+1,⟨hk2,HW.out.len,HW.out.max,?_,HW.out.rng,HW.out.ne,by omega⟩,HU.out⟩ hW;exact HO2.out.rd HW.out.rd hbD
  generalize wq.setCell ⟨D,1,none⟩ (.int .i64 ((k:Int)+1))=w2 at*;clear hkc hkf hbx HQ HKQ hk2;have hkc:=HK2.out.cells;go_quiet ((go_at_call 77;refine Calls.quiet_of_same ((HM.out _).mono (fun _ _ h=>⟨h.1,h.2.symm⟩))));go_wp2;go_ret;exact⟨r,HRM.out,rfl,HDS.out _ (drewN_below _ _ _),HO2.out.drewN _⟩
 ·have hge:(n:Int)≤(k:Int):=by omega
  clear h;go_enter Tryz.func32,Tryz.ntmps32
  go_upto_region 1 with fail
  go_quiet (fail);go_wp2;go_ret;exact⟨0,by omega,rfl,DS.below ⟨A,n,c,L,k,HW.out,HU.out⟩ (drewN_below _ _ _),(Onl.refl _ _).drewN _⟩
end Go.Proofs.YtmmbjngbeiokeaaGreatDoor
