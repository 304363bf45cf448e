/- A part of the proof: S1 S2 W1 E1 S3. -/
import Derived.BigQuiet
import Derived.Test.YtkgiaegmkncljaaGreatDoorS01
import Derived.Test.YtkgiaegmkncljaaGreatDoorS15
set_option linter.unusedVariables false
set_option linter.unusedSimpArgs false
set_option maxRecDepth 100000
set_option maxHeartbeats 40000000
namespace Go.Proofs.YtkgiaegmkncljaaGreatDoor
open Go.RowKit
theorem sQuo_nb (n m K:Nat) (w:World) (hK:K≤1073741824) (hn:n<256 ^ K) (hm:m<256 ^ K) (h0:0<m):
  Calls Tryz.prog 227 #[.string (nbs n),.string (nbs m)] w fun e w'=>
   e=.returned (.tuple #[.string (nbs (n / m)),.string (nbs (n % m)),.bool true])∧Below w.heap.size w w':=by
 refine (rQuo_any (nbs n) (nbs m) w (Nat.le_trans (nbs_size_le _ _ hn) hK) (Nat.le_trans (nbs_size_le _ _ hm) hK)).mono ?_;rintro e w' ⟨rfl,hb⟩;rw[vbs_nbs,vbs_nbs];have p0:¬(m=0):=by omega
 rw[if_neg p0,if_neg p0,show (m !=0)=true from by simp[p0]];exact⟨rfl,hb⟩
theorem sGcd_nb (n m K:Nat) (w:World) (hK:K≤1073741824) (hn:n<256 ^ K) (hm:m<256 ^ K):
  Calls Tryz.prog 224 #[.string (nbs n),.string (nbs m)] w fun e w'=>e=.returned (.string (nbs (Nat.gcd n m)))∧Below w.heap.size w w':=by
 have:=rGcd_any (nbs n) (nbs m) w (Nat.le_trans (nbs_size_le _ _ hn) hK) (Nat.le_trans (nbs_size_le _ _ hm) hK);rwa[vbs_nbs,vbs_nbs] at this
theorem rOf_one (w:World):Calls Tryz.prog 65 #[.int .i64 1] w fun e w'=>e=.returned (.string (nbs 1))∧Below w.heap.size w w':=rOf_any 1 w (by omega) (by omega)
theorem nbs_emp (n:Nat) (b:Bool) (h:decide (n=0)=b):(nbs n).toList.isEmpty=b:=by rw[nbs_isEmpty,h]
theorem slowest_any (neg:Bool) (n d K:Nat) (w:World) (hK:K≤1073741824) (hn:n<256 ^ K) (hd:d<256 ^ K) (h0:0<d):
  Calls Tryz.prog 177 #[.bool neg,.string (nbs n),.string (nbs d)] w fun e w'=>e=.returned (low neg n d).v∧Below w.heap.size w w':=by
 have hg:0<Nat.gcd n d:=Nat.gcd_pos_of_pos_right _ h0;have hgd:Nat.gcd n d≤d:=Nat.gcd_le_right _ h0;have HG:=zH (fun w=>sGcd_nb n d K w hK hn hd);have HQ1:=zH (fun w=>sQuo_nb n (Nat.gcd n d) K w hK hn (by omega) hg);have HQ2:=zH (fun w=>sQuo_nb d (Nat.gcd n d) K w hK hd (by omega) hg);have HLOW:Hid (low neg n d=⟨neg&&decide (n≠0),nbs (n / Nat.gcd n d),nbs (d / Nat.gcd n d)⟩):=rfl
 have HZ:Hid (n=0→low neg n d=⟨false,nbs 0,nbs 1⟩):=by
  intro h;subst h;rw[HLOW.out];simp[Nat.div_self h0]
 obtain⟨B,hB⟩:=zE w.heap.size;obtain⟨W,hW⟩:=zE (w.alloc (.cells #[.bool false,.string ⟨#[]⟩,.string ⟨#[]⟩] 44));have hba:Below w.heap.size w W:=by rw[hW];exact zB _ _
 have hblk:Blk W w.heap.size 44 [.bool false,.string ⟨#[]⟩,.string ⟨#[]⟩]:=by rw[hW];exact Blk.new w _ _
 rw[←hB] at hblk hba;have HB:=zH hB;obtain⟨r,hr⟩:=zF (low neg n d);rw[hr] at HLOW HZ⊢;clear hr hg hgd hn hd;by_cases hz:n=0
 ·have HZ:=zH (HZ.out hz);have he:=nbs_emp n true (by simp[hz]);clear hz;go_enter Tryz.func177,Tryz.ntmps177;go_wp2_with fail;simp only[←hW,←hB]
  clear hW hB;refine (rOf_one _).mono ?_;rintro e w1 ⟨rfl,hb1⟩;have hk:=hblk.below hb1 hblk.lt;have hc:=hk.cells;have hf:=hk.froz;have HBW:=zH (hba.trans (hb1.mono (Nat.le_of_lt hblk.lt)));clear hb1 hba hk;go_wp2;refine bodyPost_ret (v:=.agg #[.bool false,.string ⟨#[]⟩,.string (nbs 1)]) (by simp[results,Tryz.results177,go_sem,hc]) rfl ⟨?_,?_⟩
  ·rw[HZ.out];rfl
  ·rw[←HB.out];exact below_set3 HBW.out _ _ _
 ·have he:=nbs_emp n false (by simp[hz]);go_enter Tryz.func177,Tryz.ntmps177;go_wp2_with fail;simp only[←hW,←hB]
  clear hW hB;refine (HG.out _).mono ?_;rintro e w1 ⟨rfl,hb1⟩;go_wp2_with fail;refine (HQ1.out _).mono ?_;rintro e w2 ⟨rfl,hb2⟩;go_wp2_with fail;refine (HQ2.out _).mono ?_;rintro e w3 ⟨rfl,hb3⟩;have hb:=bstep (bstep hb1 hb2) hb3;have hk:=hblk.below hb hblk.lt;have hc:=hk.cells;have hf:=hk.froz;have HBW:=zH (hba.trans (hb.mono (Nat.le_of_lt hblk.lt)));clear hb1 hb2 hb3 hb hba hk;go_wp2;refine bodyPost_ret (v:=.agg #[.bool neg,.string (nbs (n / Nat.gcd n d)),.string (nbs (d / Nat.gcd n d))]) (by simp[results,Tryz.results177,go_sem,hc]) rfl ⟨?_,?_⟩
  ·rw[HLOW.out];simp[Ra.v,hz]
  ·rw[←HB.out];exact below_set3 HBW.out _ _ _
theorem okR_ref (a:Ra):okR a=(rightS a.num&&rightS a.den&& !a.den.toList.isEmpty&&(if a.num.toList.isEmpty then !a.neg&&decide (cmpI (vbs a.den) (vbs (nbs 1))=0) else decide (cmpI (vbs (nbs (Nat.gcd (vbs a.num) (vbs a.den)))) (vbs (nbs 1))=0))):=by
 obtain⟨neg,num,den⟩:=a;unfold okR;simp only
 cases hn:rightS num
 ·simp
 cases hd:rightS den
 ·simp
 have en:=(rightS_iff num).1 hn;have ed:=(rightS_iff den).1 hd;rw[vbs_nbs,vbs_nbs];generalize vbs num=n at*;generalize vbs den=d at*;subst en ed
 have hcz:∀x:Nat,(cmpI x 1=0)↔x=1:=by
  intro x;unfold cmpI;split
  ·omega
  ·split<;>omega
 rw[nbs_isEmpty,nbs_isEmpty];simp only[hcz,Bool.true_and,Bool.and_true]
 rcases Nat.eq_zero_or_pos d with h0|h0
 ·subst h0;simp
 ·have hd0:¬d=0:=by omega
  simp only[h0,hd0,decide_true,decide_false,Bool.not_false,Bool.true_and]
  have hg:0<Nat.gcd n d:=Nat.gcd_pos_of_pos_right _ h0;by_cases hz:n=0
  ·subst hz;simp only[decide_true,if_true]
   have:low neg 0 d=⟨false,nbs 0,nbs 1⟩:=by unfold low;simp[Nat.div_self h0]
   rw[this,Bool.eq_iff_iff,decide_eq_true_eq,Bool.and_eq_true,decide_eq_true_eq];constructor
   ·intro h;injection h with h1 h2 h3;exact⟨by rw[←h1];rfl,(nbs_inj h3).symm⟩
   ·rintro⟨h1,h2⟩;cases neg
    ·rw[h2]
    ·cases h1
  ·simp only[hz,decide_false,Bool.false_eq_true,if_false]
   rw[decide_eq_decide];unfold low;constructor
   ·intro h;injection h with h1 h2 h3;have h4:=nbs_inj h2;have h5:n / Nat.gcd n d*Nat.gcd n d=n:=Nat.div_mul_cancel (Nat.gcd_dvd_left n d);rw[h4] at h5;have h6:n*Nat.gcd n d=n*1:=by rw[h5,Nat.mul_one]
    exact Nat.eq_of_mul_eq_mul_left (by omega) h6
   ·intro h;rw[h,Nat.div_one,Nat.div_one];simp[hz]
theorem sRight_any (a:Ra) (w:World) (hn:a.num.size≤536870912) (hd:a.den.size≤536870912):
  Calls Tryz.prog 171 #[a.v] w fun e w'=>e=.returned (.bool (okR a))∧Below w.heap.size w w':=by
 have HOK:=zH (okR_ref a);have HN:=zH (fun w=>rRight_any a.num w);have HD:=zH (fun w=>rRight_any a.den w);have HG:=zH (fun w=>rGcd_any a.num a.den w (by omega) (by omega))
 have hgs:(nbs (Nat.gcd (vbs a.num) (vbs a.den))).size≤536870912:=by
  rcases Nat.eq_zero_or_pos (vbs a.den) with h0|h0
  ·rw[h0,Nat.gcd_zero_right];exact Nat.le_trans (nbs_size_le _ _ (vbs_lt a.num)) hn
  ·exact Nat.le_trans (nbs_size_le _ a.den.size (Nat.lt_of_le_of_lt (Nat.gcd_le_right _ h0) (vbs_lt a.den))) hd
 have HC1:=zH (fun w=>rCmp_any a.den (nbs 1) w (by omega) (by decide));have HC2:=zH (fun w=>rCmp_any (nbs (Nat.gcd (vbs a.num) (vbs a.den))) (nbs 1) w (by omega) (by decide));obtain⟨z1,h1⟩:∃z,cmpI (vbs a.den) (vbs (nbs 1))=z:=⟨_,rfl⟩
 obtain⟨z2,h2⟩:∃z,cmpI (vbs (nbs (Nat.gcd (vbs a.num) (vbs a.den)))) (vbs (nbs 1))=z:=⟨_,rfl⟩
 rw[h1] at HOK HC1;rw[h2] at HOK HC2;clear h1 h2 hgs hn hd;generalize nbs (Nat.gcd (vbs a.num) (vbs a.den))=gg at*;obtain⟨ok,hok⟩:∃o,okR a=o:=⟨_,rfl⟩
 rw[hok] at HOK⊢;clear hok;obtain⟨neg,num,den⟩:=a;unfold Ra.v;simp only at HOK HN HD HG HC1 HC2⊢;obtain⟨rn,hrn⟩:∃r,rightS num=r:=⟨_,rfl⟩
 obtain⟨rd,hrd⟩:∃r,rightS den=r:=⟨_,rfl⟩
 obtain⟨en,hen⟩:∃r,num.toList.isEmpty=r:=⟨_,rfl⟩
 obtain⟨ed,hed⟩:∃r,den.toList.isEmpty=r:=⟨_,rfl⟩
 rw[hrn,hrd,hen,hed] at HOK;rw[hrn] at HN;rw[hrd] at HD;clear hrn hrd;obtain⟨W,hW⟩:=zE (w.alloc (.cells #[.bool neg,.string num,.string den] 44));have hba:Below w.heap.size w W:=by rw[hW];exact zB _ _
 have hblk:Blk W w.heap.size 44 [.bool neg,.string num,.string den]:=by rw[hW];exact Blk.new w _ _
 obtain⟨B,hB⟩:=zE w.heap.size;have HB:=zH hB;rw[←hB] at hblk hba;have hc:=hblk.cells;cases rn
 ·go_enter Tryz.func171,Tryz.ntmps171;go_wp2_with fail;simp only[←hW,←hB]
  clear hW hB;refine (HN.out _).mono ?_;rintro e w1 ⟨rfl,rfl⟩;go_wp2_with fail;refine (HD.out _).mono ?_;rintro e w1 ⟨rfl,rfl⟩;go_wp2;go_ret;exact⟨by rw[HOK.out];rfl,by rw[←HB.out];exact hba⟩
 cases rd
 ·go_enter Tryz.func171,Tryz.ntmps171;go_wp2_with fail;simp only[←hW,←hB]
  clear hW hB;refine (HN.out _).mono ?_;rintro e w1 ⟨rfl,rfl⟩;go_wp2_with fail;refine (HD.out _).mono ?_;rintro e w1 ⟨rfl,rfl⟩;go_wp2;go_ret;exact⟨by rw[HOK.out];rfl,by rw[←HB.out];exact hba⟩
 cases ed
 case true=>
  go_enter Tryz.func171,Tryz.ntmps171;go_wp2_with fail;simp only[←hW,←hB]
  clear hW hB;refine (HN.out _).mono ?_;rintro e w1 ⟨rfl,rfl⟩;go_wp2_with fail;refine (HD.out _).mono ?_;rintro e w1 ⟨rfl,rfl⟩;go_wp2;go_ret;exact⟨by rw[HOK.out];rfl,by rw[←HB.out];exact hba⟩
 cases en
 ·go_enter Tryz.func171,Tryz.ntmps171;go_wp2_with fail;simp only[←hW,←hB]
  clear hW hB;refine (HN.out _).mono ?_;rintro e w1 ⟨rfl,rfl⟩;go_wp2_with fail;refine (HD.out _).mono ?_;rintro e w1 ⟨rfl,rfl⟩;go_wp2_with fail;refine (HG.out _).mono ?_;rintro e w1 ⟨rfl,hb1⟩;go_wp2_with fail;refine (rOf_one _).mono ?_;rintro e w2 ⟨rfl,hb2⟩;go_wp2_with fail;refine (HC2.out _).mono ?_;rintro e w3 ⟨rfl,rfl⟩;go_wp2;go_ret;refine⟨?_,by rw[←HB.out];exact hba.trans ((bstep hb1 hb2).mono (Nat.le_of_lt hblk.lt))⟩;rw[HOK.out];first|rfl|(simp;done)|(simp;rfl)
 cases neg
 ·go_enter Tryz.func171,Tryz.ntmps171;go_wp2_with fail;simp only[←hW,←hB]
  clear hW hB;refine (HN.out _).mono ?_;rintro e w1 ⟨rfl,rfl⟩;go_wp2_with fail;refine (HD.out _).mono ?_;rintro e w1 ⟨rfl,rfl⟩;go_wp2_with fail
  have HK:Hid (∀w' w1:World,((∀i,w'.cell? ⟨B,i,none⟩=([.bool false,.string num,.string den]:List Value)[i]?)∧B<w'.heap.size∧Below B w w')→Below w'.heap.size w' w1→
    ((∀i,w1.cell? ⟨B,i,none⟩=([.bool false,.string num,.string den]:List Value)[i]?)∧B<w1.heap.size∧Below B w w1)):=by
   rintro w' w1 ⟨h0,h2,h3⟩ hb1;exact⟨fun i=>(hb1.cell h2).trans (h0 i),Nat.lt_of_lt_of_le h2 hb1.size,h3.trans (hb1.mono (Nat.le_of_lt h2))⟩
  have HS:Hid ((∀i,W.drew.cell? ⟨B,i,none⟩=([.bool false,.string num,.string den]:List Value)[i]?)∧B<W.drew.heap.size∧Below B w W.drew):=
   ⟨hblk.cells,hblk.lt,below_drewN hba 1⟩
  clear hblk hba hc;refine wp_region_noPanic ?_;refine wp_region_held_drew (S:=fun w'=>(∀i,w'.cell? ⟨B,i,none⟩=([.bool false,.string num,.string den]:List Value)[i]?)∧B<w'.heap.size∧Below B w w') (by kernel_rfl) HS.out (fun hHeld=>?_);refine tkZ 0 ?_;refine tkZ 1 ?_;refine tkZ 2 ?_;refine tkZ 3 ?_;refine tkZ 4 ?_;refine tkZ 5 ?_;refine tkR 6 fun K hK=>?_
  go_simp;refine (rOf_one _).mono ?_;rintro e w1 ⟨rfl,hb1⟩;go_wp2_with fail;refine tkK hK (HK.out _ _ (by assumption) hb1) fun hHeld=>?_
  clear hK K;refine tkR 7 fun K hK=>?_
  go_simp;refine (HC1.out _).mono ?_;rintro e w1 ⟨rfl,rfl⟩;go_wp2_with fail;refine tkK hK (by assumption) fun hHeld=>?_
  clear hK K;refine tkZ 8 ?_;refine tkZ 9 ?_;refine tkZ 10 ?_;refine wpAnyH_done (by kernel_rfl) ?_ _;refine NoPanic.normal ?_;obtain⟨_,_,hb3⟩:=hHeld;have HH:=zH hb3;clear hb3;go_wp2;go_ret;refine⟨?_,by rw[←HB.out];exact HH.out⟩;rw[HOK.out];first|rfl|(simp;done)|(simp;rfl)
 ·go_enter Tryz.func171,Tryz.ntmps171;go_wp2_with fail;simp only[←hW,←hB]
  clear hW hB;refine (HN.out _).mono ?_;rintro e w1 ⟨rfl,rfl⟩;go_wp2_with fail;refine (HD.out _).mono ?_;rintro e w1 ⟨rfl,rfl⟩;go_wp2_with fail
  have HK:Hid (∀w' w1:World,((∀i,w'.cell? ⟨B,i,none⟩=([.bool true,.string num,.string den]:List Value)[i]?)∧B<w'.heap.size∧Below B w w')→Below w'.heap.size w' w1→
    ((∀i,w1.cell? ⟨B,i,none⟩=([.bool true,.string num,.string den]:List Value)[i]?)∧B<w1.heap.size∧Below B w w1)):=by
   rintro w' w1 ⟨h0,h2,h3⟩ hb1;exact⟨fun i=>(hb1.cell h2).trans (h0 i),Nat.lt_of_lt_of_le h2 hb1.size,h3.trans (hb1.mono (Nat.le_of_lt h2))⟩
  have HS:Hid ((∀i,W.drew.cell? ⟨B,i,none⟩=([.bool true,.string num,.string den]:List Value)[i]?)∧B<W.drew.heap.size∧Below B w W.drew):=
   ⟨hblk.cells,hblk.lt,below_drewN hba 1⟩
  clear hblk hba hc;refine wp_region_noPanic ?_;refine wp_region_held_drew (S:=fun w'=>(∀i,w'.cell? ⟨B,i,none⟩=([.bool true,.string num,.string den]:List Value)[i]?)∧B<w'.heap.size∧Below B w w') (by kernel_rfl) HS.out (fun hHeld=>?_);refine tkZ 0 ?_;refine tkZ 1 ?_;refine tkZ 2 ?_;refine tkZ 3 ?_;refine tkN 4 rfl ?_
  try simp only[Act.put,tk1,tk2,tk3,tk4,tk5,tk6]
  refine tkN 5 rfl ?_
  try simp only[Act.put,tk1,tk2,tk3,tk4,tk5,tk6]
  refine tkN 6 rfl ?_
  try simp only[Act.put,tk1,tk2,tk3,tk4,tk5,tk6]
  refine tkN 7 rfl ?_
  try simp only[Act.put,tk1,tk2,tk3,tk4,tk5,tk6]
  refine tkN 8 rfl ?_
  try simp only[Act.put,tk1,tk2,tk3,tk4,tk5,tk6]
  refine tkZ 9 ?_;refine tkZ 10 ?_;refine wpAnyH_done (by kernel_rfl) ?_ _;refine NoPanic.normal ?_;obtain⟨_,_,hb3⟩:=hHeld;have HH:=zH hb3;clear hb3;go_wp2;go_ret;refine⟨?_,by rw[←HB.out];exact HH.out⟩;rw[HOK.out];first|rfl|(simp;done)|(simp;rfl)
structure Three (w:World) (t1 t2 t3:TypeId) (l1 l2 l3:List Value) (W:World):Prop where
 one:Blk W w.heap.size t1 l1
 two:Blk W (w.heap.size+1) t2 l2
 three:Blk W (w.heap.size+2) t3 l3
 below:Below w.heap.size w W
 size:W.heap.size=w.heap.size+3
theorem Three.new (w:World) (t1 t2 t3:TypeId) (cs1 cs2 cs3:Array Value):Three w t1 t2 t3 cs1.toList cs2.toList cs3.toList (((w.alloc (.cells cs1 t1)).alloc (.cells cs2 t2)).alloc (.cells cs3 t3)):=by
 obtain⟨h1,h2,h3,h4⟩:=Two.new w t1 t2 cs1 cs2;have k:=Blk.new ((w.alloc (.cells cs1 t1)).alloc (.cells cs2 t2)) t3 cs3;rw[h4] at k;exact⟨h1.alloc _,h2.alloc _,k,h3.alloc (by omega) _,by show (Array.push _ _).size=_;rw[Array.size_push,h4]⟩
theorem below_at {B C:Nat} {w w':World} (h:Below B w w') (hC:B≤C) (x y z:Value):Below B w (((w'.setCell ⟨C,0,none⟩ x).setCell ⟨C,1,none⟩ y).setCell ⟨C,2,none⟩ z):=
 ((h.setCell (p:=⟨C,0,none⟩) hC _).setCell (p:=⟨C,1,none⟩) hC _).setCell (p:=⟨C,2,none⟩) hC _
theorem svalue_any (a:Ra) (w:World) (hn:a.num.size≤536870912) (hd:a.den.size≤536870912):
  Calls Tryz.prog 176 #[a.v] w fun e w'=>e=.returned (valR a).v∧Below w.heap.size w w':=by
 have HR:=zH (fun w=>sRight_any a w hn hd);have HV:Hid (valR a=if okR a then a else ofI 0):=rfl;obtain⟨o,ho⟩:=zF (okR a);rw[ho] at HR HV;clear ho hn hd;generalize valR a=va at*;obtain⟨neg,num,den⟩:=a;unfold Ra.v at HR⊢;obtain⟨W,hW⟩:=zE ((w.alloc (.cells #[.bool neg,.string num,.string den] 44)).alloc (.cells #[.bool false,.string ⟨#[]⟩,.string ⟨#[]⟩] 44));have htwo:=Two.new w 44 44 #[.bool neg,.string num,.string den] #[.bool false,.string ⟨#[]⟩,.string ⟨#[]⟩];rw[←hW] at htwo;obtain⟨hk0,hk1,hba,hsz⟩:=htwo;obtain⟨B,hB⟩:=zE w.heap.size;have HB:=zH hB;rw[←hB] at hba hsz hk0 hk1;have hc0:=hk0.cells;cases o
 all_goals
  go_enter Tryz.func176,Tryz.ntmps176;go_wp2_with fail;simp only[←hW,←hB]
  clear hW hB;refine (HR.out _).mono ?_;rintro e w1 ⟨rfl,hb1⟩;have hk0':=hk0.below hb1 hk0.lt;have hk1':=hk1.below hb1 hk1.lt;have hB1:Below B w w1:=hba.trans (hb1.mono (by omega));have hc1:=hk0'.cells;have hc2:=hk1'.cells;have hf2:=hk1'.froz
 ·go_wp2_with fail;refine (rOf_one _).mono ?_;rintro e w2 ⟨rfl,hb2⟩;have hk1'':=hk1'.below hb2 hk1'.lt;have hB2:Below B w w2:=hB1.trans (hb2.mono (Nat.le_of_lt hk0'.lt));have hc3:=hk1''.cells;have hf3:=hk1''.froz;go_wp2;refine bodyPost_ret (v:=.agg #[.bool false,.string ⟨#[]⟩,.string (nbs 1)]) (by simp[results,Tryz.results176,go_sem,hc3]) rfl ⟨by rw[HV.out];rfl,?_⟩;rw[←HB.out];exact below_at hB2 (Nat.le_succ _) _ _ _
 ·go_wp2;refine bodyPost_ret (v:=.agg #[.bool neg,.string num,.string den]) (by simp[results,Tryz.results176,go_sem,hc2]) rfl ⟨by rw[HV.out];rfl,?_⟩;rw[←HB.out];exact below_at hB1 (Nat.le_succ _) _ _ _
theorem sOf_any (n:Int) (w:World) (h0:-9223372036854775808≤n) (h1:n≤9223372036854775807):
  Calls Tryz.prog 28 #[.int .i64 n] w fun e w'=>e=.returned (ofI n).v∧Below w.heap.size w w':=by
 obtain⟨W,hW⟩:=zE (w.alloc (.cells #[.bool false,.string ⟨#[]⟩,.string ⟨#[]⟩] 44));have hba:Below w.heap.size w W:=by rw[hW];exact zB _ _
 have hk0:Blk W w.heap.size 44 [.bool false,.string ⟨#[]⟩,.string ⟨#[]⟩]:=by rw[hW];exact Blk.new w _ _
 have hsz:W.heap.size=w.heap.size+1:=by rw[hW];exact Array.size_push _
 obtain⟨B,hB⟩:=zE w.heap.size;have HB:=zH hB;rw[←hB] at hba hsz hk0;by_cases hn:n<0
 ·have HO:Hid (ofI n=⟨true,nbs (n+1).natAbs.succ,nbs 1⟩):=by
   show _=_;unfold ofI;rw[decide_eq_true hn,show n.natAbs=(n+1).natAbs.succ from by omega]
  have HA:=zH (fun w=>rAdd_any (nbs (n+1).natAbs) (nbs 1) w (Nat.le_trans (nbs_size_le _ 9 (by omega)) (by omega)) (Nat.le_trans (nbs_size_le _ 9 (by omega)) (by omega)));rw[vbs_nbs,vbs_nbs] at HA;have hneg:IntKind.i64.wrap (-(n+1))= -(n+1):=IntWalk.i64_in _ (by omega);have hng:(-(n+1)).toNat=(n+1).natAbs:=by omega
  go_enter Tryz.func28,Tryz.ntmps28;go_wp2_with fail;simp only[←hW,←hB]
  clear hW hB;refine (rOf_any _ _ (by omega) (by omega)).mono ?_;rintro e w1 ⟨rfl,hb1⟩;go_wp2_with fail;refine (rOf_one _).mono ?_;rintro e w2 ⟨rfl,hb2⟩
  try rw[hng]
  go_wp2_with fail;refine (HA.out _).mono ?_;rintro e w3 ⟨rfl,hb3⟩;go_wp2_with fail;refine (rOf_one _).mono ?_;rintro e w4 ⟨rfl,hb4⟩;have hb14:=bstep (bstep (bstep hb1 hb2) hb3) hb4;have hk3:=hk0.below hb14 hk0.lt;have hc:=hk3.cells;have hf:=hk3.froz;have HBW:=zH (hba.trans (hb14.mono (Nat.le_of_lt hk0.lt)));clear hb1 hb2 hb3 hb4 hb14;go_wp2;refine bodyPost_ret (v:=.agg #[.bool true,.string (nbs ((n+1).natAbs+1)),.string (nbs 1)]) (by simp[results,Tryz.results28,go_sem,hc]) rfl ⟨?_,by rw[←HB.out];exact below_set3 HBW.out _ _ _⟩;rw[HO.out];rfl
 ·have HO:Hid (ofI n=⟨false,nbs n.toNat,nbs 1⟩):=by
   show _=_;unfold ofI;rw[decide_eq_false hn,show n.natAbs=n.toNat from by omega]
  go_enter Tryz.func28,Tryz.ntmps28;go_wp2_with fail;simp only[←hW,←hB]
  clear hW hB;refine (rOf_any _ _ (by omega) (by omega)).mono ?_;rintro e w1 ⟨rfl,hb1⟩;go_wp2_with fail;refine (rOf_one _).mono ?_;rintro e w2 ⟨rfl,hb2⟩;have hb14:=bstep hb1 hb2;have hk3:=hk0.below hb14 hk0.lt;have hc:=hk3.cells;have hf:=hk3.froz;have HBW:=zH (hba.trans (hb14.mono (Nat.le_of_lt hk0.lt)));clear hb1 hb2 hb14;go_wp2;refine bodyPost_ret (v:=.agg #[.bool false,.string (nbs n.toNat),.string (nbs 1)]) (by simp[results,Tryz.results28,go_sem,hc]) rfl ⟨?_,by rw[←HB.out];exact below_set3 HBW.out _ _ _⟩;rw[HO.out];rfl
theorem wtmod_ways (a m:Int) (hm:0<m):(0≤a.tmod m∧a % m=a.tmod m)∨(a.tmod m<0∧a % m=a.tmod m+m):=by
 by_cases ha:0≤a
 ·left
  rw[Int.tmod_eq_emod_of_nonneg ha];exact⟨Int.emod_nonneg _ (by omega),rfl⟩
 ·have h1:a.tmod m= -((-a) % m):=by
   have h2:=Int.neg_tmod (-a) m;rw[Int.neg_neg] at h2;rw[h2,Int.tmod_eq_emod_of_nonneg (show 0≤ -a by omega)]
  rw[h1];have hr0:=Int.emod_nonneg (-a) (show m≠0 by omega);have hr1:=Int.emod_lt_of_pos (-a) hm;have hd:=Int.mul_ediv_add_emod (-a) m;generalize (-a) % m=r at*;generalize (-a) / m=q at*;by_cases hz:r=0
  ·left
   refine⟨by omega,?_⟩;have:a=m*(-q):=by rw[Int.mul_neg];omega
   rw[this,Int.mul_emod_right];omega
  ·right
   refine⟨by omega,?_⟩;have:a=(m-r)+m*(-q-1):=by rw[Int.mul_sub,Int.mul_neg,Int.mul_one];omega
   rw[this,Int.add_mul_emod_self_left,Int.emod_eq_of_lt (by omega) (by omega)];omega
theorem wMod_any (a m:Int) (w:World) (h0:-9223372036854775808≤a) (h1:a≤9223372036854775807) (hm:0<m) (hm2:m≤9223372036854775807):
  Calls Tryz.prog 13 #[.int .i64 a,.int .i64 m] w fun e w'=>e=.returned (.int .i64 (a % m))∧w=w':=by
 have hb:-9223372036854775808≤a.tmod m∧a.tmod m≤9223372036854775807:=by
  have h2:=Int.emod_nonneg a (show m≠0 by omega);have h3:=Int.emod_lt_of_pos a hm;rcases wtmod_ways a m hm with⟨h4,h5⟩|⟨h4,h5⟩<;>omega
 have hmz:(m==0)=false:=by rw[beq_eq_false_iff_ne];omega
 have hmz':¬m=0:=by omega
 have hw:IntKind.i64.wrap (a.tmod m)=a.tmod m:=IntWalk.i64_in _ (by omega);have hlt:=Int.emod_lt_of_pos a hm;rcases wtmod_ways a m hm with⟨h4,h5⟩|⟨h4,h5⟩
 ·have HV:=zH h5;clear h5 hlt;go_enter Tryz.func13,Tryz.ntmps13;go_wp2;go_ret;exact⟨by rw[HV.out];rfl,rfl⟩
 ·have HV:=zH h5;have h6:=Int.emod_nonneg a (show m≠0 by omega);have hw2:IntKind.i64.wrap (a.tmod m+m)=a.tmod m+m:=IntWalk.i64_in _ (by omega);clear h5 hlt h6;go_enter Tryz.func13,Tryz.ntmps13;go_wp2;go_ret;exact⟨by rw[HV.out];rfl,rfl⟩
def zvs (l:List Int):List Value:=l.map (Value.int .i64)
structure Dw (w:World) (D:Nat) (A:Option Addr) (n c:Nat) (L:List Int) (k:Nat):Prop where
 blk:Blk w D 91 [.slice A n c,.int .i64 k]
 len:n=L.length
 max:n≤maxLen
 rd:Rd w A (zvs L)
 rng:∀x∈L,-9223372036854775808≤x∧x≤9223372036854775807
 ne:L≠[]→∀ad,A=some ad→ad.block≠D
 le:k≤n
def DS (w:World) (D u:Nat):Prop:=∃A n c L k,Dw w D A n c L k∧D<u∧(L≠[]→∀ad,A=some ad→ad.block<u)
theorem DS.lt {w:World} {D u:Nat} (h:DS w D u):D<w.heap.size:=by obtain⟨_,_,_,_,_,h,_⟩:=h;exact h.blk.lt
theorem DS.below {w w':World} {D u:Nat} (h:DS w D u) (hb:Below w.heap.size w w'):DS w' D u:=by
 obtain⟨A,n,c,L,k,h,hu⟩:=h;exact⟨A,n,c,L,k,⟨h.blk.below hb h.blk.lt,h.len,h.max,h.rd.below hb,h.rng,h.ne,h.le⟩,hu⟩
theorem DS.set {w:World} {D u B:Nat} (h:DS w D u) (hB:u≤B) (i:Nat) (x:Value):DS (w.setCell ⟨B,i,none⟩ x) D u:=by
 obtain⟨A,n,c,L,k,h,hu,ha⟩:=h;have ho:Onl B w (w.setCell ⟨B,i,none⟩ x):=(Onl.refl _ _).set i x;refine⟨A,n,c,L,k,⟨ho.blk h.blk (by omega),h.len,h.max,?_,h.rng,h.ne,h.le⟩,hu,ha⟩;rcases h.rd with h0|⟨b',off',e,hb,hc⟩
 ·exact .inl h0
 ·subst e;by_cases hL:L=[]
  ·exact .inl (by rw[hL];rfl)
  ·have h9:b'<u:=ha hL _ rfl;exact ho.rd (.inr ⟨b',off',rfl,hb,hc⟩) (by show b'≠B;omega)
theorem next_any (w:World) (D u:Nat) (m:Int) (h:DS w D u) (h1:1≤m) (h2:m≤1000000):Calls Tryz.prog 71 #[.pointer (some ⟨D,0,none⟩),.int .i64 m] w fun e w'=>∃r:Nat,(r:Int)<m∧e=.returned (.int .i64 r)∧DS w' D u∧Onl D w w':=by
 obtain⟨A,n,c,L,k,h,hu⟩:=h;have HU:=zH hu;clear hu;have HW:=zH h;have hkc:=h.blk.cells;have hkf:=h.blk.froz;have hmx:=h.max;have hkn:=h.le;unfold maxLen at hmx;by_cases hlt:k<n
 ·have hlen:=h.len;have hl:k<L.length:=by omega
  obtain⟨b,o,rfl,hb,hc⟩:=h.rd.at_ (k:=k) (by unfold zvs;rw[List.length_map];exact hl)
  have hcx:w.cell? ⟨b,o+k,none⟩=some (.int .i64 L[k]):=by
   have:=hc k (by unfold zvs;rw[List.length_map];exact hl);rw[this];unfold zvs;rw[List.getElem_map]
  have hne:=h.ne (by rintro rfl;exact absurd hl (by simp)) ⟨b,o,none⟩ rfl;have hrg:=h.rng _ (List.getElem_mem hl);have HM:=zH (fun W=>wMod_any L[k] m W hrg.1 hrg.2 (by omega) (by omega));have HR:Hid (∃r:Nat,(r:Int)<m∧L[k] % m=r):=⟨(L[k] % m).toNat,by have:=Int.emod_lt_of_pos L[k] (show 0<m by omega);have:=Int.emod_nonneg L[k] (show m≠0 by omega);omega,by have:=Int.emod_nonneg L[k] (show m≠0 by omega);omega⟩
  obtain⟨r,hr,hre⟩:=HR.out;rw[hre] at HM;have HRM:=zH hr;have HRE:=zH hre;have hlt':¬(k:Int)≥n:=by omega
  have hbD:¬b=D:=hne;have hbD':¬D=b:=fun e=>hne e.symm
  have hk0:(0:Int)≤(k:Int):=by omega
  have hk1:(k:Int)<n:=by omega
  have hkL:k+1≤L.length:=hl;clear hr hre h hc hne;obtain⟨x,hx⟩:=zF (L[k]);simp only[hx] at HM HRE hcx hrg;clear HR hrg hx hl hlen hkL;go_enter Tryz.func71,Tryz.ntmps71
  go_upto_region 1 with fail
  go_quiet (fail);generalize hwq:w.drewN _=wq;have HQ:Hid (Below w.heap.size w wq):=by show Below _ _ _;rw[←hwq];exact drewN_below _ _ _
  have HKQ:Hid (Blk wq D 91 [.slice (some ⟨b,o,none⟩) n c,.int .i64 k]):=HW.out.blk.below HQ.out HW.out.blk.lt;have hbx:wq.cell? ⟨b,o+k,none⟩=some (.int .i64 x):=(HQ.out.cell (p:=⟨b,o+k,none⟩) hb).trans hcx;clear hwq hkc hkf hcx;have hkc:=HKQ.out.cells;have hkf:=HKQ.out.froz
  go_upto_region 4 with fail
  have hk2:Blk (wq.setCell ⟨D,1,none⟩ (.int .i64 ((k:Int)+1))) D 91 [.slice (some ⟨b,o,none⟩) n c,.int .i64 ((k:Int)+1)]:=HKQ.out.set 1 _;have hbx2:(wq.setCell ⟨D,1,none⟩ (.int .i64 ((k:Int)+1))).cell? ⟨b,o+k,none⟩=some (.int .i64 x):=by rw[World.cell?_setCell_other _ _ _ _ (by simp[hbD,hbD'])];exact hbx
  have HO2:Hid (Onl D w (wq.setCell ⟨D,1,none⟩ (.int .i64 ((k:Int)+1)))):=(Onl.of_below HQ.out).set 1 _;have HK2:=zH hk2
  have HDS:Hid (∀W,Below (wq.setCell ⟨D,1,none⟩ (.int .i64 ((k:Int)+1))).heap.size (wq.setCell ⟨D,1,none⟩ (.int .i64 ((k:Int)+1))) W→DS W D u):=fun W hW=>by
   refine DS.below ⟨some ⟨b,o,none⟩,n,c,L,k+1,⟨hk2,HW.out.len,HW.out.max,?_,HW.out.rng,HW.out.ne,by omega⟩,HU.out⟩ hW;exact HO2.out.rd HW.out.rd hbD
  generalize wq.setCell ⟨D,1,none⟩ (.int .i64 ((k:Int)+1))=w2 at*;clear hkc hkf hbx HQ HKQ hk2;have hkc:=HK2.out.cells;go_quiet ((go_at_call 13;refine Calls.quiet_of_same ((HM.out _).mono (fun _ _ h=>⟨h.1,h.2.symm⟩))));go_wp2;go_ret;exact⟨r,HRM.out,rfl,HDS.out _ (drewN_below _ _ _),HO2.out.drewN _⟩
 ·have hge:(n:Int)≤(k:Int):=by omega
  clear h;go_enter Tryz.func71,Tryz.ntmps71
  go_upto_region 1 with fail
  go_quiet (fail);go_wp2;go_ret;exact⟨0,by omega,rfl,DS.below ⟨A,n,c,L,k,HW.out,HU.out⟩ (drewN_below _ _ _),(Onl.refl _ _).drewN _⟩
structure Sh where
 word:List UInt8
 ops:Nat
 lit:Bool
 nam:Bool
 stp:Bool
def sh0:Sh:=⟨[],0,false,false,false⟩
def shs:List Sh:=[sh0,⟨[36],0,true,false,false⟩,⟨[],0,true,false,false⟩,⟨[],0,true,false,false⟩,⟨[],0,true,false,false⟩,
 ⟨[102,97,99,116,46],0,false,true,false⟩,⟨[111,119,110,46],0,false,true,false⟩,⟨[112,114,105,111,114,46],0,false,true,false⟩,⟨[115,112,111,117,115,101,46],0,false,true,false⟩,
 ⟨[97,100,100],2,false,false,false⟩,⟨[115,117,98],2,false,false,false⟩,⟨[109,117,108],2,false,false,false⟩,⟨[100,105,118],2,false,false,false⟩,⟨[109,105,110],2,false,false,false⟩,⟨[109,97,120],2,false,false,false⟩,
 ⟨[105,102],3,false,false,false⟩,⟨[108,101,115,115],2,false,false,false⟩,⟨[101,113,117,97,108],2,false,false,false⟩,⟨[97,110,100],2,false,false,false⟩,⟨[111,114],2,false,false,false⟩,⟨[110,111,116],1,false,false,false⟩,
 ⟨[100,111,119,110],1,false,false,true⟩,⟨[117,112],1,false,false,true⟩,⟨[110,101,97,114],1,false,false,true⟩,⟨[114,97,116,101,46],1,false,true,false⟩]
def shp (op:Int):Sh:=shs.getD op.toNat sh0
structure Nd where
 op:Int
 num:Ra
 name:ByteArray
deriving DecidableEq
def Nd.cells (n:Nd):List Value:=[.int .i64 n.op,.bool n.num.neg,.string n.num.num,.string n.num.den,.string n.name]
def Nd.v (n:Nd):Value:=.agg #[.int .i64 n.op,.bool n.num.neg,.string n.num.num,.string n.num.den,.string n.name]
def zR:Ra:=⟨false,⟨#[]⟩,⟨#[]⟩⟩
def letterC (c:UInt8):Bool:=decide (97≤c.toNat)&&decide (c.toNat≤122)
def digitC (c:UInt8):Bool:=decide (48≤c.toNat)&&decide (c.toNat≤57)
def nameC (c:UInt8):Bool:=letterC c||digitC c||decide (c.toNat=95)
def nameB (l:List UInt8):Bool:=(match l with|[]=>false|c::_=>letterC c)&&decide (l.length≤20)&&l.all nameC
def fitsR (a:Ra):Bool:=okR a&&decide (bitsN (vbs a.num)≤400)&&decide (bitsN (vbs a.den)≤400)
def numOk (n:Nd):Bool:=
 if n.op=4 then decide (n.num=ofI 0)||decide (n.num=ofI 1)
 else if (shp n.op).lit then fitsR n.num
 else if (shp n.op).stp then fitsR n.num&&decide (0<signR n.num)
 else decide (n.num=zR)
def wrongN (n:Nd):Int:=
 if n.op<1∨24<n.op∨((shp n.op).nam=false∧n.name≠⟨#[]⟩)∨numOk n=false then 11
 else if (shp n.op).nam&& !nameB n.name.data.toList then 12 else 0
def chk:List Nd→Nat→Int
 |[],d=>if d=1 then 0 else 11
 |n::r,d=>if wrongN n≠0 then wrongN n else if d<(shp n.op).ops then 11 else chk r (d-(shp n.op).ops+1)
def checkE (e:List Nd):Int:=if 60<e.length then 2 else chk e 0
def Ex:Nat→List Nd→Prop
 |0,_=>False
 |k+1,e=>∃(cs:List (List Nd)) (n:Nd),e=cs.flatten++[n]∧wrongN n=0∧cs.length=(shp n.op).ops∧∀a∈cs,Ex k a
theorem Ex.succ {k:Nat}:∀{e:List Nd},Ex k e→Ex (k+1) e:=by
 induction k with
 |zero=>intro e h;exact h.elim
 |succ k ih=>
  rintro e ⟨cs,n,he,hn,hl,ha⟩;exact⟨cs,n,he,hn,hl,fun a h=>ih (ha a h)⟩
theorem Ex.mono {k k':Nat} {e:List Nd} (h:Ex k e) (hk:k≤k'):Ex k' e:=by
 induction hk with
 |refl=>exact h
 |step _ ih=>exact ih.succ
theorem chk_flat (k:Nat) (ih:∀e:List Nd,Ex k e→∀r d,chk (e++r) d=chk r (d+1)) (cs:List (List Nd)) (ha:∀a∈cs,Ex k a) (r:List Nd) (d:Nat):
  chk (cs.flatten++r) d=chk r (d+cs.length):=by
 induction cs generalizing d with
 |nil=>rfl
 |cons a cs iha=>
  rw[List.flatten_cons,List.append_assoc,ih a (ha a (by simp)),iha (fun x hx=>ha x (by simp[hx]))];rw[List.length_cons];congr 1;omega
theorem chk_ex (k:Nat):∀e:List Nd,Ex k e→∀r d,chk (e++r) d=chk r (d+1):=by
 induction k with
 |zero=>intro e h;exact h.elim
 |succ k ih=>
  rintro e ⟨cs,n,rfl,hn,hl,ha⟩ r d;rw[List.append_assoc,chk_flat k ih cs ha];show chk (n::r) _=_;rw[chk,if_neg (by rw[hn];simp),if_neg (by omega)];congr 1;omega
theorem ex_chk (e:List Nd):∀(K:Nat) (st:List (List Nd)),(∀a∈st,Ex K a)→chk e st.length=0→∃k,Ex k (st.reverse.flatten++e):=by
 induction e with
 |nil=>
  intro K st hs h
  match st,h with
  |[a],_=>exact⟨K,by simpa using hs a (by simp)⟩
  |[],h=>simp[chk] at h
  |a::b::l,h=>simp[chk] at h
 |cons n r ih=>
  intro K st hs h;rw[chk] at h;split at h
  ·next h1=>exact absurd h h1
  ·next h1=>
   split at h
   ·cases h
   ·next h2=>
    have hn:wrongN n=0:=by simpa using h1
    have hE:Ex (K+1) ((st.take (shp n.op).ops).reverse.flatten++[n]):=
     ⟨(st.take (shp n.op).ops).reverse,n,rfl,hn,by simp;omega,fun a ha=>hs a (List.mem_of_mem_take (by simpa using ha))⟩
    obtain⟨k,hk⟩:=ih (K+1) (((st.take (shp n.op).ops).reverse.flatten++[n])::st.drop (shp n.op).ops)
     (by intro a ha;rcases List.mem_cons.1 ha with rfl|ha
         ·exact hE
         ·exact (hs a (List.mem_of_mem_drop ha)).succ)
     (by rw[List.length_cons,List.length_drop];exact h)
    refine⟨k,?_⟩
    have e1:st.reverse.flatten=(st.drop (shp n.op).ops).reverse.flatten++(st.take (shp n.op).ops).reverse.flatten:=by
     rw[←List.flatten_append,←List.reverse_append,List.take_append_drop]
    rw[e1];simpa using hk
def IsE (e:List Nd):Prop:=∃k,Ex k e
theorem checkE_iff (e:List Nd):checkE e=0↔e.length≤60∧IsE e:=by
 unfold checkE;constructor
 ·intro h;split at h
  ·cases h
  ·next h1=>
   obtain⟨k,hk⟩:=ex_chk e 0 [] (by simp) h;exact⟨by omega,k,by simpa using hk⟩
 ·rintro⟨h1,k,hk⟩;rw[if_neg (by omega)];have:=chk_ex k e hk [] 0;rw[List.append_nil] at this;rw[this];rfl
def joinC:List (List UInt8)→List UInt8
 |[]=>[]
 |a::l=>if l.isEmpty then a else a++[44,32]++joinC l
def txt (n:Nd) (ops:List (List UInt8)):List UInt8:=
 if n.op=4 then (if n.num.num=⟨#[]⟩ then [110,111] else [121,101,115])
 else (shp n.op).word++n.name.data.toList++(if (shp n.op).lit then (textR n.num).data.toList else [])++(if n.op=2 then [100] else [])
  ++(if (shp n.op).stp then [91]++(textR n.num).data.toList++[93] else [])++(if (shp n.op).ops=0 then [] else [40]++joinC ops++[41])
def pshT (st:List (List UInt8)) (n:Nd):List (List UInt8):=txt n (st.take (shp n.op).ops).reverse::st.drop (shp n.op).ops
def runT (e:List Nd) (st:List (List UInt8)):List (List UInt8):=e.foldl pshT st
def textE (e:List Nd):List UInt8:=(runT e []).headD []
theorem runT_append (a b:List Nd) (st:List (List UInt8)):runT (a++b) st=runT b (runT a st):=List.foldl_append
theorem runT_flat (k:Nat) (ih:∀e:List Nd,Ex k e→∀st,runT e st=textE e::st) (cs:List (List Nd)) (ha:∀a∈cs,Ex k a) (st:List (List UInt8)):
  runT cs.flatten st=(cs.map textE).reverse++st:=by
 induction cs generalizing st with
 |nil=>rfl
 |cons a cs iha=>
  rw[List.flatten_cons,runT_append,ih a (ha a (by simp)),iha (fun x hx=>ha x (by simp[hx]))];simp
theorem runT_node (cs:List (List Nd)) (n:Nd) (hl:cs.length=(shp n.op).ops) (h:∀st,runT cs.flatten st=(cs.map textE).reverse++st) (st:List (List UInt8)):
  runT (cs.flatten++[n]) st=txt n (cs.map textE)::st:=by
 rw[runT_append,h];show pshT ((cs.map textE).reverse++st) n=_;unfold pshT;have h1:((cs.map textE).reverse).length=(shp n.op).ops:=by simp[hl]
 rw[List.take_left' h1,List.drop_left' h1,List.reverse_reverse]
theorem textE_of {cs:List (List Nd)} {n:Nd} (h:runT (cs.flatten++[n]) []=txt n (cs.map textE)::[]):textE (cs.flatten++[n])=txt n (cs.map textE):=by
 unfold textE at h⊢;rw[h];rfl
theorem runT_ex (k:Nat):∀e:List Nd,Ex k e→∀st,runT e st=textE e::st:=by
 induction k with
 |zero=>intro e h;exact h.elim
 |succ k ih=>
  rintro e ⟨cs,n,rfl,hn,hl,ha⟩ st;have h1:=runT_node cs n hl (runT_flat k ih cs ha);rw[h1,textE_of (h1 [])]
theorem textE_node {k:Nat} {cs:List (List Nd)} {n:Nd} (hl:cs.length=(shp n.op).ops) (ha:∀a∈cs,Ex k a):textE (cs.flatten++[n])=txt n (cs.map textE):=
 textE_of (runT_node cs n hl (runT_flat k (runT_ex k) cs ha) [])
def runA:List Nd→Nat→List Nat→List (List Nat)
 |[],_,_=>[]
 |n::r,k,st=>(st.take (shp n.op).ops).reverse::runA r (k+1) (k::st.drop (shp n.op).ops)
def argsE (e:List Nd):List (List Nat):=runA e 0 []
theorem runA_length (e:List Nd) (o:Nat) (st:List Nat):(runA e o st).length=e.length:=by
 induction e generalizing o st with
 |nil=>rfl
 |cons n r ih=>rw[runA,List.length_cons,ih,List.length_cons]
def roots:Nat→List (List Nd)→List Nat
 |_,[]=>[]
 |o,a::cs=>(o+a.length-1)::roots (o+a.length) cs
def flatA:Nat→List (List Nd)→List (List Nat)
 |_,[]=>[]
 |o,a::cs=>runA a o []++flatA (o+a.length) cs
theorem roots_length (o:Nat) (cs:List (List Nd)):(roots o cs).length=cs.length:=by
 induction cs generalizing o with
 |nil=>rfl
 |cons a cs ih=>rw[roots,List.length_cons,ih,List.length_cons]
theorem runA_flat (k:Nat) (ih:∀e:List Nd,Ex k e→∀o st r,runA (e++r) o st=runA e o []++runA r (o+e.length) ((o+e.length-1)::st))
  (cs:List (List Nd)) (ha:∀a∈cs,Ex k a) (o:Nat) (st:List Nat) (r:List Nd):
  runA (cs.flatten++r) o st=flatA o cs++runA r (o+cs.flatten.length) ((roots o cs).reverse++st):=by
 induction cs generalizing o st with
 |nil=>rfl
 |cons a cs iha=>
  rw[List.flatten_cons,List.append_assoc,ih a (ha a (by simp)),iha (fun x hx=>ha x (by simp[hx])),flatA,roots,List.append_assoc,List.length_append,Nat.add_assoc];simp
theorem runA_node {cs:List (List Nd)} {n:Nd} (hl:cs.length=(shp n.op).ops) (o:Nat)
  (h:∀st r,runA (cs.flatten++r) o st=flatA o cs++runA r (o+cs.flatten.length) ((roots o cs).reverse++st)) (st:List Nat) (r:List Nd):
  runA (cs.flatten++[n]++r) o st=flatA o cs++[roots o cs]++runA r (o+(cs.flatten++[n]).length) ((o+(cs.flatten++[n]).length-1)::st):=by
 rw[List.append_assoc,h,List.append_assoc];congr 1;show runA (n::r) _ _=_;have h1:((roots o cs).reverse).length=(shp n.op).ops:=by rw[List.length_reverse,roots_length,hl]
 rw[runA,List.take_left' h1,List.drop_left' h1,List.reverse_reverse];simp only[List.length_append,List.length_cons,List.length_nil,List.cons_append,List.nil_append]
 rfl
theorem runA_ex (k:Nat):∀e:List Nd,Ex k e→∀o st r,runA (e++r) o st=runA e o []++runA r (o+e.length) ((o+e.length-1)::st):=by
 induction k with
 |zero=>intro e h;exact h.elim
 |succ k ih=>
  rintro e ⟨cs,n,rfl,hn,hl,ha⟩ o st r;have h1:=runA_node hl o (runA_flat k ih cs ha o);have h2:=h1 [] [];rw[List.append_nil] at h2;rw[h1,h2];simp[runA]
theorem argsAt_node {k:Nat} {cs:List (List Nd)} {n:Nd} (hl:cs.length=(shp n.op).ops) (ha:∀a∈cs,Ex k a) (o:Nat):
  runA (cs.flatten++[n]) o []=flatA o cs++[roots o cs]:=by
 have h2:=runA_node hl o (runA_flat k (runA_ex k) cs ha o) [] [];rw[List.append_nil] at h2;rw[h2];simp[runA]
theorem emp_nil (s:ByteArray):s.toList.isEmpty=true↔s=⟨#[]⟩:=by
 have e0:(⟨#[]⟩:ByteArray).toList=[]:=by rw[ByteArray.toList_eq]
 rw[List.isEmpty_iff];exact⟨fun h=>toList_inj (by rw[h,e0]),fun h=>by rw[h,e0]⟩
end Go.Proofs.YtkgiaegmkncljaaGreatDoor
