/- A part of the proof: S1 S2 E1 S3. -/
import Derived.Test.YtgfeadgafdijaaaGreatDoorJ01
import Derived.Test.YtgfeadgafdijaaaGreatDoorJ15
set_option linter.unusedVariables false
set_option linter.unusedSimpArgs false
set_option maxRecDepth 100000
set_option maxHeartbeats 40000000
namespace Go.Proofs.YtgfeadgafdijaaaGreatDoor
open Go.RowKit
theorem QW (n m K:Nat) (w:World) (hK:K≤1073741824) (hn:n<256 ^ K) (hm:m<256 ^ K) (h0:0<m):
  Calls Tryz.prog 167 #[.string (aB n),.string (aB m)] w fun e w'=>
   e=.returned (.tuple #[.string (aB (n / m)),.string (aB (n % m)),.bool true])∧Below w.heap.size w w':=by
 refine (ND (aB n) (aB m) w (Nat.le_trans (aV _ _ hn) hK) (Nat.le_trans (aV _ _ hm) hK)).mono ?_;rintro e w' ⟨rfl,hb⟩;rw[aX,aX];have p0:¬(m=0):=by omega
 rw[if_neg p0,if_neg p0,show (m !=0)=true from by simp[p0]];exact⟨rfl,hb⟩
theorem abt (n m K:Nat) (w:World) (hK:K≤1073741824) (hn:n<256 ^ K) (hm:m<256 ^ K):
  Calls Tryz.prog 126 #[.string (aB n),.string (aB m)] w fun e w'=>e=.returned (.string (aB (Nat.gcd n m)))∧Below w.heap.size w w':=by
 have:=NG (aB n) (aB m) w (Nat.le_trans (aV _ _ hn) hK) (Nat.le_trans (aV _ _ hm) hK);rwa[aX,aX] at this
theorem pR (w:World):Calls Tryz.prog 24 #[.int .i64 1] w fun e w'=>e=.returned (.string (aB 1))∧Below w.heap.size w w':=pJ 1 w (by omega) (by omega)
theorem QY (n:Nat) (b:Bool) (h:decide (n=0)=b):(aB n).toList.isEmpty=b:=by rw[uQ,h]
theorem Fq (neg:Bool) (n d K:Nat) (w:World) (hK:K≤1073741824) (hn:n<256 ^ K) (hd:d<256 ^ K) (h0:0<d):
  Calls Tryz.prog 172 #[.bool neg,.string (aB n),.string (aB d)] w fun e w'=>e=.returned (low neg n d).v∧Below w.heap.size w w':=by
 have hg:0<Nat.gcd n d:=Nat.gcd_pos_of_pos_right _ h0;have hgd:Nat.gcd n d≤d:=Nat.gcd_le_right _ h0;have HG:=zH (fun w=>abt n d K w hK hn hd);have ji:=zH (fun w=>QW n (Nat.gcd n d) K w hK hn (by omega) hg);have tN:=zH (fun w=>QW d (Nat.gcd n d) K w hK hd (by omega) hg);have Jv:Hid (low neg n d=⟨neg&&decide (n≠0),aB (n / Nat.gcd n d),aB (d / Nat.gcd n d)⟩):=rfl
 have HZ:Hid (n=0→low neg n d=⟨false,aB 0,aB 1⟩):=by
  intro h;subst h;rw[Jv.out];simp[Nat.div_self h0]
 obtain⟨B,hB⟩:=zE w.heap.size;obtain⟨W,hW⟩:=zE (w.alloc (.cells #[.bool false,.string ⟨#[]⟩,.string ⟨#[]⟩] 40));have hba:Below w.heap.size w W:=by rw[hW];exact zB _ _
 have hblk:aj W w.heap.size 40 [.bool false,.string ⟨#[]⟩,.string ⟨#[]⟩]:=by rw[hW];exact aj.new w _ _
 rw[←hB] at hblk hba;have HB:=zH hB;obtain⟨r,hr⟩:=zF (low neg n d);rw[hr] at Jv HZ⊢;clear hr hg hgd hn hd;by_cases hz:n=0
 ·have HZ:=zH (HZ.out hz);have he:=QY n true (by simp[hz]);clear hz;go_enter Tryz.func172,Tryz.ntmps172;go_wp2_with fail;simp only[←hW,←hB]
  clear hW hB;refine (pR _).mono ?_;rintro e w1 ⟨rfl,hb1⟩;have hk:=hblk.below hb1 hblk.lt;have hc:=hk.cells;have hf:=hk.aF;have bF:=zH (hba.trans (hb1.mono (Nat.le_of_lt hblk.lt)));clear hb1 hba hk;go_wp2;refine bodyPost_ret (v:=.agg #[.bool false,.string ⟨#[]⟩,.string (aB 1)]) (by simp[results,Tryz.results172,go_sem,hc]) rfl ⟨?_,?_⟩
  ·rw[HZ.out];rfl
  ·rw[←HB.out];exact iV bF.out _ _ _
 ·have he:=QY n false (by simp[hz]);go_enter Tryz.func172,Tryz.ntmps172;go_wp2_with fail;simp only[←hW,←hB]
  clear hW hB;refine (HG.out _).mono ?_;rintro e w1 ⟨rfl,hb1⟩;go_wp2_with fail;refine (ji.out _).mono ?_;rintro e w2 ⟨rfl,hb2⟩;go_wp2_with fail;refine (tN.out _).mono ?_;rintro e w3 ⟨rfl,hb3⟩;have hb:=ah (ah hb1 hb2) hb3;have hk:=hblk.below hb hblk.lt;have hc:=hk.cells;have hf:=hk.aF;have bF:=zH (hba.trans (hb.mono (Nat.le_of_lt hblk.lt)));clear hb1 hb2 hb3 hb hba hk;go_wp2;refine bodyPost_ret (v:=.agg #[.bool neg,.string (aB (n / Nat.gcd n d)),.string (aB (d / Nat.gcd n d))]) (by simp[results,Tryz.results172,go_sem,hc]) rfl ⟨?_,?_⟩
  ·rw[Jv.out];simp[Ra.v,hz]
  ·rw[←HB.out];exact iV bF.out _ _ _
theorem abu (a:Ra):okR a=(dM a.num&&dM a.den&& !a.den.toList.isEmpty&&(if a.num.toList.isEmpty then !a.neg&&decide (fB (aA a.den) (aA (aB 1))=0) else decide (fB (aA (aB (Nat.gcd (aA a.num) (aA a.den)))) (aA (aB 1))=0))):=by
 obtain⟨neg,num,den⟩:=a;unfold okR;simp only
 cases hn:dM num
 ·simp
 cases hd:dM den
 ·simp
 have en:=(iO num).1 hn;have ed:=(iO den).1 hd;rw[aX,aX];generalize aA num=n at*;generalize aA den=d at*;subst en ed
 have hcz:∀x:Nat,(fB x 1=0)↔x=1:=by
  intro x;unfold fB;split
  ·omega
  ·split<;>omega
 rw[uQ,uQ];simp only[hcz,Bool.true_and,Bool.and_true]
 rcases Nat.eq_zero_or_pos d with h0|h0
 ·subst h0;simp
 ·have hd0:¬d=0:=by omega
  simp only[h0,hd0,decide_true,decide_false,Bool.not_false,Bool.true_and]
  have hg:0<Nat.gcd n d:=Nat.gcd_pos_of_pos_right _ h0;by_cases hz:n=0
  ·subst hz;simp only[decide_true,if_true]
   have:low neg 0 d=⟨false,aB 0,aB 1⟩:=by unfold low;simp[Nat.div_self h0]
   rw[this,Bool.eq_iff_iff,decide_eq_true_eq,Bool.and_eq_true,decide_eq_true_eq];constructor
   ·intro h;injection h with h1 h2 h3;exact⟨by rw[←h1];rfl,(EI h3).symm⟩
   ·rintro⟨h1,h2⟩;cases neg
    ·rw[h2]
    ·cases h1
  ·simp only[hz,decide_false,Bool.false_eq_true,if_false]
   rw[decide_eq_decide];unfold low;constructor
   ·intro h;injection h with h1 h2 h3;have h4:=EI h2;have h5:n / Nat.gcd n d*Nat.gcd n d=n:=Nat.div_mul_cancel (Nat.gcd_dvd_left n d);rw[h4] at h5;have h6:n*Nat.gcd n d=n*1:=by rw[h5,Nat.mul_one]
    exact Nat.eq_of_mul_eq_mul_left (by omega) h6
   ·intro h;rw[h,Nat.div_one,Nat.div_one];simp[hz]
theorem wM (a:Ra) (w:World) (hn:a.num.size≤536870912) (hd:a.den.size≤536870912):
  Calls Tryz.prog 82 #[a.v] w fun e w'=>e=.returned (.bool (okR a))∧Below w.heap.size w w':=by
 have iU:=zH (abu a);have HN:=zH (fun w=>Ia a.num w);have HD:=zH (fun w=>Ia a.den w);have HG:=zH (fun w=>NG a.num a.den w (by omega) (by omega))
 have hgs:(aB (Nat.gcd (aA a.num) (aA a.den))).size≤536870912:=by
  rcases Nat.eq_zero_or_pos (aA a.den) with h0|h0
  ·rw[h0,Nat.gcd_zero_right];exact Nat.le_trans (aV _ _ (eX a.num)) hn
  ·exact Nat.le_trans (aV _ a.den.size (Nat.lt_of_le_of_lt (Nat.gcd_le_right _ h0) (eX a.den))) hd
 have BQ:=zH (fun w=>xM a.den (aB 1) w (by omega) (by decide));have HC2:=zH (fun w=>xM (aB (Nat.gcd (aA a.num) (aA a.den))) (aB 1) w (by omega) (by decide));obtain⟨z1,h1⟩:∃z,fB (aA a.den) (aA (aB 1))=z:=⟨_,rfl⟩
 obtain⟨z2,h2⟩:∃z,fB (aA (aB (Nat.gcd (aA a.num) (aA a.den)))) (aA (aB 1))=z:=⟨_,rfl⟩
 rw[h1] at iU BQ;rw[h2] at iU HC2;clear h1 h2 hgs hn hd;generalize aB (Nat.gcd (aA a.num) (aA a.den))=gg at*;obtain⟨ok,hok⟩:∃o,okR a=o:=⟨_,rfl⟩
 rw[hok] at iU⊢;clear hok;obtain⟨neg,num,den⟩:=a;unfold Ra.v;simp only at iU HN HD HG BQ HC2⊢;obtain⟨rn,hrn⟩:∃r,dM num=r:=⟨_,rfl⟩
 obtain⟨rd,hrd⟩:∃r,dM den=r:=⟨_,rfl⟩
 obtain⟨en,hen⟩:∃r,num.toList.isEmpty=r:=⟨_,rfl⟩
 obtain⟨ed,hed⟩:∃r,den.toList.isEmpty=r:=⟨_,rfl⟩
 rw[hrn,hrd,hen,hed] at iU;rw[hrn] at HN;rw[hrd] at HD;clear hrn hrd;obtain⟨W,hW⟩:=zE (w.alloc (.cells #[.bool neg,.string num,.string den] 40));have hba:Below w.heap.size w W:=by rw[hW];exact zB _ _
 have hblk:aj W w.heap.size 40 [.bool neg,.string num,.string den]:=by rw[hW];exact aj.new w _ _
 obtain⟨B,hB⟩:=zE w.heap.size;have HB:=zH hB;rw[←hB] at hblk hba;have hc:=hblk.cells;cases rn
 ·go_enter Tryz.func82,Tryz.ntmps82;go_wp2_with fail;simp only[←hW,←hB]
  clear hW hB;refine (HN.out _).mono ?_;rintro e w1 ⟨rfl,rfl⟩;go_wp2_with fail;refine (HD.out _).mono ?_;rintro e w1 ⟨rfl,rfl⟩;go_wp2;go_ret;exact⟨by rw[iU.out];rfl,by rw[←HB.out];exact hba⟩
 cases rd
 ·go_enter Tryz.func82,Tryz.ntmps82;go_wp2_with fail;simp only[←hW,←hB]
  clear hW hB;refine (HN.out _).mono ?_;rintro e w1 ⟨rfl,rfl⟩;go_wp2_with fail;refine (HD.out _).mono ?_;rintro e w1 ⟨rfl,rfl⟩;go_wp2;go_ret;exact⟨by rw[iU.out];rfl,by rw[←HB.out];exact hba⟩
 cases ed
 case true=>
  go_enter Tryz.func82,Tryz.ntmps82;go_wp2_with fail;simp only[←hW,←hB]
  clear hW hB;refine (HN.out _).mono ?_;rintro e w1 ⟨rfl,rfl⟩;go_wp2_with fail;refine (HD.out _).mono ?_;rintro e w1 ⟨rfl,rfl⟩;go_wp2;go_ret;exact⟨by rw[iU.out];rfl,by rw[←HB.out];exact hba⟩
 cases en
 ·go_enter Tryz.func82,Tryz.ntmps82;go_wp2_with fail;simp only[←hW,←hB]
  clear hW hB;refine (HN.out _).mono ?_;rintro e w1 ⟨rfl,rfl⟩;go_wp2_with fail;refine (HD.out _).mono ?_;rintro e w1 ⟨rfl,rfl⟩;go_wp2_with fail;refine (HG.out _).mono ?_;rintro e w1 ⟨rfl,hb1⟩;go_wp2_with fail;refine (pR _).mono ?_;rintro e w2 ⟨rfl,hb2⟩;go_wp2_with fail;refine (HC2.out _).mono ?_;rintro e w3 ⟨rfl,rfl⟩;go_wp2;go_ret;refine⟨?_,by rw[←HB.out];exact hba.trans ((ah hb1 hb2).mono (Nat.le_of_lt hblk.lt))⟩;rw[iU.out];first|rfl|(simp;done)|(simp;rfl)
 cases neg
 ·go_enter Tryz.func82,Tryz.ntmps82;go_wp2_with fail;simp only[←hW,←hB]
  clear hW hB;refine (HN.out _).mono ?_;rintro e w1 ⟨rfl,rfl⟩;go_wp2_with fail;refine (HD.out _).mono ?_;rintro e w1 ⟨rfl,rfl⟩;go_wp2_with fail
  have HK:Hid (∀w' w1:World,((∀i,w'.cell? ⟨B,i,none⟩=([.bool false,.string num,.string den]:List Value)[i]?)∧B<w'.heap.size∧Below B w w')→Below w'.heap.size w' w1→
    ((∀i,w1.cell? ⟨B,i,none⟩=([.bool false,.string num,.string den]:List Value)[i]?)∧B<w1.heap.size∧Below B w w1)):=by
   rintro w' w1 ⟨h0,h2,h3⟩ hb1;exact⟨fun i=>(hb1.cell h2).trans (h0 i),Nat.lt_of_lt_of_le h2 hb1.size,h3.trans (hb1.mono (Nat.le_of_lt h2))⟩
  have HS:Hid ((∀i,W.drew.cell? ⟨B,i,none⟩=([.bool false,.string num,.string den]:List Value)[i]?)∧B<W.drew.heap.size∧Below B w W.drew):=
   ⟨hblk.cells,hblk.lt,below_drewN hba 1⟩
  clear hblk hba hc;refine wp_region_noPanic ?_;refine wp_region_held_drew (S:=fun w'=>(∀i,w'.cell? ⟨B,i,none⟩=([.bool false,.string num,.string den]:List Value)[i]?)∧B<w'.heap.size∧Below B w w') (by kernel_rfl) HS.out (fun hHeld=>?_);refine ay 0 ?_;refine ay 1 ?_;refine ay 2 ?_;refine ay 3 ?_;refine ay 4 ?_;refine ay 5 ?_;refine bJ 6 fun K hK=>?_
  go_simp;refine (pR _).mono ?_;rintro e w1 ⟨rfl,hb1⟩;go_wp2_with fail;refine aT hK (HK.out _ _ (by assumption) hb1) fun hHeld=>?_
  clear hK K;refine bJ 7 fun K hK=>?_
  go_simp;refine (BQ.out _).mono ?_;rintro e w1 ⟨rfl,rfl⟩;go_wp2_with fail;refine aT hK (by assumption) fun hHeld=>?_
  clear hK K;refine ay 8 ?_;refine ay 9 ?_;refine ay 10 ?_;refine wpAnyH_done (by kernel_rfl) ?_ _;refine NoPanic.normal ?_;obtain⟨_,_,hb3⟩:=hHeld;have HH:=zH hb3;clear hb3;go_wp2;go_ret;refine⟨?_,by rw[←HB.out];exact HH.out⟩;rw[iU.out];first|rfl|(simp;done)|(simp;rfl)
 ·go_enter Tryz.func82,Tryz.ntmps82;go_wp2_with fail;simp only[←hW,←hB]
  clear hW hB;refine (HN.out _).mono ?_;rintro e w1 ⟨rfl,rfl⟩;go_wp2_with fail;refine (HD.out _).mono ?_;rintro e w1 ⟨rfl,rfl⟩;go_wp2_with fail
  have HK:Hid (∀w' w1:World,((∀i,w'.cell? ⟨B,i,none⟩=([.bool true,.string num,.string den]:List Value)[i]?)∧B<w'.heap.size∧Below B w w')→Below w'.heap.size w' w1→
    ((∀i,w1.cell? ⟨B,i,none⟩=([.bool true,.string num,.string den]:List Value)[i]?)∧B<w1.heap.size∧Below B w w1)):=by
   rintro w' w1 ⟨h0,h2,h3⟩ hb1;exact⟨fun i=>(hb1.cell h2).trans (h0 i),Nat.lt_of_lt_of_le h2 hb1.size,h3.trans (hb1.mono (Nat.le_of_lt h2))⟩
  have HS:Hid ((∀i,W.drew.cell? ⟨B,i,none⟩=([.bool true,.string num,.string den]:List Value)[i]?)∧B<W.drew.heap.size∧Below B w W.drew):=
   ⟨hblk.cells,hblk.lt,below_drewN hba 1⟩
  clear hblk hba hc;refine wp_region_noPanic ?_;refine wp_region_held_drew (S:=fun w'=>(∀i,w'.cell? ⟨B,i,none⟩=([.bool true,.string num,.string den]:List Value)[i]?)∧B<w'.heap.size∧Below B w w') (by kernel_rfl) HS.out (fun hHeld=>?_);refine ay 0 ?_;refine ay 1 ?_;refine ay 2 ?_;refine ay 3 ?_;refine bK 4 rfl ?_
  try simp only[Act.put,tk1,tk2,tk3,tk4,aQ,aS]
  refine bK 5 rfl ?_
  try simp only[Act.put,tk1,tk2,tk3,tk4,aQ,aS]
  refine bK 6 rfl ?_
  try simp only[Act.put,tk1,tk2,tk3,tk4,aQ,aS]
  refine bK 7 rfl ?_
  try simp only[Act.put,tk1,tk2,tk3,tk4,aQ,aS]
  refine bK 8 rfl ?_
  try simp only[Act.put,tk1,tk2,tk3,tk4,aQ,aS]
  refine ay 9 ?_;refine ay 10 ?_;refine wpAnyH_done (by kernel_rfl) ?_ _;refine NoPanic.normal ?_;obtain⟨_,_,hb3⟩:=hHeld;have HH:=zH hb3;clear hb3;go_wp2;go_ret;refine⟨?_,by rw[←HB.out];exact HH.out⟩;rw[iU.out];first|rfl|(simp;done)|(simp;rfl)
structure Three (w:World) (t1 t2 t3:TypeId) (l1 l2 l3:List Value) (W:World):Prop where
 one:aj W w.heap.size t1 l1
 two:aj W (w.heap.size+1) t2 l2
 three:aj W (w.heap.size+2) t3 l3
 below:Below w.heap.size w W
 size:W.heap.size=w.heap.size+3
theorem Three.new (w:World) (t1 t2 t3:TypeId) (cs1 cs2 cs3:Array Value):Three w t1 t2 t3 cs1.toList cs2.toList cs3.toList (((w.alloc (.cells cs1 t1)).alloc (.cells cs2 t2)).alloc (.cells cs3 t3)):=by
 obtain⟨h1,h2,h3,h4⟩:=Two.new w t1 t2 cs1 cs2;have k:=aj.new ((w.alloc (.cells cs1 t1)).alloc (.cells cs2 t2)) t3 cs3;rw[h4] at k;exact⟨h1.alloc _,h2.alloc _,k,h3.alloc (by omega) _,by show (Array.push _ _).size=_;rw[Array.size_push,h4]⟩
theorem AO {B C:Nat} {w w':World} (h:Below B w w') (hC:B≤C) (x y z:Value):Below B w (((w'.setCell ⟨C,0,none⟩ x).setCell ⟨C,1,none⟩ y).setCell ⟨C,2,none⟩ z):=
 ((h.setCell (p:=⟨C,0,none⟩) hC _).setCell (p:=⟨C,1,none⟩) hC _).setCell (p:=⟨C,2,none⟩) hC _
theorem nG (a:Ra) (w:World) (hn:a.num.size≤536870912) (hd:a.den.size≤536870912):
  Calls Tryz.prog 127 #[a.v] w fun e w'=>e=.returned (dN a).v∧Below w.heap.size w w':=by
 have HR:=zH (fun w=>wM a w hn hd);have HV:Hid (dN a=if okR a then a else aW 0):=rfl;obtain⟨o,ho⟩:=zF (okR a);rw[ho] at HR HV;clear ho hn hd;generalize dN a=va at*;obtain⟨neg,num,den⟩:=a;unfold Ra.v at HR⊢;obtain⟨W,hW⟩:=zE ((w.alloc (.cells #[.bool neg,.string num,.string den] 40)).alloc (.cells #[.bool false,.string ⟨#[]⟩,.string ⟨#[]⟩] 40));have jY:=Two.new w 40 40 #[.bool neg,.string num,.string den] #[.bool false,.string ⟨#[]⟩,.string ⟨#[]⟩];rw[←hW] at jY;obtain⟨hk0,hk1,hba,hsz⟩:=jY;obtain⟨B,hB⟩:=zE w.heap.size;have HB:=zH hB;rw[←hB] at hba hsz hk0 hk1;have hc0:=hk0.cells;cases o
 all_goals
  go_enter Tryz.func127,Tryz.ntmps127;go_wp2_with fail;simp only[←hW,←hB]
  clear hW hB;refine (HR.out _).mono ?_;rintro e w1 ⟨rfl,hb1⟩;have hk0':=hk0.below hb1 hk0.lt;have AP:=hk1.below hb1 hk1.lt;have hB1:Below B w w1:=hba.trans (hb1.mono (by omega));have hc1:=hk0'.cells;have hc2:=AP.cells;have hf2:=AP.aF
 ·go_wp2_with fail;refine (pR _).mono ?_;rintro e w2 ⟨rfl,hb2⟩;have aaz:=AP.below hb2 AP.lt;have hB2:Below B w w2:=hB1.trans (hb2.mono (Nat.le_of_lt hk0'.lt));have hc3:=aaz.cells;have hf3:=aaz.aF;go_wp2;refine bodyPost_ret (v:=.agg #[.bool false,.string ⟨#[]⟩,.string (aB 1)]) (by simp[results,Tryz.results127,go_sem,hc3]) rfl ⟨by rw[HV.out];rfl,?_⟩;rw[←HB.out];exact AO hB2 (Nat.le_succ _) _ _ _
 ·go_wp2;refine bodyPost_ret (v:=.agg #[.bool neg,.string num,.string den]) (by simp[results,Tryz.results127,go_sem,hc2]) rfl ⟨by rw[HV.out];rfl,?_⟩;rw[←HB.out];exact AO hB1 (Nat.le_succ _) _ _ _
theorem xC (n:Int) (w:World) (h0:-9223372036854775808≤n) (h1:n≤9223372036854775807):
  Calls Tryz.prog 11 #[.int .i64 n] w fun e w'=>e=.returned (aW n).v∧Below w.heap.size w w':=by
 obtain⟨W,hW⟩:=zE (w.alloc (.cells #[.bool false,.string ⟨#[]⟩,.string ⟨#[]⟩] 40));have hba:Below w.heap.size w W:=by rw[hW];exact zB _ _
 have hk0:aj W w.heap.size 40 [.bool false,.string ⟨#[]⟩,.string ⟨#[]⟩]:=by rw[hW];exact aj.new w _ _
 have hsz:W.heap.size=w.heap.size+1:=by rw[hW];exact Array.size_push _
 obtain⟨B,hB⟩:=zE w.heap.size;have HB:=zH hB;rw[←hB] at hba hsz hk0;by_cases hn:n<0
 ·have HO:Hid (aW n=⟨true,aB (n+1).natAbs.succ,aB 1⟩):=by
   show _=_;unfold aW;rw[decide_eq_true hn,show n.natAbs=(n+1).natAbs.succ from by omega]
  have HA:=zH (fun w=>Nv (aB (n+1).natAbs) (aB 1) w (Nat.le_trans (aV _ 9 (by omega)) (by omega)) (Nat.le_trans (aV _ 9 (by omega)) (by omega)));rw[aX,aX] at HA;have hneg:IntKind.i64.wrap (-(n+1))= -(n+1):=IntWalk.i64_in _ (by omega);have BP:(-(n+1)).toNat=(n+1).natAbs:=by omega
  go_enter Tryz.func11,Tryz.ntmps11;go_wp2_with fail;simp only[←hW,←hB]
  clear hW hB;refine (pJ _ _ (by omega) (by omega)).mono ?_;rintro e w1 ⟨rfl,hb1⟩;go_wp2_with fail;refine (pR _).mono ?_;rintro e w2 ⟨rfl,hb2⟩
  try rw[BP]
  go_wp2_with fail;refine (HA.out _).mono ?_;rintro e w3 ⟨rfl,hb3⟩;go_wp2_with fail;refine (pR _).mono ?_;rintro e w4 ⟨rfl,hb4⟩;have qO:=ah (ah (ah hb1 hb2) hb3) hb4;have hk3:=hk0.below qO hk0.lt;have hc:=hk3.cells;have hf:=hk3.aF;have bF:=zH (hba.trans (qO.mono (Nat.le_of_lt hk0.lt)));clear hb1 hb2 hb3 hb4 qO;go_wp2;refine bodyPost_ret (v:=.agg #[.bool true,.string (aB ((n+1).natAbs+1)),.string (aB 1)]) (by simp[results,Tryz.results11,go_sem,hc]) rfl ⟨?_,by rw[←HB.out];exact iV bF.out _ _ _⟩;rw[HO.out];rfl
 ·have HO:Hid (aW n=⟨false,aB n.toNat,aB 1⟩):=by
   show _=_;unfold aW;rw[decide_eq_false hn,show n.natAbs=n.toNat from by omega]
  go_enter Tryz.func11,Tryz.ntmps11;go_wp2_with fail;simp only[←hW,←hB]
  clear hW hB;refine (pJ _ _ (by omega) (by omega)).mono ?_;rintro e w1 ⟨rfl,hb1⟩;go_wp2_with fail;refine (pR _).mono ?_;rintro e w2 ⟨rfl,hb2⟩;have qO:=ah hb1 hb2;have hk3:=hk0.below qO hk0.lt;have hc:=hk3.cells;have hf:=hk3.aF;have bF:=zH (hba.trans (qO.mono (Nat.le_of_lt hk0.lt)));clear hb1 hb2 qO;go_wp2;refine bodyPost_ret (v:=.agg #[.bool false,.string (aB n.toNat),.string (aB 1)]) (by simp[results,Tryz.results11,go_sem,hc]) rfl ⟨?_,by rw[←HB.out];exact iV bF.out _ _ _⟩;rw[HO.out];rfl
structure Sh where
 word:List UInt8
 ops:Nat
 lit:Bool
 dR:Bool
 dS:Bool
def Fv:Sh:=⟨[],0,false,false,false⟩
def kK:List Sh:=[Fv,⟨[36],0,true,false,false⟩,⟨[],0,true,false,false⟩,⟨[],0,true,false,false⟩,⟨[],0,true,false,false⟩,
 ⟨[102,97,99,116,46],0,false,true,false⟩,⟨[111,119,110,46],0,false,true,false⟩,⟨[112,114,105,111,114,46],0,false,true,false⟩,⟨[115,112,111,117,115,101,46],0,false,true,false⟩,
 ⟨[97,100,100],2,false,false,false⟩,⟨[115,117,98],2,false,false,false⟩,⟨[109,117,108],2,false,false,false⟩,⟨[100,105,118],2,false,false,false⟩,⟨[109,105,110],2,false,false,false⟩,⟨[109,97,120],2,false,false,false⟩,
 ⟨[105,102],3,false,false,false⟩,⟨[108,101,115,115],2,false,false,false⟩,⟨[101,113,117,97,108],2,false,false,false⟩,⟨[97,110,100],2,false,false,false⟩,⟨[111,114],2,false,false,false⟩,⟨[110,111,116],1,false,false,false⟩,
 ⟨[100,111,119,110],1,false,false,true⟩,⟨[117,112],1,false,false,true⟩,⟨[110,101,97,114],1,false,false,true⟩,⟨[114,97,116,101,46],1,false,true,false⟩]
def aC (op:Int):Sh:=kK.getD op.toNat Fv
structure Nd where
 op:Int
 num:Ra
 name:ByteArray
deriving DecidableEq
def Nd.cells (n:Nd):List Value:=[.int .i64 n.op,.bool n.num.neg,.string n.num.num,.string n.num.den,.string n.name]
def Nd.v (n:Nd):Value:=.agg #[.int .i64 n.op,.bool n.num.neg,.string n.num.num,.string n.num.den,.string n.name]
def zR:Ra:=⟨false,⟨#[]⟩,⟨#[]⟩⟩
def jM (c:UInt8):Bool:=decide (97≤c.toNat)&&decide (c.toNat≤122)
def NP (c:UInt8):Bool:=decide (48≤c.toNat)&&decide (c.toNat≤57)
def oH (c:UInt8):Bool:=jM c||NP c||decide (c.toNat=95)
def nameB (l:List UInt8):Bool:=(match l with|[]=>false|c::_=>jM c)&&decide (l.length≤20)&&l.all oH
def dJ (a:Ra):Bool:=okR a&&decide (iq (aA a.num)≤400)&&decide (iq (aA a.den)≤400)
def iW (n:Nd):Bool:=
 if n.op=4 then decide (n.num=aW 0)||decide (n.num=aW 1)
 else if (aC n.op).lit then dJ n.num
 else if (aC n.op).dS then dJ n.num&&decide (0<dV n.num)
 else decide (n.num=zR)
def bP (n:Nd):Int:=
 if n.op<1∨24<n.op∨((aC n.op).dR=false∧n.name≠⟨#[]⟩)∨iW n=false then 11
 else if (aC n.op).dR&& !nameB n.name.data.toList then 12 else 0
def chk:List Nd→Nat→Int
 |[],d=>if d=1 then 0 else 11
 |n::r,d=>if bP n≠0 then bP n else if d<(aC n.op).ops then 11 else chk r (d-(aC n.op).ops+1)
def bC (e:List Nd):Int:=if 60<e.length then 2 else chk e 0
def Ex:Nat→List Nd→Prop
 |0,_=>False
 |k+1,e=>∃(cs:List (List Nd)) (n:Nd),e=cs.flatten++[n]∧bP n=0∧cs.length=(aC n.op).ops∧∀a∈cs,Ex k a
theorem Ex.succ {k:Nat}:∀{e:List Nd},Ex k e→Ex (k+1) e:=by
 induction k with
 |zero=>intro e h;exact h.elim
 |succ k ih=>
  rintro e ⟨cs,n,he,hn,hl,ha⟩;exact⟨cs,n,he,hn,hl,fun a h=>ih (ha a h)⟩
theorem Ex.mono {k k':Nat} {e:List Nd} (h:Ex k e) (hk:k≤k'):Ex k' e:=by
 induction hk with
 |refl=>exact h
 |step _ ih=>exact ih.succ
theorem YN (k:Nat) (ih:∀e:List Nd,Ex k e→∀r d,chk (e++r) d=chk r (d+1)) (cs:List (List Nd)) (ha:∀a∈cs,Ex k a) (r:List Nd) (d:Nat):
  chk (cs.flatten++r) d=chk r (d+cs.length):=by
 induction cs generalizing d with
 |nil=>rfl
 |cons a cs iha=>
  rw[List.flatten_cons,List.append_assoc,ih a (ha a (by simp)),iha (fun x hx=>ha x (by simp[hx]))];rw[List.length_cons];congr 1;omega
theorem acN (k:Nat):∀e:List Nd,Ex k e→∀r d,chk (e++r) d=chk r (d+1):=by
 induction k with
 |zero=>intro e h;exact h.elim
 |succ k ih=>
  rintro e ⟨cs,n,rfl,hn,hl,ha⟩ r d;rw[List.append_assoc,YN k ih cs ha];show chk (n::r) _=_;rw[chk,if_neg (by rw[hn];simp),if_neg (by omega)];congr 1;omega
theorem acO (e:List Nd):∀(K:Nat) (st:List (List Nd)),(∀a∈st,Ex K a)→chk e st.length=0→∃k,Ex k (st.reverse.flatten++e):=by
 induction e with
 |nil=>
  intro K st hs h
  match st,h with
  |[a],_=>exact⟨K,by simpa using hs a (by simp)⟩
  |[],h=>simp[chk] at h
  |a::b::l,h=>simp[chk] at h
 |cons n r ih=>
  intro K st hs h;rw[chk] at h;split at h
  ·next h1=>exact absurd h h1
  ·next h1=>
   split at h
   ·cases h
   ·next h2=>
    have hn:bP n=0:=by simpa using h1
    have hE:Ex (K+1) ((st.take (aC n.op).ops).reverse.flatten++[n]):=
     ⟨(st.take (aC n.op).ops).reverse,n,rfl,hn,by simp;omega,fun a ha=>hs a (List.mem_of_mem_take (by simpa using ha))⟩
    obtain⟨k,hk⟩:=ih (K+1) (((st.take (aC n.op).ops).reverse.flatten++[n])::st.drop (aC n.op).ops)
     (by intro a ha;rcases List.mem_cons.1 ha with rfl|ha
         ·exact hE
         ·exact (hs a (List.mem_of_mem_drop ha)).succ)
     (by rw[List.length_cons,List.length_drop];exact h)
    refine⟨k,?_⟩
    have e1:st.reverse.flatten=(st.drop (aC n.op).ops).reverse.flatten++(st.take (aC n.op).ops).reverse.flatten:=by
     rw[←List.flatten_append,←List.reverse_append,List.take_append_drop]
    rw[e1];simpa using hk
def IsE (e:List Nd):Prop:=∃k,Ex k e
theorem pU (e:List Nd):bC e=0↔e.length≤60∧IsE e:=by
 unfold bC;constructor
 ·intro h;split at h
  ·cases h
  ·next h1=>
   obtain⟨k,hk⟩:=acO e 0 [] (by simp) h;exact⟨by omega,k,by simpa using hk⟩
 ·rintro⟨h1,k,hk⟩;rw[if_neg (by omega)];have:=acN k e hk [] 0;rw[List.append_nil] at this;rw[this];rfl
def gQ:List (List UInt8)→List UInt8
 |[]=>[]
 |a::l=>if l.isEmpty then a else a++[44,32]++gQ l
def txt (n:Nd) (ops:List (List UInt8)):List UInt8:=
 if n.op=4 then (if n.num.num=⟨#[]⟩ then [110,111] else [121,101,115])
 else (aC n.op).word++n.name.data.toList++(if (aC n.op).lit then (aZ n.num).data.toList else [])++(if n.op=2 then [100] else [])
  ++(if (aC n.op).dS then [91]++(aZ n.num).data.toList++[93] else [])++(if (aC n.op).ops=0 then [] else [40]++gQ ops++[41])
def YO (st:List (List UInt8)) (n:Nd):List (List UInt8):=txt n (st.take (aC n.op).ops).reverse::st.drop (aC n.op).ops
def runT (e:List Nd) (st:List (List UInt8)):List (List UInt8):=e.foldl YO st
def textE (e:List Nd):List UInt8:=(runT e []).headD []
theorem zo (a b:List Nd) (st:List (List UInt8)):runT (a++b) st=runT b (runT a st):=List.foldl_append
theorem KC (k:Nat) (ih:∀e:List Nd,Ex k e→∀st,runT e st=textE e::st) (cs:List (List Nd)) (ha:∀a∈cs,Ex k a) (st:List (List UInt8)):
  runT cs.flatten st=(cs.map textE).reverse++st:=by
 induction cs generalizing st with
 |nil=>rfl
 |cons a cs iha=>
  rw[List.flatten_cons,zo,ih a (ha a (by simp)),iha (fun x hx=>ha x (by simp[hx]))];simp
theorem KD (cs:List (List Nd)) (n:Nd) (hl:cs.length=(aC n.op).ops) (h:∀st,runT cs.flatten st=(cs.map textE).reverse++st) (st:List (List UInt8)):
  runT (cs.flatten++[n]) st=txt n (cs.map textE)::st:=by
 rw[zo,h];show YO ((cs.map textE).reverse++st) n=_;unfold YO;have h1:((cs.map textE).reverse).length=(aC n.op).ops:=by simp[hl]
 rw[List.take_left' h1,List.drop_left' h1,List.reverse_reverse]
theorem NQ {cs:List (List Nd)} {n:Nd} (h:runT (cs.flatten++[n]) []=txt n (cs.map textE)::[]):textE (cs.flatten++[n])=txt n (cs.map textE):=by
 unfold textE at h⊢;rw[h];rfl
theorem abv (k:Nat):∀e:List Nd,Ex k e→∀st,runT e st=textE e::st:=by
 induction k with
 |zero=>intro e h;exact h.elim
 |succ k ih=>
  rintro e ⟨cs,n,rfl,hn,hl,ha⟩ st;have h1:=KD cs n hl (KC k ih cs ha);rw[h1,NQ (h1 [])]
theorem Io {k:Nat} {cs:List (List Nd)} {n:Nd} (hl:cs.length=(aC n.op).ops) (ha:∀a∈cs,Ex k a):textE (cs.flatten++[n])=txt n (cs.map textE):=
 NQ (KD cs n hl (KC k (abv k) cs ha) [])
def iM:List Nd→Nat→List Nat→List (List Nat)
 |[],_,_=>[]
 |n::r,k,st=>(st.take (aC n.op).ops).reverse::iM r (k+1) (k::st.drop (aC n.op).ops)
def iY (e:List Nd):List (List Nat):=iM e 0 []
theorem nY (e:List Nd) (o:Nat) (st:List Nat):(iM e o st).length=e.length:=by
 induction e generalizing o st with
 |nil=>rfl
 |cons n r ih=>rw[iM,List.length_cons,ih,List.length_cons]
def roots:Nat→List (List Nd)→List Nat
 |_,[]=>[]
 |o,a::cs=>(o+a.length-1)::roots (o+a.length) cs
def oI:Nat→List (List Nd)→List (List Nat)
 |_,[]=>[]
 |o,a::cs=>iM a o []++oI (o+a.length) cs
theorem oU (o:Nat) (cs:List (List Nd)):(roots o cs).length=cs.length:=by
 induction cs generalizing o with
 |nil=>rfl
 |cons a cs ih=>rw[roots,List.length_cons,ih,List.length_cons]
theorem KE (k:Nat) (ih:∀e:List Nd,Ex k e→∀o st r,iM (e++r) o st=iM e o []++iM r (o+e.length) ((o+e.length-1)::st))
  (cs:List (List Nd)) (ha:∀a∈cs,Ex k a) (o:Nat) (st:List Nat) (r:List Nd):
  iM (cs.flatten++r) o st=oI o cs++iM r (o+cs.flatten.length) ((roots o cs).reverse++st):=by
 induction cs generalizing o st with
 |nil=>rfl
 |cons a cs iha=>
  rw[List.flatten_cons,List.append_assoc,ih a (ha a (by simp)),iha (fun x hx=>ha x (by simp[hx])),oI,roots,List.append_assoc,List.length_append,Nat.add_assoc];simp
theorem KF {cs:List (List Nd)} {n:Nd} (hl:cs.length=(aC n.op).ops) (o:Nat)
  (h:∀st r,iM (cs.flatten++r) o st=oI o cs++iM r (o+cs.flatten.length) ((roots o cs).reverse++st)) (st:List Nat) (r:List Nd):
  iM (cs.flatten++[n]++r) o st=oI o cs++[roots o cs]++iM r (o+(cs.flatten++[n]).length) ((o+(cs.flatten++[n]).length-1)::st):=by
 rw[List.append_assoc,h,List.append_assoc];congr 1;show iM (n::r) _ _=_;have h1:((roots o cs).reverse).length=(aC n.op).ops:=by rw[List.length_reverse,oU,hl]
 rw[iM,List.take_left' h1,List.drop_left' h1,List.reverse_reverse];simp only[List.length_append,List.length_cons,List.length_nil,List.cons_append,List.nil_append]
 rfl
theorem abw (k:Nat):∀e:List Nd,Ex k e→∀o st r,iM (e++r) o st=iM e o []++iM r (o+e.length) ((o+e.length-1)::st):=by
 induction k with
 |zero=>intro e h;exact h.elim
 |succ k ih=>
  rintro e ⟨cs,n,rfl,hn,hl,ha⟩ o st r;have h1:=KF hl o (KE k ih cs ha o);have h2:=h1 [] [];rw[List.append_nil] at h2;rw[h1,h2];simp[iM]
theorem Fz {k:Nat} {cs:List (List Nd)} {n:Nd} (hl:cs.length=(aC n.op).ops) (ha:∀a∈cs,Ex k a) (o:Nat):
  iM (cs.flatten++[n]) o []=oI o cs++[roots o cs]:=by
 have h2:=KF hl o (KE k (abw k) cs ha o) [] [];rw[List.append_nil] at h2;rw[h2];simp[iM]
theorem uo (s:ByteArray):s.toList.isEmpty=true↔s=⟨#[]⟩:=by
 have e0:(⟨#[]⟩:ByteArray).toList=[]:=by rw[ByteArray.toList_eq]
 rw[List.isEmpty_iff];exact⟨fun h=>toList_inj (by rw[h,e0]),fun h=>by rw[h,e0]⟩
theorem YP {a:Ra} (h:okR a=true) (h0:a.num=⟨#[]⟩):a=aW 0:=by
 unfold okR at h;simp only[Bool.and_eq_true,decide_eq_true_eq] at h;obtain⟨⟨⟨h1,h2⟩,h3⟩,h4⟩:=h;rw[←h4,h0];show low a.neg 0 _=_;unfold low;rw[Nat.gcd_zero_left,Nat.div_self h2];simp[aW]
theorem VZ (a:Ra):dV a=if (dN a).num.toList.isEmpty then 0 else if (dN a).neg then-1 else 1:=by
 unfold dV dN;cases h:okR a
 ·simp only[Bool.false_eq_true,if_false]
  rw[if_pos (show (aW 0).num.toList.isEmpty=true from (uo _).2 rfl)]
 ·simp only[if_true]
  by_cases h0:a.num=⟨#[]⟩
  ·rw[if_pos ((uo _).2 h0),if_pos (YP h h0)]
  ·rw[if_neg (fun hh=>h0 ((uo _).1 hh)),if_neg (fun hh=>h0 (by rw[hh];rfl))]
theorem YQ (a:Ra):dM (dN a).den=true∧0<aA (dN a).den:=by
 unfold dN;split
 ·next h=>
  unfold okR at h;simp only[Bool.and_eq_true,decide_eq_true_eq] at h;exact⟨h.1.1.1,h.1.1.2⟩
 ·exact⟨by decide,by decide⟩
def negR (a:Ra):Ra:=if (dN a).num.toList.isEmpty then dN a else ⟨!(dN a).neg,(dN a).num,(dN a).den⟩
theorem yN (a:Ra) (w:World) (hn:a.num.size≤536870912) (hd:a.den.size≤536870912):
  Calls Tryz.prog 83 #[a.v] w fun e w'=>e=.returned (.int .i64 (dV a))∧Below w.heap.size w w':=by
 have HR:=zH (fun w=>nG a w hn hd);have HV:=zH (VZ a);generalize dV a=z at*;clear hn hd;generalize dN a=va at*;obtain⟨neg,num,den⟩:=a;obtain⟨vn,vu,vd⟩:=va;unfold Ra.v at HR⊢;simp only at HV;obtain⟨W,hW⟩:=zE (w.alloc (.cells #[.bool neg,.string num,.string den] 40));have hba:Below w.heap.size w W:=by rw[hW];exact zB _ _
 have hk0:aj W w.heap.size 40 [.bool neg,.string num,.string den]:=by rw[hW];exact aj.new w _ _
 have hsz:W.heap.size=w.heap.size+1:=by rw[hW];exact Array.size_push _
 obtain⟨B,hB⟩:=zE w.heap.size;have HB:=zH hB;rw[←hB] at hba hsz hk0;have hc0:=hk0.cells;obtain⟨ve,hve⟩:∃x,vu.toList.isEmpty=x:=⟨_,rfl⟩
 rw[hve] at HV;cases vn<;>cases ve
 all_goals
  go_enter Tryz.func83,Tryz.ntmps83;go_wp2_with fail;simp only[←hW,←hB]
  clear hW hB;refine (HR.out _).mono ?_;rintro e w1 ⟨rfl,hb1⟩;have hk:=hk0.below hb1 hk0.lt;have hc:=hk.cells;have hf:=hk.aF;have bF:=zH (hba.trans (hb1.mono (Nat.le_of_lt hk0.lt)));clear hb1 hk;go_wp2;go_ret;exact⟨by rw[HV.out];rfl,by rw[←HB.out];exact iV bF.out _ _ _⟩
theorem YR (a:Ra) (w:World) (hn:a.num.size≤536870912) (hd:a.den.size≤536870912):
  Calls Tryz.prog 169 #[a.v] w fun e w'=>e=.returned (negR a).v∧Below w.heap.size w w':=by
 have HR:=zH (fun w=>nG a w hn hd);have HV:Hid (negR a=if (dN a).num.toList.isEmpty then dN a else ⟨!(dN a).neg,(dN a).num,(dN a).den⟩):=rfl;generalize negR a=z at*;clear hn hd;generalize dN a=va at*;obtain⟨neg,num,den⟩:=a;obtain⟨vn,vu,vd⟩:=va;unfold Ra.v at HR⊢;simp only at HV;obtain⟨W,hW⟩:=zE ((w.alloc (.cells #[.bool neg,.string num,.string den] 40)).alloc (.cells #[.bool false,.string ⟨#[]⟩,.string ⟨#[]⟩] 40));have jY:=Two.new w 40 40 #[.bool neg,.string num,.string den] #[.bool false,.string ⟨#[]⟩,.string ⟨#[]⟩];rw[←hW] at jY;obtain⟨hk0,hk1,hba,hsz⟩:=jY;obtain⟨B,hB⟩:=zE w.heap.size;have HB:=zH hB;rw[←hB] at hba hsz hk0 hk1;have hc0:=hk0.cells;obtain⟨ve,hve⟩:∃x,vu.toList.isEmpty=x:=⟨_,rfl⟩
 rw[hve] at HV;cases ve
 all_goals
  go_enter Tryz.func169,Tryz.ntmps169;go_wp2_with fail;simp only[←hW,←hB]
  clear hW hB;refine (HR.out _).mono ?_;rintro e w1 ⟨rfl,hb1⟩;have hk:=hk0.below hb1 hk0.lt;have hk':=hk1.below hb1 hk1.lt;have hc:=hk.cells;have hf:=hk.aF;have hc':=hk'.cells;have hf':=hk'.aF;have bF:=zH (hba.trans (hb1.mono (by omega)));clear hb1 hk hk';go_wp2
 ·refine bodyPost_ret (v:=.agg #[.bool (!vn),.string vu,.string vd]) (by simp[results,Tryz.results169,go_sem,hc,hc']) rfl ⟨by rw[HV.out];rfl,?_⟩;rw[←HB.out];exact AO ((iV bF.out _ _ _).setCell (p:=⟨B,0,none⟩) (Nat.le_refl _) _) (Nat.le_succ _) _ _ _
 ·refine bodyPost_ret (v:=.agg #[.bool vn,.string vu,.string vd]) (by simp[results,Tryz.results169,go_sem,hc,hc']) rfl ⟨by rw[HV.out];rfl,?_⟩;rw[←HB.out];exact AO (iV bF.out _ _ _) (Nat.le_succ _) _ _ _
theorem abx (d:ByteArray) (h:dM d=true) (b:Bool) (hb:decide (d=aB 1)=b):(fB (aA d) (aA (aB 1)) !=0)= !b:=by
 rw[←hb,aX];have e:=(iO d).1 h
 have h1:(d=aB 1)↔aA d=1:=by
  constructor
  ·intro h;rw[h,aX]
  ·intro h;rw[h] at e;exact e
 simp only[h1]
 unfold fB;by_cases h2:aA d=1
 ·rw[h2];rfl
 ·simp only[h2,decide_false,Bool.not_false]
  split
  ·first|rfl|(exfalso;omega)
  ·split
   ·first|rfl|(exfalso;omega)
   ·first|rfl|(exfalso;omega)
theorem rG (a:Ra) (w:World) (hn:a.num.size≤1048576) (hd:a.den.size≤1048576):
  Calls Tryz.prog 121 #[a.v] w fun e w'=>e=.returned (.string (aZ a))∧Below w.heap.size w w':=by
 have HR:=zH (fun w=>nG a w (by omega) (by omega));obtain⟨hvn,hvd⟩:=Dj a 1048576 (by omega) hn hd;have hrd:=(YQ a).1
 have HT:Hid (aZ a=(let s:=if (dN a).neg then ⟨#[45]⟩++iT (aA (dN a).num) else iT (aA (dN a).num)
  if (dN a).den=aB 1 then s else s++(⟨#[47]⟩++iT (aA (dN a).den)))):=rfl
 generalize aZ a=tx at*;clear hn hd;generalize dN a=va at*;obtain⟨vn,vu,vd⟩:=va;simp only at HT hvn hvd hrd;have zS:=zH (fun w=>Kz vu w hvn);have QT:=zH (fun w=>Kz vd w hvd);have HC:=zH (fun w=>xM vd (aB 1) w (by omega) (by decide));obtain⟨de,hde⟩:∃d,decide (vd=aB 1)=d:=⟨_,rfl⟩
 have hz:=abx vd hrd de hde;generalize fB (aA vd) (aA (aB 1))=z at*;have Dk:=zH hde;have hs1:(iT (aA vu)).size≤3145728:=pO vu hvn;have hs2:(iT (aA vd)).size≤3145728:=pO vd hvd;generalize iT (aA vu)=tn at*;generalize iT (aA vd)=td at*;clear hde hvn hvd hrd;obtain⟨neg,num,den⟩:=a;unfold Ra.v at HR⊢;obtain⟨W,hW⟩:=zE (w.alloc (.cells #[.bool neg,.string num,.string den] 40));have hba:Below w.heap.size w W:=by rw[hW];exact zB _ _
 have hk0:aj W w.heap.size 40 [.bool neg,.string num,.string den]:=by rw[hW];exact aj.new w _ _
 have hsz:W.heap.size=w.heap.size+1:=by rw[hW];exact Array.size_push _
 obtain⟨B,hB⟩:=zE w.heap.size;have HB:=zH hB;rw[←hB] at hba hsz hk0;have hc0:=hk0.cells;cases vn
 ·go_enter Tryz.func121,Tryz.ntmps121;go_wp2_with fail;simp only[←hW,←hB]
  clear hW hB;refine (HR.out _).mono ?_;rintro e w1 ⟨rfl,hb1⟩;have hk:=hk0.below hb1 hk0.lt;have hc:=hk.cells;have hf:=hk.aF;have hB1:=hba.trans (hb1.mono (Nat.le_of_lt hk0.lt));go_wp2_with fail;have hk2:=((hk.set 0 (.bool false)).set 1 (.string vu)).set 2 (.string vd);simp only[List.set_cons_zero,List.set_cons_succ] at hk2;have hB2:=iV hB1 (.bool false) (.string vu) (.string vd);obtain⟨w2,hw2⟩:∃x,x=((w1.setCell ⟨B,0,none⟩ (.bool false)).setCell ⟨B,1,none⟩ (.string vu)).setCell ⟨B,2,none⟩ (.string vd):=⟨_,rfl⟩
  rw[←hw2] at hk2 hB2;simp only[←hw2]
  clear hc hf hk hb1 hB1 hw2;refine (zS.out _).mono ?_;rintro e w3 ⟨rfl,hb3⟩;have hk3:=hk2.below hb3 hk2.lt;have hB3:Below B w w3:=hB2.trans (hb3.mono (Nat.le_of_lt hk2.lt));have hc:=hk3.cells
  have HK:Hid (∀w' w1:World,((∀i,w'.cell? ⟨B,i,none⟩=([.bool false,.string vu,.string vd]:List Value)[i]?)∧B<w'.heap.size∧Below B w w')→Below w'.heap.size w' w1→
    ((∀i,w1.cell? ⟨B,i,none⟩=([.bool false,.string vu,.string vd]:List Value)[i]?)∧B<w1.heap.size∧Below B w w1)):=by
   rintro w' w1 ⟨h0,h2,h3⟩ hb1;exact⟨fun i=>(hb1.cell h2).trans (h0 i),Nat.lt_of_lt_of_le h2 hb1.size,h3.trans (hb1.mono (Nat.le_of_lt h2))⟩
  have HS:Hid ((∀i,w3.drew.cell? ⟨B,i,none⟩=([.bool false,.string vu,.string vd]:List Value)[i]?)∧B<w3.drew.heap.size∧Below B w w3.drew):=
   ⟨hk3.cells,hk3.lt,below_drewN hB3 1⟩
  clear hk2 hB2 hb3 hk3 hB3 hk0 hba hc0;go_wp2_with fail;clear hc;refine wp_region_noPanic ?_;refine wp_region_held_drew (S:=fun w'=>(∀i,w'.cell? ⟨B,i,none⟩=([.bool false,.string vu,.string vd]:List Value)[i]?)∧B<w'.heap.size∧Below B w w') (by kernel_rfl) HS.out (fun hHeld=>?_);refine ay 0 ?_;refine ay 1 ?_;refine bJ 2 fun K hK=>?_
  go_simp;refine (pR _).mono ?_;rintro e w1 ⟨rfl,hb1⟩;go_wp2_with fail;refine aT hK (HK.out _ _ (by assumption) hb1) fun hHeld=>?_
  clear hK K;refine bJ 3 fun K hK=>?_
  go_simp;refine (HC.out _).mono ?_;rintro e w1 ⟨rfl,rfl⟩;go_wp2_with fail;refine aT hK (by assumption) fun hHeld=>?_
  clear hK K;refine ay 4 ?_;refine wpAnyH_done (by kernel_rfl) ?_ _;refine NoPanic.normal ?_;obtain⟨hd0,hd1,hd2⟩:=hHeld;have HH:=zH hd2;clear hd2;cases de
  ·go_wp2_with fail;refine (QT.out _).mono ?_;rintro e w5 ⟨rfl,hb5⟩;go_wp2;go_ret;refine⟨?_,by rw[←HB.out];exact HH.out.trans (hb5.mono (Nat.le_of_lt hd1))⟩;have h:=HT.out;rw[if_neg (of_decide_eq_false Dk.out)] at h;rw[h]
   first|rfl|(simp only[ByteArray.append_assoc,ByteArray.append_eq];rfl)|simp[ByteArray.append_assoc]
  ·go_wp2;go_ret;refine⟨?_,by rw[←HB.out];exact HH.out⟩;have h:=HT.out;rw[if_pos (of_decide_eq_true Dk.out)] at h;rw[h];rfl
 ·go_enter Tryz.func121,Tryz.ntmps121;go_wp2_with fail;simp only[←hW,←hB]
  clear hW hB;refine (HR.out _).mono ?_;rintro e w1 ⟨rfl,hb1⟩;have hk:=hk0.below hb1 hk0.lt;have hc:=hk.cells;have hf:=hk.aF;have hB1:=hba.trans (hb1.mono (Nat.le_of_lt hk0.lt));go_wp2_with fail;have hk2:=((hk.set 0 (.bool true)).set 1 (.string vu)).set 2 (.string vd);simp only[List.set_cons_zero,List.set_cons_succ] at hk2;have hB2:=iV hB1 (.bool true) (.string vu) (.string vd);obtain⟨w2,hw2⟩:∃x,x=((w1.setCell ⟨B,0,none⟩ (.bool true)).setCell ⟨B,1,none⟩ (.string vu)).setCell ⟨B,2,none⟩ (.string vd):=⟨_,rfl⟩
  rw[←hw2] at hk2 hB2;simp only[←hw2]
  clear hc hf hk hb1 hB1 hw2;refine (zS.out _).mono ?_;rintro e w3 ⟨rfl,hb3⟩;have hk3:=hk2.below hb3 hk2.lt;have hB3:Below B w w3:=hB2.trans (hb3.mono (Nat.le_of_lt hk2.lt));have hc:=hk3.cells
  have HK:Hid (∀w' w1:World,((∀i,w'.cell? ⟨B,i,none⟩=([.bool true,.string vu,.string vd]:List Value)[i]?)∧B<w'.heap.size∧Below B w w')→Below w'.heap.size w' w1→
    ((∀i,w1.cell? ⟨B,i,none⟩=([.bool true,.string vu,.string vd]:List Value)[i]?)∧B<w1.heap.size∧Below B w w1)):=by
   rintro w' w1 ⟨h0,h2,h3⟩ hb1;exact⟨fun i=>(hb1.cell h2).trans (h0 i),Nat.lt_of_lt_of_le h2 hb1.size,h3.trans (hb1.mono (Nat.le_of_lt h2))⟩
  have HS:Hid ((∀i,w3.drew.cell? ⟨B,i,none⟩=([.bool true,.string vu,.string vd]:List Value)[i]?)∧B<w3.drew.heap.size∧Below B w w3.drew):=
   ⟨hk3.cells,hk3.lt,below_drewN hB3 1⟩
  clear hk2 hB2 hb3 hk3 hB3 hk0 hba hc0;go_wp2_with fail;clear hc;refine wp_region_noPanic ?_;refine wp_region_held_drew (S:=fun w'=>(∀i,w'.cell? ⟨B,i,none⟩=([.bool true,.string vu,.string vd]:List Value)[i]?)∧B<w'.heap.size∧Below B w w') (by kernel_rfl) HS.out (fun hHeld=>?_);refine ay 0 ?_;refine ay 1 ?_;refine bJ 2 fun K hK=>?_
  go_simp;refine (pR _).mono ?_;rintro e w1 ⟨rfl,hb1⟩;go_wp2_with fail;refine aT hK (HK.out _ _ (by assumption) hb1) fun hHeld=>?_
  clear hK K;refine bJ 3 fun K hK=>?_
  go_simp;refine (HC.out _).mono ?_;rintro e w1 ⟨rfl,rfl⟩;go_wp2_with fail;refine aT hK (by assumption) fun hHeld=>?_
  clear hK K;refine ay 4 ?_;refine wpAnyH_done (by kernel_rfl) ?_ _;refine NoPanic.normal ?_;obtain⟨hd0,hd1,hd2⟩:=hHeld;have HH:=zH hd2;clear hd2;cases de
  ·go_wp2_with fail;refine (QT.out _).mono ?_;rintro e w5 ⟨rfl,hb5⟩;go_wp2;go_ret;refine⟨?_,by rw[←HB.out];exact HH.out.trans (hb5.mono (Nat.le_of_lt hd1))⟩;have h:=HT.out;rw[if_neg (of_decide_eq_false Dk.out)] at h;rw[h]
   first|rfl|(simp only[ByteArray.append_assoc,ByteArray.append_eq];rfl)|simp[ByteArray.append_assoc]
  ·go_wp2;go_ret;refine⟨?_,by rw[←HB.out];exact HH.out⟩;have h:=HT.out;rw[if_pos (of_decide_eq_true Dk.out)] at h;rw[h];rfl
theorem vF (a:Ra) (w:World) (hn:a.num.size≤536870912) (hd:a.den.size≤536870912):
  Calls Tryz.prog 85 #[a.v] w fun e w'=>e=.returned (.bool (dJ a))∧Below w.heap.size w w':=by
 have HR:=zH (fun w=>wM a w hn hd);have HN:=zH (fun w=>Ky a.num w (by omega));have HD:=zH (fun w=>Ky a.den w (by omega));have HF:Hid (dJ a=(okR a&&decide (iq (aA a.num)≤400)&&decide (iq (aA a.den)≤400))):=rfl;generalize iq (aA a.num)=bn at*;generalize iq (aA a.den)=bd at*;clear hn hd;obtain⟨o,ho⟩:=zF (okR a);rw[ho] at HR HF;clear ho;generalize dJ a=r at*;obtain⟨neg,num,den⟩:=a;unfold Ra.v at HR⊢;simp only at HN HD;obtain⟨W,hW⟩:=zE (w.alloc (.cells #[.bool neg,.string num,.string den] 40));have hba:Below w.heap.size w W:=by rw[hW];exact zB _ _
 have hk0:aj W w.heap.size 40 [.bool neg,.string num,.string den]:=by rw[hW];exact aj.new w _ _
 have hsz:W.heap.size=w.heap.size+1:=by rw[hW];exact Array.size_push _
 obtain⟨B,hB⟩:=zE w.heap.size;have HB:=zH hB;rw[←hB] at hba hsz hk0;have hc0:=hk0.cells;cases o
 ·go_enter Tryz.func85,Tryz.ntmps85;go_wp2_with fail;simp only[←hW,←hB]
  clear hW hB;refine (HR.out _).mono ?_;rintro e w1 ⟨rfl,hb1⟩;go_wp2;go_ret;exact⟨by rw[HF.out];rfl,by rw[←HB.out];exact hba.trans (hb1.mono (Nat.le_of_lt hk0.lt))⟩
 ·obtain⟨q,hq⟩:=zF (decide (bn≤400));have hq':decide ((bn:Int)≤400)=q:=by rw[←hq,decide_eq_decide];omega
  obtain⟨p,hp⟩:=zF (decide (bd≤400));have hp':decide ((bd:Int)≤400)=p:=by rw[←hp,decide_eq_decide];omega
  rw[hq,hp] at HF;clear hq hp;cases q
  all_goals
   go_enter Tryz.func85,Tryz.ntmps85;go_wp2_with fail;simp only[←hW,←hB]
   clear hW hB;refine (HR.out _).mono ?_;rintro e w1 ⟨rfl,hb1⟩;have hk1:=hk0.below hb1 hk0.lt;have hc1:=hk1.cells;have bF:=zH (hba.trans (hb1.mono (Nat.le_of_lt hk0.lt)));clear hb1;go_wp2_with fail;refine (HN.out _).mono ?_;rintro e w2 ⟨rfl,rfl⟩
  ·go_wp2;go_ret;exact⟨by rw[HF.out];rfl,by rw[←HB.out];exact bF.out⟩
  ·go_wp2_with fail;refine (HD.out _).mono ?_;rintro e w2 ⟨rfl,rfl⟩;go_wp2;go_ret;exact⟨by rw[HF.out];rfl,by rw[←HB.out];exact bF.out⟩
end Go.Proofs.YtgfeadgafdijaaaGreatDoor
