/- A part of the proof: R11 R12 Q1 Q2 Q3 Q4 Q5 Q6 Q7 Q8 S1 S2. -/
import Derived.Test.YtimokmplkpbmdaaGreatDoorB09
import Derived.Test.YtimokmplkpbmdaaGreatDoorB13
set_option linter.all false
set_option maxRecDepth 100000
set_option maxHeartbeats 0
namespace Go.Proofs.YtimokmplkpbmdaaGreatDoor
open Go.RowKit
theorem rQuo_any (a b:ByteArray) (w:World) (ha:a.size<=1073741824) (hb:b.size<=1073741824):
  Calls Tryz.prog 178 #[.string a,.string b] w (RetQuo (vbs a) (vbs b) w):=by
 rcases Nat.eq_zero_or_pos (vbs b) with h0|h0
 ·exact rQuo_zero a b w hb h0
 ·by_cases hs:vbs a<256 ^ 7/\vbs b<256 ^ 7
  ·exact rQuo_small a b w ha hb h0 hs.1 hs.2
  ·exact rQuo_long a b w ha hb h0 hs
theorem rQuo_nb (n m K:Nat) (w:World) (hK:K<=1073741824) (hn:n<256 ^ K) (hm:m<256 ^ K) (h0:0<m):
  Calls Tryz.prog 178 #[.string (nbs n),.string (nbs m)] w fun e w'=>
   e=.returned (.tuple #[.string (nbs (n / m)),.string (nbs (n % m)),.bool true])/\Below w.heap.size w w':=by
 refine (rQuo_any (nbs n) (nbs m) w (Nat.le_trans (nbs_size_le _ _ hn) hK) (Nat.le_trans (nbs_size_le _ _ hm) hK)).mono ?_;rintro e w' ⟨rfl,hb⟩;rw[vbs_nbs,vbs_nbs];have p0:¬(m=0):=by omega
 rw[if_neg p0,if_neg p0,show (m !=0)=true from by simp[p0]];exact⟨rfl,hb⟩
theorem nbs_len_pos (n:Nat):0<(nbs n).size↔0<n:=by
 constructor
 ·intro h;rcases Nat.eq_zero_or_pos n with h0|h0
  ·subst h0;exact absurd h (by decide)
  ·exact h0
 ·intro h;have:=nb_ne _ (show n≠0 by omega);exact List.length_pos_iff.2 this
theorem rGcd_any (a b:ByteArray) (w:World) (ha:a.size<=1073741824) (hb:b.size<=1073741824):
  Calls Tryz.prog 177 #[.string a,.string b] w fun e w'=>e=.returned (.string (nbs (Nat.gcd (vbs a) (vbs b))))/\Below w.heap.size w w':=by
 have hK:∃K,K<=1073741824/\vbs a<256 ^ K/\vbs b<256 ^ K:=⟨max a.size b.size,by omega,vbs_le a _ (Nat.le_max_left _ _),vbs_le b _ (Nat.le_max_right _ _)⟩
 obtain⟨K,hK0,hK1,hK2⟩:=hK;have HK1:=zH hK1;have HK2:=zH hK2;clear hK1 hK2;go_enter Tryz.func177,Tryz.ntmps177;go_wp2_with fail;refine (rCanon_any a _ (by omega)).mono ?_;rintro e w' ⟨rfl,rfl⟩;go_wp2_with fail;refine (rCanon_any b _ (by omega)).mono ?_;rintro e w' ⟨rfl,rfl⟩;go_wp2_with fail
 go_loopg [0,1] (vbs b) (fun g xv yv wr=>∃n:Nat,xv=.string (nbs n)/\yv=.string (nbs g)/\Hid (Nat.gcd n g=Nat.gcd (vbs a) (vbs b))/\Hid (n<256 ^ K)/\Hid (g<256 ^ K)/\Below w.heap.size w wr)
 case atStart=>exact⟨vbs a,rfl,rfl,rfl,HK1,HK2,Below.refl _ _⟩
 case round=>
  obtain⟨n,rfl,rfl,hg,hn,hm,hbw⟩:=hrel;have hz:=nbs_len_pos gk;by_cases h0:0<gk
  ·have hp:=hz.2 h0;clear hz;go_wp2_with fail;refine (rQuo_nb n gk K _ hK0 hn.out hm.out h0).mono ?_;rintro e w3 ⟨rfl,hb3⟩;go_wp2_with fail
   go_roundg (n % gk)
   case measure=>exact Nat.mod_lt _ h0
   case rel=>
    refine⟨gk,rfl,rfl,?_,hm,Nat.lt_of_lt_of_le (Nat.mod_lt _ h0) (Nat.le_of_lt hm.out),bstep hbw hb3⟩;show _=_;rw[<-hg.out,Nat.gcd_comm n gk,Nat.gcd_rec gk n,Nat.gcd_comm]
  ·obtain rfl:gk=0:=by omega
   have hp:¬0<(nbs 0).size:=by decide
   clear hz;go_wp2;go_ret;have:=hg.out;rw[Nat.gcd_zero_right] at this;exact⟨by rw[this];rfl,hbw⟩
theorem dec_len_le (n K:Nat) (hK:0<K) (h:n<256 ^ K):(Lib.decDigits n).length<=3*K:=by
 refine dec_len (3*K) n (by omega) (Nat.lt_of_lt_of_le h ?_);rw[Nat.pow_mul];exact Nat.pow_le_pow_left (by omega) K
structure Ra where
 neg:Bool
 num:ByteArray
 den:ByteArray
deriving DecidableEq
def Ra.v (a:Ra):Value:=.agg #[.bool a.neg,.string a.num,.string a.den]
def low (neg:Bool) (n d:Nat):Ra:=⟨neg&&decide (n≠0),nbs (n / Nat.gcd n d),nbs (d / Nat.gcd n d)⟩
theorem nbs_inj {n m:Nat} (h:nbs n=nbs m):n=m:=by
 have:=congrArg vbs h;rwa[vbs_nbs,vbs_nbs] at this
theorem nbs_eq_nil (n:Nat):nbs n=⟨#[]⟩↔n=0:=by
 rw[show (⟨#[]⟩:ByteArray)=nbs 0 from rfl];exact⟨nbs_inj,fun h=>by rw[h]⟩
theorem nbs_isEmpty (n:Nat):(nbs n).toList.isEmpty=decide (n=0):=by
 rw[toList_nbs,Bool.eq_iff_iff,List.isEmpty_iff,decide_eq_true_iff];constructor
 ·intro h;rcases Nat.eq_zero_or_pos n with h0|h0
  ·exact h0
  ·exact absurd h (nb_ne n (by omega))
 ·intro h;subst h;rfl
theorem natQuo_nb (n m K:Nat) (w:World) (hK:K<=536870912) (hn:n<256 ^ K) (hm:m<256 ^ K) (h0:0<m):
  Calls Tryz.prog 152 #[.string (nbs n),.string (nbs m)] w fun e w'=>
   e=.returned (.tuple #[.string (nbs (n / m)),.string (nbs (n % m)),.bool true])/\Below w.heap.size w w':=by
 refine (natQuo_any (nbs n) (nbs m) w (Nat.le_trans (nbs_size_le _ _ hn) hK) (Nat.le_trans (nbs_size_le _ _ hm) hK)).mono ?_;rintro e w' ⟨rfl,hb⟩;rw[vbs_nbs,vbs_nbs];have p0:¬(m=0):=by omega
 rw[if_neg p0,if_neg p0,show (m !=0)=true from by simp[p0]];exact⟨rfl,hb⟩
theorem natGcd_nb (n m K:Nat) (w:World) (hK:K<=536870912) (hn:n<256 ^ K) (hm:m<256 ^ K):
  Calls Tryz.prog 151 #[.string (nbs n),.string (nbs m)] w fun e w'=>e=.returned (.string (nbs (Nat.gcd n m)))/\Below w.heap.size w w':=by
 have:=natGcd_any (nbs n) (nbs m) w (Nat.le_trans (nbs_size_le _ _ hn) hK) (Nat.le_trans (nbs_size_le _ _ hm) hK);rwa[vbs_nbs,vbs_nbs] at this
theorem qlowest_any (neg:Bool) (n d K:Nat) (w:World) (hK:K<=536870912) (hn:n<256 ^ K) (hd:d<256 ^ K) (h0:0<d):
  Calls Tryz.prog 114 #[.bool neg,.string (nbs n),.string (nbs d)] w fun e w'=>e=.returned (low neg n d).v/\Below w.heap.size w w':=by
 have hg:0<Nat.gcd n d:=Nat.gcd_pos_of_pos_right _ h0;have hgd:Nat.gcd n d<=d:=Nat.gcd_le_right _ h0;have HG:=zH (natGcd_nb n d K);have HQ1:=zH (fun w=>natQuo_nb n (Nat.gcd n d) K w hK hn (by omega) hg);have HQ2:=zH (fun w=>natQuo_nb d (Nat.gcd n d) K w hK hd (by omega) hg);have HN:=zH hn;have HD:=zH hd
 have hdz:(n / Nat.gcd n d=0)↔n=0:=by
  constructor
  ·intro h;rcases Nat.eq_zero_or_pos n with h1|h1
   ·exact h1
   ·have h2:=Nat.gcd_le_left d h1;have:=Nat.div_pos h2 hg;omega
  ·intro h;rw[h];exact Nat.zero_div _
 have hb:(!(nbs (n / Nat.gcd n d)).toList.isEmpty)=decide (n≠0):=by
  rw[nbs_isEmpty,decide_not,Bool.not_eq_eq_eq_not,Bool.not_not,decide_eq_decide,hdz]
 have HBB:=zH hb;have HLOW:Hid (low neg n d=⟨neg&&decide (n≠0),nbs (n / Nat.gcd n d),nbs (d / Nat.gcd n d)⟩):=rfl;generalize low neg n d=r at*;generalize Nat.gcd n d=g at*;clear hb hdz hgd hn hd;obtain⟨W,hW⟩:=zE (w.alloc (.cells #[.bool false,.string ⟨#[]⟩,.string ⟨#[]⟩] 43));have hba:Below w.heap.size w W:=by rw[hW];exact zB _ _
 have hblk:Blk W w.heap.size 43 [.bool false,.string ⟨#[]⟩,.string ⟨#[]⟩]:=by rw[hW];exact Blk.new w _ _
 cases neg
 all_goals
  go_enter Tryz.func114,Tryz.ntmps114;go_wp2_with fail;simp only[<-hW]
  refine (HG.out _ hK HN.out HD.out).mono ?_;rintro e w1 ⟨rfl,hb1⟩;go_wp2_with fail;refine (HQ1.out _).mono ?_;rintro e w2 ⟨rfl,hb2⟩;go_wp2_with fail;refine (HQ2.out _).mono ?_;rintro e w3 ⟨rfl,hb3⟩;have hb13:=bstep (bstep hb1 hb2) hb3;have hk3:=hblk.below hb13 hblk.lt;have hc0:=hk3.cell (i:=0) (by decide);have hc1:=hk3.cell (i:=1) (by decide);have hc2:=hk3.cell (i:=2) (by decide);have hf0:=hk3.frozen 0;have hf1:=hk3.frozen 1;have hf2:=hk3.frozen 2;simp only[List.getElem_cons_zero,List.getElem_cons_succ] at hc0 hc1 hc2;have hbw:=bstep hba hb13;clear hb1 hb2 hb3 hb13 hW;go_wp2
 ·refine bodyPost_ret (v:=.agg #[.bool false,.string (nbs (n / g)),.string (nbs (d / g))]) (by simp[results,Tryz.results114,go_sem,hc0,hc1,hc2]) rfl ⟨?_,((hbw.setCell (Nat.le_refl _) _).setCell (Nat.le_refl _) _).setCell (Nat.le_refl _) _⟩;rw[HLOW.out];rfl
 ·refine bodyPost_ret (v:=.agg #[.bool (!(nbs (n / g)).toList.isEmpty),.string (nbs (n / g)),.string (nbs (d / g))]) (by simp[results,Tryz.results114,go_sem,hc0,hc1,hc2]) rfl ⟨?_,((hbw.setCell (Nat.le_refl _) _).setCell (Nat.le_refl _) _).setCell (Nat.le_refl _) _⟩;rw[HLOW.out,HBB.out];rfl
theorem rightS_iff (s:ByteArray):rightS s=true↔s=nbs (vbs s):=by
 obtain⟨⟨l⟩⟩:=s;constructor
 ·intro h
  have h1:l=nb (vb l):=by
   rw[<-canonB_eq];cases l with
   |nil=>rfl
   |cons c l=>
    have hc:c≠0:=by simpa [rightS] using h
    simp[canonB,hc]
  show _=(⟨(nb (vb l)).toArray⟩:ByteArray)
  rw[<-h1]
 ·intro h;have hr:=right_nb (vb l)
  have h1:l=nb (vb l):=by
   have:=congrArg (fun s:ByteArray=>s.data.toList) h;exact this
  rw[<-h1] at hr;cases l with
  |nil=>rfl
  |cons c l=>have:=hr (by simp);simpa [rightS] using this
def okR (a:Ra):Bool:=rightS a.den&&decide (0<vbs a.den)&&rightS a.num&&decide (low a.neg (vbs a.num) (vbs a.den)=a)
theorem qpos_any (n:ByteArray) (w:World) (hn:n.size<=1073741824):
  Calls Tryz.prog 112 #[.agg #[.string ⟨#[]⟩],.string n] w fun e w'=>e=.returned (.bool (rightS n&&decide (0<vbs n)))/\Below w.heap.size w w':=by
 obtain⟨W,hW⟩:=zE (w.alloc (.cells #[.string ⟨#[]⟩] 178));have hba:Below w.heap.size w W:=by rw[hW];exact zB _ _
 have hblk:Blk W w.heap.size 178 [.string ⟨#[]⟩]:=by rw[hW];exact Blk.new w _ _
 have hc0:=hblk.cell (i:=0) (by decide);simp only[List.getElem_cons_zero] at hc0;have HR:=zH (natRight_any n W);have HC:=zH (natCmp_any n ⟨#[]⟩ W hn (by show 0<=_;omega))
 have hcmp:decide (0<cmpI (vbs n) (vbs ⟨#[]⟩))=decide (0<vbs n):=by
  rw[decide_eq_decide,show vbs ⟨#[]⟩=0 from rfl];unfold cmpI;split
  ·omega
  ·split<;>omega
 generalize cmpI (vbs n) (vbs ⟨#[]⟩)=z at*;cases hr:rightS n
 ·rw[hr] at HR;go_enter Tryz.func112,Tryz.ntmps112;go_wp2_with fail;simp only[<-hW]
  clear hW;refine HR.out.mono ?_;rintro e w' ⟨rfl,rfl⟩;go_wp2;go_ret;exact⟨rfl,hba⟩
 ·rw[hr] at HR;go_enter Tryz.func112,Tryz.ntmps112;go_wp2_with fail;simp only[<-hW]
  clear hW;refine HR.out.mono ?_;rintro e w' ⟨rfl,rfl⟩;go_wp2_with fail;refine HC.out.mono ?_;rintro e w2 ⟨rfl,hb2⟩;go_wp2;go_ret;refine⟨?_,bstep hba hb2⟩;rw[<-hcmp];rfl
theorem toList_inj {a b:ByteArray} (h:a.toList=b.toList):a=b:=by
 rw[ByteArray.toList_eq,ByteArray.toList_eq] at h;obtain⟨⟨a⟩⟩:=a;obtain⟨⟨b⟩⟩:=b;simp at h;rw[h]
theorem eqRa_if {α:Type} (f:Bool->α) (a b:Ra):
  (if a.neg=b.neg then if a.num.toList=b.num.toList then if a.den.toList=b.den.toList then f true else f false else f false else f false)=f (decide (a=b)):=by
 by_cases h:a=b
 ·subst h;simp
 ·rw[decide_eq_false h];split
  ·split
   ·split
    ·next h1 h2 h3=>
     exfalso;apply h;obtain⟨x,y,z⟩:=a;obtain⟨x',y',z'⟩:=b;simp only at h1 h2 h3;rw[h1,toList_inj h2,toList_inj h3]
    ·rfl
   ·rfl
  ·rfl
def RaAt (w:World) (b:Nat) (a:Ra):Prop:=
 w.cell? ⟨b,0,none⟩=some (.bool a.neg)/\w.cell? ⟨b,1,none⟩=some (.string a.num)/\w.cell? ⟨b,2,none⟩=some (.string a.den)
theorem RaAt.of_blk {w:World} {b:Nat} {a:Ra} {t:TypeId} (h:Blk w b t [.bool a.neg,.string a.num,.string a.den]):RaAt w b a:=by
 have hc0:=h.cell (i:=0) (by simp);have hc1:=h.cell (i:=1) (by simp);have hc2:=h.cell (i:=2) (by simp);exact⟨hc0,hc1,hc2⟩
theorem qRight_any (a:Ra) (w:World) (hn:a.num.size<=536870912) (hd:a.den.size<=536870912):
  Calls Tryz.prog 72 #[a.v] w fun e w'=>e=.returned (.bool (okR a))/\Below w.heap.size w w':=by
 obtain⟨neg,num,den⟩:=a;obtain⟨W,hW⟩:=zE (w.alloc (.cells #[.bool neg,.string num,.string den] 43));have hba:Below w.heap.size w W:=by rw[hW];exact zB _ _
 have hblk:Blk W w.heap.size 43 [.bool neg,.string num,.string den]:=by rw[hW];exact Blk.new w _ _
 obtain⟨B,hB⟩:=zE w.heap.size;rw[<-hB] at hblk;have hbs:B<W.heap.size:=hblk.lt;have hc:=RaAt.of_blk (a:=⟨neg,num,den⟩) hblk;obtain⟨hc0,hc1,hc2⟩:=hc
 have HK:Hid (∀w' w1:World,(w'.cell? ⟨B,0,none⟩=some (.bool neg)/\w'.cell? ⟨B,1,none⟩=some (.string num)/\w'.cell? ⟨B,2,none⟩=some (.string den)/\Below W.heap.size W w')->Below w'.heap.size w' w1->
   (w1.cell? ⟨B,0,none⟩=some (.bool neg)/\w1.cell? ⟨B,1,none⟩=some (.string num)/\w1.cell? ⟨B,2,none⟩=some (.string den)/\Below W.heap.size W w1)):=by
  rintro w' w1 ⟨h0,h1,h2,hb⟩ hb1;have hlt:B<w'.heap.size:=Nat.lt_of_lt_of_le hbs hb.size;exact⟨(hb1.cell hlt).trans h0,(hb1.cell hlt).trans h1,(hb1.cell hlt).trans h2,bstep hb hb1⟩
 have HS:Hid (W.drew.cell? ⟨B,0,none⟩=some (.bool neg)/\W.drew.cell? ⟨B,1,none⟩=some (.string num)/\W.drew.cell? ⟨B,2,none⟩=some (.string den)/\Below W.heap.size W W.drew):=
  ⟨hc0,hc1,hc2,below_drewN (Below.refl _ _) 1⟩
 have HP:=zH (fun w=>qpos_any den w (by simp at hd;omega));have HR:=zH (fun w=>natRight_any num w);simp only at hn hd;have HOK:Hid (okR ⟨neg,num,den⟩=(rightS den&&decide (0<vbs den)&&rightS num&&decide (low neg (vbs num) (vbs den)=⟨neg,num,den⟩))):=rfl;cases hp:(rightS den&&decide (0<vbs den))
 ·rw[hp] at HP HOK;clear hp hblk hc0 hc1 hc2;unfold Ra.v;go_enter Tryz.func72,Tryz.ntmps72;go_wp2_with fail;simp only[<-hW,<-hB]
  clear hW hB;refine wp_region_noPanic ?_;refine wp_region_held_drew (S:=fun w'=>w'.cell? ⟨B,0,none⟩=some (.bool neg)/\w'.cell? ⟨B,1,none⟩=some (.string num)/\w'.cell? ⟨B,2,none⟩=some (.string den)/\Below W.heap.size W w') (by kernel_rfl) HS.out (fun hHeld=>?_);refine tkZ 0 ?_;refine tkZ 1 ?_;refine tkZ 2 ?_;refine tkR 3 fun K hK=>?_
  go_simp;refine (HP.out _).mono ?_;rintro e w1 ⟨rfl,hb1⟩;go_wp2_with fail;refine tkK hK (HK.out _ _ (by assumption) hb1) fun hHeld=>?_
  clear hK K;refine tkZ 4 ?_;refine tkN 5 rfl ?_
  try simp only[Act.put,tk1,tk2,tk3,tk4,tk5,tk6]
  refine tkN 6 rfl ?_
  try simp only[Act.put,tk1,tk2,tk3,tk4,tk5,tk6]
  refine tkN 7 rfl ?_
  try simp only[Act.put,tk1,tk2,tk3,tk4,tk5,tk6]
  refine tkZ 8 ?_;refine tkZ 9 ?_;refine tkN 10 rfl ?_
  try simp only[Act.put,tk1,tk2,tk3,tk4,tk5,tk6]
  refine tkN 11 rfl ?_
  try simp only[Act.put,tk1,tk2,tk3,tk4,tk5,tk6]
  refine tkN 12 rfl ?_
  try simp only[Act.put,tk1,tk2,tk3,tk4,tk5,tk6]
  refine tkN 13 rfl ?_
  try simp only[Act.put,tk1,tk2,tk3,tk4,tk5,tk6]
  refine tkN 14 rfl ?_
  try simp only[Act.put,tk1,tk2,tk3,tk4,tk5,tk6]
  refine tkN 15 rfl ?_
  try simp only[Act.put,tk1,tk2,tk3,tk4,tk5,tk6]
  refine tkN 16 rfl ?_
  try simp only[Act.put,tk1,tk2,tk3,tk4,tk5,tk6]
  refine tkN 17 rfl ?_
  try simp only[Act.put,tk1,tk2,tk3,tk4,tk5,tk6]
  refine tkN 18 rfl ?_
  try simp only[Act.put,tk1,tk2,tk3,tk4,tk5,tk6]
  refine tkZ 19 ?_;refine tkZ 20 ?_;refine wpAnyH_done (by kernel_rfl) ?_ _;refine NoPanic.normal ?_;go_wp2;go_ret;exact⟨by rw[HOK.out];rfl,bstep hba hHeld.2.2.2⟩
 ·rw[hp] at HP HOK;cases hr:rightS num
  ·rw[hr] at HR HOK;clear hr hp hblk hc0 hc1 hc2;unfold Ra.v;go_enter Tryz.func72,Tryz.ntmps72;go_wp2_with fail;simp only[<-hW,<-hB]
   clear hW hB;refine wp_region_noPanic ?_;refine wp_region_held_drew (S:=fun w'=>w'.cell? ⟨B,0,none⟩=some (.bool neg)/\w'.cell? ⟨B,1,none⟩=some (.string num)/\w'.cell? ⟨B,2,none⟩=some (.string den)/\Below W.heap.size W w') (by kernel_rfl) HS.out (fun hHeld=>?_);refine tkZ 0 ?_;refine tkZ 1 ?_;refine tkZ 2 ?_;refine tkR 3 fun K hK=>?_
   go_simp;refine (HP.out _).mono ?_;rintro e w1 ⟨rfl,hb1⟩;go_wp2_with fail;refine tkK hK (HK.out _ _ (by assumption) hb1) fun hHeld=>?_
   clear hK K;refine tkZ 4 ?_;refine tkZ 5 ?_;refine tkZ 6 ?_;refine tkR 7 fun K hK=>?_
   go_simp;refine (HR.out _).mono ?_;rintro e w1 ⟨rfl,rfl⟩;go_wp2_with fail;refine tkK hK (by assumption) fun hHeld=>?_
   clear hK K;refine tkZ 8 ?_;refine tkZ 9 ?_;refine tkN 10 rfl ?_
   try simp only[Act.put,tk1,tk2,tk3,tk4,tk5,tk6]
   refine tkN 11 rfl ?_
   try simp only[Act.put,tk1,tk2,tk3,tk4,tk5,tk6]
   refine tkN 12 rfl ?_
   try simp only[Act.put,tk1,tk2,tk3,tk4,tk5,tk6]
   refine tkN 13 rfl ?_
   try simp only[Act.put,tk1,tk2,tk3,tk4,tk5,tk6]
   refine tkN 14 rfl ?_
   try simp only[Act.put,tk1,tk2,tk3,tk4,tk5,tk6]
   refine tkN 15 rfl ?_
   try simp only[Act.put,tk1,tk2,tk3,tk4,tk5,tk6]
   refine tkN 16 rfl ?_
   try simp only[Act.put,tk1,tk2,tk3,tk4,tk5,tk6]
   refine tkN 17 rfl ?_
   try simp only[Act.put,tk1,tk2,tk3,tk4,tk5,tk6]
   refine tkN 18 rfl ?_
   try simp only[Act.put,tk1,tk2,tk3,tk4,tk5,tk6]
   refine tkZ 19 ?_;refine tkZ 20 ?_;refine wpAnyH_done (by kernel_rfl) ?_ _;refine NoPanic.normal ?_;go_wp2;go_ret;exact⟨by rw[HOK.out];rfl,bstep hba hHeld.2.2.2⟩
  ·rw[hr] at HR HOK;rw[Bool.and_eq_true,decide_eq_true_eq] at hp;have en:=(rightS_iff num).1 hr;have ed:=(rightS_iff den).1 hp.1;have hvn:=vbs_lt num;have hvd:=vbs_lt den;obtain⟨K,hK⟩:=zE 536870912;have HL:=zH (fun w=>qlowest_any neg (vbs num) (vbs den) K w (Nat.le_of_eq hK) (vbs_le num K (by rw[hK];exact hn)) (vbs_le den K (by rw[hK];exact hd)) hp.2);clear hK;rw[<-en,<-ed] at HL;obtain⟨lw,hlw⟩:=zF (low neg (vbs num) (vbs den));rw[hlw] at HL HOK;obtain⟨ln,lu,ld⟩:=lw;obtain⟨dq,hdq⟩:∃d,decide ((⟨ln,lu,ld⟩:Ra)=⟨neg,num,den⟩)=d:=⟨_,rfl⟩
   rw[hdq] at HOK;have HDQ:=zH hdq;clear hdq;clear hr hp hblk hc0 hc1 hc2 en ed hvn hvd hlw;unfold Ra.v;go_enter Tryz.func72,Tryz.ntmps72;go_wp2_with fail;simp only[<-hW,<-hB]
   clear hW hB;refine wp_region_noPanic ?_;refine wp_region_held_drew (S:=fun w'=>w'.cell? ⟨B,0,none⟩=some (.bool neg)/\w'.cell? ⟨B,1,none⟩=some (.string num)/\w'.cell? ⟨B,2,none⟩=some (.string den)/\Below W.heap.size W w') (by kernel_rfl) HS.out (fun hHeld=>?_);refine tkZ 0 ?_;refine tkZ 1 ?_;refine tkZ 2 ?_;refine tkR 3 fun K hK=>?_
   go_simp;refine (HP.out _).mono ?_;rintro e w1 ⟨rfl,hb1⟩;go_wp2_with fail;refine tkK hK (HK.out _ _ (by assumption) hb1) fun hHeld=>?_
   clear hK K;refine tkZ 4 ?_;refine tkZ 5 ?_;refine tkZ 6 ?_;refine tkR 7 fun K hK=>?_
   go_simp;refine (HR.out _).mono ?_;rintro e w1 ⟨rfl,rfl⟩;go_wp2_with fail;refine tkK hK (by assumption) fun hHeld=>?_
   clear hK K;refine tkZ 8 ?_;refine tkZ 9 ?_;refine tkZ 10 ?_;refine tkZ 11 ?_;refine tkZ 12 ?_;refine tkZ 13 ?_;refine tkZ 14 ?_;refine tkZ 15 ?_;refine tkZ 17 ?_;refine tkR 16 fun K hK=>?_
   go_simp;refine (HL.out _).mono ?_;rintro e w1 ⟨rfl,hb1⟩;simp only[Ra.v]
   go_wp2_with fail;refine tkK hK (HK.out _ _ (by assumption) hb1) fun hHeld=>?_
   clear hK K;refine tkY 18 (.bool dq) rfl ?_ ?_
   ·intro w hSw;(try dsimp only at hSw);go_simp;rw[<-HDQ.out];exact eqRa_if (fun t=>Result.ok (Next.value (Value.bool t)) w) ⟨ln,lu,ld⟩ ⟨neg,num,den⟩
   try simp only[Act.put,tk1,tk2,tk3,tk4,tk5,tk6]
   refine tkZ 19 ?_;refine tkZ 20 ?_;refine wpAnyH_done (by kernel_rfl) ?_ _;refine NoPanic.normal ?_;go_wp2;go_ret;exact⟨by rw[HOK.out];rfl,bstep hba hHeld.2.2.2⟩
def ofI (n:Int):Ra:=⟨decide (n<0),nbs n.natAbs,nbs 1⟩
theorem natOf_one (w:World):Calls Tryz.prog 124 #[.int .i64 1] w fun e w'=>e=.returned (.string (nbs 1))/\Below w.heap.size w w':=natOf_any 1 w (by omega) (by omega)
theorem qOf_any (n:Int) (w:World) (h0:-9223372036854775808<=n) (h1:n<=9223372036854775807):
  Calls Tryz.prog 115 #[.int .i64 n] w fun e w'=>e=.returned (ofI n).v/\Below w.heap.size w w':=by
 obtain⟨W,hW⟩:=zE (w.alloc (.cells #[.bool false,.string ⟨#[]⟩,.string ⟨#[]⟩] 43));have hba:Below w.heap.size w W:=by rw[hW];exact zB _ _
 have hblk:Blk W w.heap.size 43 [.bool false,.string ⟨#[]⟩,.string ⟨#[]⟩]:=by rw[hW];exact Blk.new w _ _
 by_cases hn:n<0
 ·have HO:Hid (ofI n=⟨true,nbs (n+1).natAbs.succ,nbs 1⟩):=by
   show _=_;unfold ofI;rw[decide_eq_true hn,show n.natAbs=(n+1).natAbs.succ from by omega]
  have HA:=zH (fun w=>natAdd_any (nbs (n+1).natAbs) (nbs 1) w (Nat.le_trans (nbs_size_le _ 9 (by omega)) (by omega)) (Nat.le_trans (nbs_size_le _ 9 (by omega)) (by omega)));rw[vbs_nbs,vbs_nbs] at HA;have hneg:IntKind.i64.wrap (-(n+1))= -(n+1):=IntWalk.i64_in _ (by omega);have hng:(-(n+1)).toNat=(n+1).natAbs:=by omega
  go_enter Tryz.func115,Tryz.ntmps115;go_wp2_with fail;simp only[<-hW]
  clear hW;refine (natOf_any _ _ (by omega) (by omega)).mono ?_;rintro e w1 ⟨rfl,hb1⟩;go_wp2_with fail;refine (natOf_one _).mono ?_;rintro e w2 ⟨rfl,hb2⟩
  try rw[hng]
  go_wp2_with fail;refine (HA.out _).mono ?_;rintro e w3 ⟨rfl,hb3⟩;go_wp2_with fail;refine (natOf_one _).mono ?_;rintro e w4 ⟨rfl,hb4⟩;have hb14:=bstep (bstep (bstep hb1 hb2) hb3) hb4;have hk3:=hblk.below hb14 hblk.lt;have hc0:=hk3.cell (i:=0) (by decide);have hc1:=hk3.cell (i:=1) (by decide);have hc2:=hk3.cell (i:=2) (by decide);have hf0:=hk3.frozen 0;have hf1:=hk3.frozen 1;have hf2:=hk3.frozen 2;simp only[List.getElem_cons_zero,List.getElem_cons_succ] at hc0 hc1 hc2;have hbw:=bstep hba hb14;clear hb1 hb2 hb3 hb4 hb14;go_wp2;refine bodyPost_ret (v:=.agg #[.bool true,.string (nbs ((n+1).natAbs+1)),.string (nbs 1)]) (by simp[results,Tryz.results115,go_sem,hc0,hc1,hc2]) rfl ⟨?_,((hbw.setCell (Nat.le_refl _) _).setCell (Nat.le_refl _) _).setCell (Nat.le_refl _) _⟩;rw[HO.out];rfl
 ·have HO:Hid (ofI n=⟨false,nbs n.toNat,nbs 1⟩):=by
   show _=_;unfold ofI;rw[decide_eq_false hn,show n.natAbs=n.toNat from by omega]
  go_enter Tryz.func115,Tryz.ntmps115;go_wp2_with fail;simp only[<-hW]
  clear hW;refine (natOf_any _ _ (by omega) (by omega)).mono ?_;rintro e w1 ⟨rfl,hb1⟩;go_wp2_with fail;refine (natOf_one _).mono ?_;rintro e w2 ⟨rfl,hb2⟩;have hb14:=bstep hb1 hb2;have hk3:=hblk.below hb14 hblk.lt;have hc0:=hk3.cell (i:=0) (by decide);have hc1:=hk3.cell (i:=1) (by decide);have hc2:=hk3.cell (i:=2) (by decide);have hf0:=hk3.frozen 0;have hf1:=hk3.frozen 1;have hf2:=hk3.frozen 2;simp only[List.getElem_cons_zero,List.getElem_cons_succ] at hc0 hc1 hc2;have hbw:=bstep hba hb14;clear hb1 hb2 hb14;go_wp2;refine bodyPost_ret (v:=.agg #[.bool false,.string (nbs n.toNat),.string (nbs 1)]) (by simp[results,Tryz.results115,go_sem,hc0,hc1,hc2]) rfl ⟨?_,((hbw.setCell (Nat.le_refl _) _).setCell (Nat.le_refl _) _).setCell (Nat.le_refl _) _⟩;rw[HO.out];rfl
def valR (a:Ra):Ra:=if okR a then a else ofI 0
structure Two (w:World) (t1 t2:TypeId) (l1 l2:List Value) (W:World):Prop where
 one:Blk W w.heap.size t1 l1
 two:Blk W (w.heap.size+1) t2 l2
 below:Below w.heap.size w W
 size:W.heap.size=w.heap.size+2
theorem Two.new (w:World) (t1 t2:TypeId) (cs1 cs2:Array Value):Two w t1 t2 cs1.toList cs2.toList ((w.alloc (.cells cs1 t1)).alloc (.cells cs2 t2)):=by
 have h1:(w.alloc (.cells cs1 t1)).heap.size=w.heap.size+1:=by show (w.heap.push _).size=_;rw[Array.size_push]
 have hb1:Below w.heap.size w (w.alloc (.cells cs1 t1)):=(Below.refl _ _).alloc (Nat.le_refl _) _;have hb2:Below (w.alloc (.cells cs1 t1)).heap.size (w.alloc (.cells cs1 t1)) ((w.alloc (.cells cs1 t1)).alloc (.cells cs2 t2)):=(Below.refl _ _).alloc (Nat.le_refl _) _;have k1:=Blk.new w t1 cs1;have k2:=Blk.new (w.alloc (.cells cs1 t1)) t2 cs2;rw[h1] at k2;exact⟨k1.below hb2 k1.lt,k2,bstep hb1 hb2,by show ((w.alloc (.cells cs1 t1)).heap.push _).size=_;rw[Array.size_push,h1]⟩
theorem qvalue_any (a:Ra) (w:World) (hn:a.num.size<=536870912) (hd:a.den.size<=536870912):
  Calls Tryz.prog 122 #[a.v] w fun e w'=>e=.returned (valR a).v/\Below w.heap.size w w':=by
 have HR:=zH (fun w=>qRight_any a w hn hd);have HV:Hid (valR a=if okR a then a else ofI 0):=rfl;obtain⟨o,ho⟩:=zF (okR a);rw[ho] at HR HV;clear ho hn hd;generalize valR a=va at*;obtain⟨neg,num,den⟩:=a;unfold Ra.v at HR⊢;obtain⟨W,hW⟩:=zE ((w.alloc (.cells #[.bool neg,.string num,.string den] 43)).alloc (.cells #[.bool false,.string ⟨#[]⟩,.string ⟨#[]⟩] 43));have htwo:=Two.new w 43 43 #[.bool neg,.string num,.string den] #[.bool false,.string ⟨#[]⟩,.string ⟨#[]⟩];rw[<-hW] at htwo;obtain⟨hblk1,hblk,hbw,hsz⟩:=htwo;have hl1:=hblk1.lt;have hl2:=hblk.lt;obtain⟨hd0,hd1,hd2⟩:=RaAt.of_blk (a:=⟨neg,num,den⟩) hblk1;simp only at hd0 hd1 hd2;obtain⟨B,hB⟩:=zE w.heap.size;rw[<-hB] at hd0 hd1 hd2 hblk hbw hsz hl1 hl2 hblk1;have HB:=zH hB
 have hr:∀w1,Below W.heap.size W w1->w1.cell? ⟨B,0,none⟩=some (.bool neg)/\w1.cell? ⟨B,1,none⟩=some (.string num)/\w1.cell? ⟨B,2,none⟩=some (.string den):=fun w1 hb=>by
  obtain⟨h0,h1,h2⟩:=RaAt.of_blk (a:=⟨neg,num,den⟩) (hblk1.below hb hl1);exact⟨h0,h1,h2⟩
 have HRD:=zH hr;clear hr;cases o
 all_goals
  go_enter Tryz.func122,Tryz.ntmps122;go_wp2_with fail;simp only[<-hW,<-hB]
  clear hW hB;refine (HR.out _).mono ?_;rintro e w1 ⟨rfl,hb1⟩;obtain⟨hd0,hd1,hd2⟩:=HRD.out w1 hb1;have hk1:=hblk.below hb1 hl2
 ·go_wp2_with fail;refine (qOf_any 0 _ (by omega) (by omega)).mono ?_;rintro e w2 ⟨rfl,hb2⟩;have hk2:=hk1.below hb2 hk1.lt;have hc0:=hk2.cell (i:=0) (by decide);have hc1:=hk2.cell (i:=1) (by decide);have hc2:=hk2.cell (i:=2) (by decide);have hf0:=hk2.frozen 0;have hf1:=hk2.frozen 1;have hf2:=hk2.frozen 2;simp only[List.getElem_cons_zero,List.getElem_cons_succ] at hc0 hc1 hc2;simp only[Ra.v,ofI]
  go_wp2;refine bodyPost_ret (v:=.agg #[.bool false,.string (nbs 0),.string (nbs 1)]) (by simp[results,Tryz.results122,go_sem,hc0,hc1,hc2]) rfl ⟨?_,?_⟩
  ·rw[HV.out];rfl
  ·have h1:Below B w w2:=hbw.trans ((bstep hb1 hb2).mono (by omega));rw[<-HB.out];exact ((h1.setCell (Nat.le_succ _) _).setCell (Nat.le_succ _) _).setCell (Nat.le_succ _) _
 ·have hc0:=hk1.cell (i:=0) (by decide);have hc1:=hk1.cell (i:=1) (by decide);have hc2:=hk1.cell (i:=2) (by decide);have hf0:=hk1.frozen 0;have hf1:=hk1.frozen 1;have hf2:=hk1.frozen 2;simp only[List.getElem_cons_zero,List.getElem_cons_succ] at hc0 hc1 hc2;go_wp2;refine bodyPost_ret (v:=.agg #[.bool neg,.string num,.string den]) (by simp[results,Tryz.results122,go_sem,hc0,hc1,hc2]) rfl ⟨?_,?_⟩
  ·rw[HV.out];rfl
  ·have h1:Below B w w1:=hbw.trans (hb1.mono (by omega));rw[<-HB.out];exact ((h1.setCell (Nat.le_succ _) _).setCell (Nat.le_succ _) _).setCell (Nat.le_succ _) _
def mkR (neg:Bool) (num den:ByteArray):Ra × Bool:=
 if rightS den&&decide (0<vbs den)&&rightS num then (low neg (vbs num) (vbs den),true) else (⟨false,⟨#[]⟩,⟨#[]⟩⟩,false)
theorem qMake_any (neg:Bool) (num den:ByteArray) (w:World) (hn:num.size<=536870912) (hd:den.size<=536870912):
  Calls Tryz.prog 213 #[.bool neg,.string num,.string den] w fun e w'=>e=.returned (.tuple #[(mkR neg num den).1.v,.bool (mkR neg num den).2])/\Below w.heap.size w w':=by
 obtain⟨W,hW⟩:=zE (w.alloc (.cells #[.bool false,.string ⟨#[]⟩,.string ⟨#[]⟩] 43));have hba:Below w.heap.size w W:=by rw[hW];exact zB _ _
 have hblk:Blk W w.heap.size 43 [.bool false,.string ⟨#[]⟩,.string ⟨#[]⟩]:=by rw[hW];exact Blk.new w _ _
 have HP:=zH (fun w=>qpos_any den w (by omega));have HR:=zH (fun w=>natRight_any num w);have HM:Hid (mkR neg num den=if rightS den&&decide (0<vbs den)&&rightS num then (low neg (vbs num) (vbs den),true) else (⟨false,⟨#[]⟩,⟨#[]⟩⟩,false)):=rfl;cases hp:(rightS den&&decide (0<vbs den))
 ·rw[hp] at HP HM;clear hp;go_enter Tryz.func213,Tryz.ntmps213;go_wp2_with fail;simp only[<-hW]
  clear hW;refine (HP.out _).mono ?_;rintro e w1 ⟨rfl,hb1⟩;have hk3:=hblk.below hb1 hblk.lt;have hc0:=hk3.cell (i:=0) (by decide);have hc1:=hk3.cell (i:=1) (by decide);have hc2:=hk3.cell (i:=2) (by decide);have hf0:=hk3.frozen 0;have hf1:=hk3.frozen 1;have hf2:=hk3.frozen 2;simp only[List.getElem_cons_zero,List.getElem_cons_succ] at hc0 hc1 hc2;have hbw:=bstep hba hb1;go_wp2;refine bodyPost_ret (v:=.tuple #[.agg #[.bool false,.string ⟨#[]⟩,.string ⟨#[]⟩],.bool false]) (by simp[results,Tryz.results213,go_sem,hc0,hc1,hc2]) rfl ⟨?_,((hbw.setCell (Nat.le_refl _) _).setCell (Nat.le_refl _) _).setCell (Nat.le_refl _) _⟩;rw[HM.out];rfl
 ·rw[hp] at HP HM;cases hr:rightS num
  ·rw[hr] at HR HM;clear hp hr;go_enter Tryz.func213,Tryz.ntmps213;go_wp2_with fail;simp only[<-hW]
   clear hW;refine (HP.out _).mono ?_;rintro e w1 ⟨rfl,hb1⟩;go_wp2_with fail;refine (HR.out _).mono ?_;rintro e w2 ⟨rfl,rfl⟩;have hk3:=hblk.below hb1 hblk.lt;have hc0:=hk3.cell (i:=0) (by decide);have hc1:=hk3.cell (i:=1) (by decide);have hc2:=hk3.cell (i:=2) (by decide);have hf0:=hk3.frozen 0;have hf1:=hk3.frozen 1;have hf2:=hk3.frozen 2;simp only[List.getElem_cons_zero,List.getElem_cons_succ] at hc0 hc1 hc2;have hbw:=bstep hba hb1;go_wp2;refine bodyPost_ret (v:=.tuple #[.agg #[.bool false,.string ⟨#[]⟩,.string ⟨#[]⟩],.bool false]) (by simp[results,Tryz.results213,go_sem,hc0,hc1,hc2]) rfl ⟨?_,((hbw.setCell (Nat.le_refl _) _).setCell (Nat.le_refl _) _).setCell (Nat.le_refl _) _⟩;rw[HM.out];rfl
  ·rw[hr] at HR HM;rw[Bool.and_eq_true,decide_eq_true_eq] at hp;have en:=(rightS_iff num).1 hr;have ed:=(rightS_iff den).1 hp.1;have hvn:=vbs_lt num;have hvd:=vbs_lt den;obtain⟨K,hK⟩:=zE 536870912;have HL:=zH (fun w=>qlowest_any neg (vbs num) (vbs den) K w (Nat.le_of_eq hK) (vbs_le num K (by rw[hK];exact hn)) (vbs_le den K (by rw[hK];exact hd)) hp.2);clear hK;rw[<-en,<-ed] at HL;obtain⟨lw,hlw⟩:=zF (low neg (vbs num) (vbs den));rw[hlw] at HL HM;obtain⟨ln,lu,ld⟩:=lw;clear hr hp en ed hvn hvd hlw;go_enter Tryz.func213,Tryz.ntmps213;go_wp2_with fail;simp only[<-hW]
   clear hW;refine (HP.out _).mono ?_;rintro e w1 ⟨rfl,hb1⟩;go_wp2_with fail;refine (HR.out _).mono ?_;rintro e w2 ⟨rfl,rfl⟩;go_wp2_with fail;refine (HL.out _).mono ?_;rintro e w3 ⟨rfl,hb3⟩;have hb13:=bstep hb1 hb3;have hk3:=hblk.below hb13 hblk.lt;have hc0:=hk3.cell (i:=0) (by decide);have hc1:=hk3.cell (i:=1) (by decide);have hc2:=hk3.cell (i:=2) (by decide);have hf0:=hk3.frozen 0;have hf1:=hk3.frozen 1;have hf2:=hk3.frozen 2;simp only[List.getElem_cons_zero,List.getElem_cons_succ] at hc0 hc1 hc2;have hbw:=bstep hba hb13;simp only[Ra.v]
   go_wp2;refine bodyPost_ret (v:=.tuple #[.agg #[.bool ln,.string lu,.string ld],.bool true]) (by simp[results,Tryz.results213,go_sem,hc0,hc1,hc2]) rfl ⟨?_,((hbw.setCell (Nat.le_refl _) _).setCell (Nat.le_refl _) _).setCell (Nat.le_refl _) _⟩;rw[HM.out];rfl
def signR (a:Ra):Int:=if okR a then (if a=ofI 0 then 0 else if a.neg then-1 else 1) else 0
theorem qSign_any (a:Ra) (w:World) (hn:a.num.size<=536870912) (hd:a.den.size<=536870912):
  Calls Tryz.prog 73 #[a.v] w fun e w'=>e=.returned (.int .i64 (signR a))/\Below w.heap.size w w':=by
 have HR:=zH (fun w=>qRight_any a w hn hd);have HV:Hid (signR a=if okR a then (if a=ofI 0 then 0 else if a.neg then-1 else 1) else 0):=rfl;obtain⟨o,ho⟩:=zF (okR a);rw[ho] at HR HV;clear ho hn hd;obtain⟨z,hz⟩:=zF (signR a);rw[hz] at HV⊢;clear hz;obtain⟨neg,num,den⟩:=a;obtain⟨dq,hdq⟩:∃d,decide ((⟨neg,num,den⟩:Ra)=ofI 0)=d:=⟨_,rfl⟩
 have HDQ:=zH hdq;clear hdq
 have HZ:Hid (z=if o then (if dq then 0 else if neg then-1 else 1) else 0):=by
  show _=_;have h:=HV.out;rw[h,<-HDQ.out];simp
 clear HV;unfold Ra.v at HR⊢;obtain⟨W,hW⟩:=zE (w.alloc (.cells #[.bool neg,.string num,.string den] 43));have hba:Below w.heap.size w W:=by rw[hW];exact zB _ _
 have hblk:Blk W w.heap.size 43 [.bool neg,.string num,.string den]:=by rw[hW];exact Blk.new w _ _
 obtain⟨B,hB⟩:=zE w.heap.size;rw[<-hB] at hblk;have hbs:B<W.heap.size:=hblk.lt;have hc:=RaAt.of_blk (a:=⟨neg,num,den⟩) hblk;obtain⟨hc0,hc1,hc2⟩:=hc
 have HK:Hid (∀w' w1:World,(w'.cell? ⟨B,0,none⟩=some (.bool neg)/\w'.cell? ⟨B,1,none⟩=some (.string num)/\w'.cell? ⟨B,2,none⟩=some (.string den)/\Below W.heap.size W w')->Below w'.heap.size w' w1->
   (w1.cell? ⟨B,0,none⟩=some (.bool neg)/\w1.cell? ⟨B,1,none⟩=some (.string num)/\w1.cell? ⟨B,2,none⟩=some (.string den)/\Below W.heap.size W w1)):=by
  rintro w' w1 ⟨h0,h1,h2,hb⟩ hb1;have hlt:B<w'.heap.size:=Nat.lt_of_lt_of_le hbs hb.size;exact⟨(hb1.cell hlt).trans h0,(hb1.cell hlt).trans h1,(hb1.cell hlt).trans h2,bstep hb hb1⟩
 have HS:Hid (W.drew.cell? ⟨B,0,none⟩=some (.bool neg)/\W.drew.cell? ⟨B,1,none⟩=some (.string num)/\W.drew.cell? ⟨B,2,none⟩=some (.string den)/\Below W.heap.size W W.drew):=
  ⟨hc0,hc1,hc2,below_drewN (Below.refl _ _) 1⟩
 clear hblk hc0 hc1 hc2;cases o
 ·go_enter Tryz.func73,Tryz.ntmps73;go_wp2_with fail;simp only[<-hW,<-hB]
  clear hW hB;refine wp_region_noPanic ?_;refine wp_region_held_drew (S:=fun w'=>w'.cell? ⟨B,0,none⟩=some (.bool neg)/\w'.cell? ⟨B,1,none⟩=some (.string num)/\w'.cell? ⟨B,2,none⟩=some (.string den)/\Below W.heap.size W w') (by kernel_rfl) HS.out (fun hHeld=>?_);refine tkZ 0 ?_;refine tkR 1 fun K hK=>?_
  go_simp;refine (HR.out _).mono ?_;rintro e w1 ⟨rfl,hb1⟩;go_wp2_with fail;refine tkK hK (HK.out _ _ (by assumption) hb1) fun hHeld=>?_
  clear hK K;refine tkZ 2 ?_;refine tkZ 3 ?_;refine tkN 4 rfl ?_
  try simp only[Act.put,tk1,tk2,tk3,tk4,tk5,tk6]
  refine tkN 5 rfl ?_
  try simp only[Act.put,tk1,tk2,tk3,tk4,tk5,tk6]
  refine tkN 6 rfl ?_
  try simp only[Act.put,tk1,tk2,tk3,tk4,tk5,tk6]
  refine tkZ 7 ?_;refine tkZ 8 ?_;refine wpAnyH_done (by kernel_rfl) ?_ _;refine NoPanic.normal ?_;go_wp2;go_ret;exact⟨by rw[HZ.out];rfl,bstep hba hHeld.2.2.2⟩
 ·go_enter Tryz.func73,Tryz.ntmps73;go_wp2_with fail;simp only[<-hW,<-hB]
  clear hW hB;refine wp_region_noPanic ?_;refine wp_region_held_drew (S:=fun w'=>w'.cell? ⟨B,0,none⟩=some (.bool neg)/\w'.cell? ⟨B,1,none⟩=some (.string num)/\w'.cell? ⟨B,2,none⟩=some (.string den)/\Below W.heap.size W w') (by kernel_rfl) HS.out (fun hHeld=>?_);refine tkZ 0 ?_;refine tkR 1 fun K hK=>?_
  go_simp;refine (HR.out _).mono ?_;rintro e w1 ⟨rfl,hb1⟩;go_wp2_with fail;refine tkK hK (HK.out _ _ (by assumption) hb1) fun hHeld=>?_
  clear hK K;refine tkZ 2 ?_;refine tkZ 3 ?_;refine tkZ 4 ?_;refine tkR 5 fun K hK=>?_
  go_simp;refine (qOf_any 0 _ (by omega) (by omega)).mono ?_;rintro e w1 ⟨rfl,hb1⟩;simp only[Ra.v]
  go_wp2_with fail;refine tkK hK (HK.out _ _ (by assumption) hb1) fun hHeld=>?_
  clear hK K;refine tkY 6 (.bool dq) rfl ?_ ?_
  ·intro w hSw;(try dsimp only at hSw);go_simp;rw[<-HDQ.out];exact eqRa_if (fun t=>Result.ok (Next.value (Value.bool t)) w) ⟨neg,num,den⟩ (ofI 0)
  try simp only[Act.put,tk1,tk2,tk3,tk4,tk5,tk6]
  refine tkZ 7 ?_;refine tkZ 8 ?_;refine wpAnyH_done (by kernel_rfl) ?_ _;refine NoPanic.normal ?_;obtain⟨hd0,hd1,hd2,hd3⟩:=hHeld;have HH:=zH hd3;clear hd3;cases dq
  ·cases neg
   ·go_wp2;go_ret;exact⟨by rw[HZ.out];rfl,bstep hba HH.out⟩
   ·go_wp2;go_ret;exact⟨by rw[HZ.out];rfl,bstep hba HH.out⟩
  ·go_wp2;go_ret;exact⟨by rw[HZ.out];rfl,bstep hba HH.out⟩
def textR (a:Ra):ByteArray:=
 let s:=if (valR a).neg then ⟨#[45]⟩++decS (vbs (valR a).num) else decS (vbs (valR a).num)
 if (valR a).den=nbs 1 then s else s++(⟨#[47]⟩++decS (vbs (valR a).den))
theorem beq_toList (a b:ByteArray):(a.toList==b.toList)=decide (a=b):=by
 rw[Bool.eq_iff_iff,beq_iff_eq,decide_eq_true_iff];exact⟨toList_inj,fun h=>by rw[h]⟩
theorem decS_size (n K:Nat) (hK:0<K) (h:n<256 ^ K):(decS n).size<=3*K:=dec_len_le n K hK h
theorem decS_small (s:ByteArray) (h:s.size<=1048576):(decS (vbs s)).size<=3145728:=by
 obtain⟨K,hK⟩:=zE 1048576;rw[<-hK] at h;have:=decS_size (vbs s) K (by omega) (vbs_le s K h);omega
theorem valR_size (a:Ra) (K:Nat) (hK:0<K) (hn:a.num.size<=K) (hd:a.den.size<=K):(valR a).num.size<=K/\(valR a).den.size<=K:=by
 unfold valR;split
 ·exact⟨hn,hd⟩
 ·exact⟨Nat.zero_le _,hK⟩
theorem qText_any (a:Ra) (w:World) (hL:Laid w) (hn:a.num.size<=1048576) (hd:a.den.size<=1048576):
  Calls Tryz.prog 83 #[a.v] w fun e w'=>e=.returned (.string (textR a))/\Below w.heap.size w w':=by
 obtain⟨hvn,hvd⟩:=valR_size a 1048576 (by omega) hn hd;have HR:=zH (fun w=>qvalue_any a w (by omega) (by omega))
 have HT:Hid (textR a=(let s:=if (valR a).neg then ⟨#[45]⟩++decS (vbs (valR a).num) else decS (vbs (valR a).num)
  if (valR a).den=nbs 1 then s else s++(⟨#[47]⟩++decS (vbs (valR a).den)))):=rfl
 generalize textR a=tx at*;obtain⟨va,hva⟩:=zF (valR a);rw[hva] at HR HT hvn hvd;clear hva hn hd;obtain⟨vn,vu,vd⟩:=va;have HTN:=zH (fun w h=>natText_any vu w h hvn);have HTD:=zH (fun w h=>natText_any vd w h hvd);have hs1:(decS (vbs vu)).size<=3145728:=decS_small vu hvn;have hs2:(decS (vbs vd)).size<=3145728:=decS_small vd hvd;obtain⟨tn,htn⟩:∃t,decS (vbs vu)=t:=⟨_,rfl⟩
 obtain⟨td,htd⟩:∃t,decS (vbs vd)=t:=⟨_,rfl⟩
 simp only at HT;rw[htn] at hs1 HTN HT;rw[htd] at hs2 HTD HT;clear htn htd hvn hvd;obtain⟨de,hde⟩:∃d,decide (vd=nbs 1)=d:=⟨_,rfl⟩
 have HDE:=zH hde;clear hde;obtain⟨neg,num,den⟩:=a;unfold Ra.v at HR⊢;obtain⟨W,hW⟩:=zE (w.alloc (.cells #[.bool neg,.string num,.string den] 43));have hba:Below w.heap.size w W:=by rw[hW];exact zB _ _
 have hblk:Blk W w.heap.size 43 [.bool neg,.string num,.string den]:=by rw[hW];exact Blk.new w _ _
 obtain⟨B,hB⟩:=zE w.heap.size;have HB:=zH hB;rw[<-hB] at hblk hba;have hbs:B<W.heap.size:=hblk.lt;have HL:=zH hL;clear hL;cases vn
 ·go_enter Tryz.func83,Tryz.ntmps83;go_wp2_with fail;simp only[<-hW,<-hB]
  clear hW hB;refine (HR.out _).mono ?_;rintro e w1 ⟨rfl,hb1⟩;have hk1:=hblk.below hb1 hbs;have hc0:=hk1.cell (i:=0) (by simp);have hc1:=hk1.cell (i:=1) (by simp);have hc2:=hk1.cell (i:=2) (by simp);have hf0:=hk1.frozen 0;have hf1:=hk1.frozen 1;have hf2:=hk1.frozen 2;simp only[List.getElem_cons_zero,List.getElem_cons_succ] at hc0 hc1 hc2;go_wp2_with fail;have hk2:=((hk1.set 0 (.bool false)).set 1 (.string vu)).set 2 (.string vd);simp only[List.set_cons_zero,List.set_cons_succ] at hk2;have hb2:=(((hba.trans (hb1.mono (by omega))).setCell (show B<=(⟨B,0,none⟩:Addr).block from Nat.le_refl _) (.bool false)).setCell (show B<=(⟨B,1,none⟩:Addr).block from Nat.le_refl _) (.string vu)).setCell (show B<=(⟨B,2,none⟩:Addr).block from Nat.le_refl _) (.string vd);generalize ((w1.setCell ⟨B,0,none⟩ (.bool false)).setCell ⟨B,1,none⟩ (.string vu)).setCell ⟨B,2,none⟩ (.string vd)=w2 at*;clear hc0 hc1 hc2 hf0 hf1 hf2 hk1 hb1;have hl2:=HL.out.below (by rw[<-HB.out];exact hb2);refine (HTN.out _ hl2).mono ?_;rintro e w3 ⟨rfl,hb3⟩;have hk3:=hk2.below hb3 hk2.lt;have hl3:=hl2.below hb3;have hbw3:Below B w w3:=hb2.trans (hb3.mono (Nat.le_of_lt hk2.lt));have hbs3:B<w3.heap.size:=hk3.lt;have HL3:=zH hl3;have HBW:=zH hbw3;clear hk2 hb2 hl2 hb3 hl3 hbw3 hbs;obtain⟨hc0,hc1,hc2⟩:=RaAt.of_blk (a:=⟨false,vu,vd⟩) hk3;simp only at hc0 hc1 hc2
  have HK:Hid (∀w' w1:World,(w'.cell? ⟨B,0,none⟩=some (.bool false)/\w'.cell? ⟨B,1,none⟩=some (.string vu)/\w'.cell? ⟨B,2,none⟩=some (.string vd)/\Below w3.heap.size w3 w')->Below w'.heap.size w' w1->
    (w1.cell? ⟨B,0,none⟩=some (.bool false)/\w1.cell? ⟨B,1,none⟩=some (.string vu)/\w1.cell? ⟨B,2,none⟩=some (.string vd)/\Below w3.heap.size w3 w1)):=by
   rintro w' w1 ⟨h0,h1,h2,hb⟩ hb1;have hlt:B<w'.heap.size:=Nat.lt_of_lt_of_le hbs3 hb.size;exact⟨(hb1.cell hlt).trans h0,(hb1.cell hlt).trans h1,(hb1.cell hlt).trans h2,bstep hb hb1⟩
  have HS:Hid (w3.drew.cell? ⟨B,0,none⟩=some (.bool false)/\w3.drew.cell? ⟨B,1,none⟩=some (.string vu)/\w3.drew.cell? ⟨B,2,none⟩=some (.string vd)/\Below w3.heap.size w3 w3.drew):=
   ⟨hc0,hc1,hc2,below_drewN (Below.refl _ _) 1⟩
  clear hk3;go_wp2_with fail;clear hc0 hc1 hc2;refine wp_region_noPanic ?_;refine wp_region_held_drew (S:=fun w'=>w'.cell? ⟨B,0,none⟩=some (.bool false)/\w'.cell? ⟨B,1,none⟩=some (.string vu)/\w'.cell? ⟨B,2,none⟩=some (.string vd)/\Below w3.heap.size w3 w') (by kernel_rfl) HS.out (fun hHeld=>?_);refine tkZ 0 ?_;refine tkZ 1 ?_;refine tkR 2 fun K hK=>?_
  go_simp;refine (natOf_one _).mono ?_;rintro e w1 ⟨rfl,hb1⟩;go_wp2_with fail;refine tkK hK (HK.out _ _ (by assumption) hb1) fun hHeld=>?_
  clear hK K;refine tkY 3 (.bool (!de)) rfl ?_ ?_
  ·intro w hSw;(try dsimp only at hSw);go_simp;rw[<-HDE.out];exact beq_toList _ _
  try simp only[Act.put,tk1,tk2,tk3,tk4,tk5,tk6]
  refine wpAnyH_done (by kernel_rfl) ?_ _;refine NoPanic.normal ?_;obtain⟨hd0,hd1,hd2,hd3⟩:=hHeld;have HH:=zH hd3;clear hd3;cases de
  ·go_wp2_with fail;refine (HTD.out _ (HL3.out.below HH.out)).mono ?_;rintro e w5 ⟨rfl,hb5⟩;go_wp2;go_ret;refine⟨?_,?_⟩
   ·have h:=HT.out;rw[if_neg (of_decide_eq_false HDE.out)] at h;rw[h];rfl
   ·have h:=HBW.out.trans ((bstep HH.out hb5).mono (Nat.le_of_lt hbs3));rw[<-HB.out];exact h
  ·go_wp2;go_ret;refine⟨?_,?_⟩
   ·have h:=HT.out;rw[if_pos (of_decide_eq_true HDE.out)] at h;rw[h];rfl
   ·have h:=HBW.out.trans (HH.out.mono (Nat.le_of_lt hbs3));rw[<-HB.out];exact h
 ·go_enter Tryz.func83,Tryz.ntmps83;go_wp2_with fail;simp only[<-hW,<-hB]
  clear hW hB;refine (HR.out _).mono ?_;rintro e w1 ⟨rfl,hb1⟩;have hk1:=hblk.below hb1 hbs;have hc0:=hk1.cell (i:=0) (by simp);have hc1:=hk1.cell (i:=1) (by simp);have hc2:=hk1.cell (i:=2) (by simp);have hf0:=hk1.frozen 0;have hf1:=hk1.frozen 1;have hf2:=hk1.frozen 2;simp only[List.getElem_cons_zero,List.getElem_cons_succ] at hc0 hc1 hc2;go_wp2_with fail;have hk2:=((hk1.set 0 (.bool true)).set 1 (.string vu)).set 2 (.string vd);simp only[List.set_cons_zero,List.set_cons_succ] at hk2;have hb2:=(((hba.trans (hb1.mono (by omega))).setCell (show B<=(⟨B,0,none⟩:Addr).block from Nat.le_refl _) (.bool true)).setCell (show B<=(⟨B,1,none⟩:Addr).block from Nat.le_refl _) (.string vu)).setCell (show B<=(⟨B,2,none⟩:Addr).block from Nat.le_refl _) (.string vd);generalize ((w1.setCell ⟨B,0,none⟩ (.bool true)).setCell ⟨B,1,none⟩ (.string vu)).setCell ⟨B,2,none⟩ (.string vd)=w2 at*;clear hc0 hc1 hc2 hf0 hf1 hf2 hk1 hb1;have hl2:=HL.out.below (by rw[<-HB.out];exact hb2);refine (HTN.out _ hl2).mono ?_;rintro e w3 ⟨rfl,hb3⟩;have hk3:=hk2.below hb3 hk2.lt;have hl3:=hl2.below hb3;have hbw3:Below B w w3:=hb2.trans (hb3.mono (Nat.le_of_lt hk2.lt));have hbs3:B<w3.heap.size:=hk3.lt;have HL3:=zH hl3;have HBW:=zH hbw3;clear hk2 hb2 hl2 hb3 hl3 hbw3 hbs;obtain⟨hc0,hc1,hc2⟩:=RaAt.of_blk (a:=⟨true,vu,vd⟩) hk3;simp only at hc0 hc1 hc2
  have HK:Hid (∀w' w1:World,(w'.cell? ⟨B,0,none⟩=some (.bool true)/\w'.cell? ⟨B,1,none⟩=some (.string vu)/\w'.cell? ⟨B,2,none⟩=some (.string vd)/\Below w3.heap.size w3 w')->Below w'.heap.size w' w1->
    (w1.cell? ⟨B,0,none⟩=some (.bool true)/\w1.cell? ⟨B,1,none⟩=some (.string vu)/\w1.cell? ⟨B,2,none⟩=some (.string vd)/\Below w3.heap.size w3 w1)):=by
   rintro w' w1 ⟨h0,h1,h2,hb⟩ hb1;have hlt:B<w'.heap.size:=Nat.lt_of_lt_of_le hbs3 hb.size;exact⟨(hb1.cell hlt).trans h0,(hb1.cell hlt).trans h1,(hb1.cell hlt).trans h2,bstep hb hb1⟩
  have HS:Hid (w3.drew.cell? ⟨B,0,none⟩=some (.bool true)/\w3.drew.cell? ⟨B,1,none⟩=some (.string vu)/\w3.drew.cell? ⟨B,2,none⟩=some (.string vd)/\Below w3.heap.size w3 w3.drew):=
   ⟨hc0,hc1,hc2,below_drewN (Below.refl _ _) 1⟩
  clear hk3;go_wp2_with fail;clear hc0 hc1 hc2;refine wp_region_noPanic ?_;refine wp_region_held_drew (S:=fun w'=>w'.cell? ⟨B,0,none⟩=some (.bool true)/\w'.cell? ⟨B,1,none⟩=some (.string vu)/\w'.cell? ⟨B,2,none⟩=some (.string vd)/\Below w3.heap.size w3 w') (by kernel_rfl) HS.out (fun hHeld=>?_);refine tkZ 0 ?_;refine tkZ 1 ?_;refine tkR 2 fun K hK=>?_
  go_simp;refine (natOf_one _).mono ?_;rintro e w1 ⟨rfl,hb1⟩;go_wp2_with fail;refine tkK hK (HK.out _ _ (by assumption) hb1) fun hHeld=>?_
  clear hK K;refine tkY 3 (.bool (!de)) rfl ?_ ?_
  ·intro w hSw;(try dsimp only at hSw);go_simp;rw[<-HDE.out];exact beq_toList _ _
  try simp only[Act.put,tk1,tk2,tk3,tk4,tk5,tk6]
  refine wpAnyH_done (by kernel_rfl) ?_ _;refine NoPanic.normal ?_;obtain⟨hd0,hd1,hd2,hd3⟩:=hHeld;have HH:=zH hd3;clear hd3;cases de
  ·go_wp2_with fail;refine (HTD.out _ (HL3.out.below HH.out)).mono ?_;rintro e w5 ⟨rfl,hb5⟩;go_wp2;go_ret;refine⟨?_,?_⟩
   ·have h:=HT.out;rw[if_neg (of_decide_eq_false HDE.out)] at h;rw[h];rfl
   ·have h:=HBW.out.trans ((bstep HH.out hb5).mono (Nat.le_of_lt hbs3));rw[<-HB.out];exact h
  ·go_wp2;go_ret;refine⟨?_,?_⟩
   ·have h:=HT.out;rw[if_pos (of_decide_eq_true HDE.out)] at h;rw[h];rfl
   ·have h:=HBW.out.trans (HH.out.mono (Nat.le_of_lt hbs3));rw[<-HB.out];exact h
def cutR (s:List UInt8):Bool × List UInt8 × List UInt8:=
 let c:=Lib.cut (Lib.trimPrefix s [45]) [47]
 (Lib.hasPrefix s [45],c.1,if c.2.2 then c.2.1 else [49])
def ratParse (s:ByteArray):Ra × Bool:=
 let c:=cutR s.data.toList
 let n:=natParse c.2.1
 let d:=natParse c.2.2
 let m:=mkR c.1 n.1 d.1
 if n.2&&d.2&&m.2&&decide (textR m.1=s) then (m.1,true) else (⟨false,⟨#[]⟩,⟨#[]⟩⟩,false)
theorem trimPrefix_len (s p:List UInt8):(Lib.trimPrefix s p).length<=s.length:=by
 unfold Lib.trimPrefix;split
 ·simp
 ·exact Nat.le_refl _
theorem cut_len (s p:List UInt8):(Lib.cut s p).1.length<=s.length/\(Lib.cut s p).2.1.length<=s.length:=by
 unfold Lib.cut;split<;>simp<;>omega
theorem natParse_size (l:List UInt8):(natParse l).1.size<=l.length:=by
 unfold natParse;split
 ·next h=>
  simp only[parseOk,Bool.and_eq_true] at h;refine nbs_size_le _ _ (Nat.lt_of_lt_of_le (decVal_lt l h.2) (Nat.pow_le_pow_left (by omega) _))
 ·show 0<=_;omega
theorem low_size (neg:Bool) (n d K:Nat) (hn:n<256 ^ K) (hd:d<256 ^ K):(low neg n d).num.size<=K/\(low neg n d).den.size<=K:=
 ⟨nbs_size_le _ _ (Nat.lt_of_le_of_lt (Nat.div_le_self _ _) hn),nbs_size_le _ _ (Nat.lt_of_le_of_lt (Nat.div_le_self _ _) hd)⟩
theorem mkR_size (neg:Bool) (n d:ByteArray) (K:Nat) (hn:n.size<=K) (hd:d.size<=K):(mkR neg n d).1.num.size<=K/\(mkR neg n d).1.den.size<=K:=by
 unfold mkR;split
 ·exact low_size _ _ _ _ (Nat.lt_of_lt_of_le (vbs_lt n) (Nat.pow_le_pow_right (by omega) hn)) (Nat.lt_of_lt_of_le (vbs_lt d) (Nat.pow_le_pow_right (by omega) hd))
 ·exact⟨Nat.zero_le _,Nat.zero_le _⟩
theorem Blk.cells {w:World} {b:Nat} {t:TypeId} {cs:List Value} (h:Blk w b t cs):∀i,w.cell? ⟨b,i,none⟩=cs[i]?:=by
 intro i;unfold Blk at h;simp[World.cell?,h]
theorem Blk.froz {w:World} {b:Nat} {t:TypeId} {cs:List Value} (h:Blk w b t cs):∀i,w.frozen? ⟨b,i,none⟩=false:=fun i=>h.frozen i
theorem below_set3 {B:Nat} {w w':World} (h:Below B w w') (x y z:Value):Below B w (((w'.setCell ⟨B,0,none⟩ x).setCell ⟨B,1,none⟩ y).setCell ⟨B,2,none⟩ z):=
 ((h.setCell (p:=⟨B,0,none⟩) (Nat.le_refl _) _).setCell (p:=⟨B,1,none⟩) (Nat.le_refl _) _).setCell (p:=⟨B,2,none⟩) (Nat.le_refl _) _
theorem Laid.drewN {w:World} (h:Laid w) (n:Nat):Laid (w.drewN n):=h.below (drewN_below _ _ _)
theorem qParse_any (s:ByteArray) (w:World) (hL:Laid w) (hs:s.size<=1048576):
  Calls Tryz.prog 174 #[.string s] w fun e w'=>e=.returned (.tuple #[(ratParse s).1.v,.bool (ratParse s).2])/\Below w.heap.size w w':=by
 have hP:∀c,cutR s.data.toList=c->∀n,natParse c.2.1=n->∀d,natParse c.2.2=d->∀m,mkR c.1 n.1 d.1=m->
   ratParse s=if n.2&&d.2&&m.2&&decide (textR m.1=s) then (m.1,true) else (⟨false,⟨#[]⟩,⟨#[]⟩⟩,false):=by
  rintro c rfl n rfl d rfl m rfl;rfl
 unfold cutR at hP;have HCP:∀w:World,Calls Tryz.prog 211 #[.string s,.string ⟨#[45]⟩] w fun e w'=>e=.returned (.tuple #[.string ⟨(Lib.trimPrefix s.data.toList [45]).toArray⟩,.bool (Lib.hasPrefix s.data.toList [45])])/\w'=w:=fun w=>Tryz.strings_CutPrefix s ⟨#[45]⟩ w
 have hrl:=trimPrefix_len s.data.toList [45];generalize Lib.hasPrefix s.data.toList [45]=neg at*;generalize Lib.trimPrefix s.data.toList [45]=rest at*;have hrl':rest.length<=1048576:=Nat.le_trans hrl (by simpa using hs)
 have HC:∀(w:World) (m:Int),w.cell? ⟨2,0,none⟩=some (.int .i64 m)->Calls Tryz.prog 90 #[.string ⟨rest.toArray⟩,.string ⟨#[47]⟩] w fun e w'=>e=.returned (.tuple #[.string ⟨(Lib.cut rest [47]).1.toArray⟩,.string ⟨(Lib.cut rest [47]).2.1.toArray⟩,.bool (Lib.cut rest [47]).2.2])/\∃n,w'=w.drewN n:=
  fun w m h=>Tryz.strings_Cut ⟨rest.toArray⟩ ⟨#[47]⟩ m w (by show rest.length<_;omega) h
 obtain⟨hnl,hdl⟩:=cut_len rest [47];generalize Lib.cut rest [47]=ct at*;obtain⟨nu,de0,fnd⟩:=ct;simp only at hP HC hnl hdl;have HCP:=zH HCP;have HC:=zH HC;obtain⟨de,hde⟩:∃d,(if fnd then de0 else [49])=d:=⟨_,rfl⟩
 have hdel:de.length<=1048576:=by subst hde;cases fnd<;>simp<;>omega
 rw[hde] at hP;obtain⟨⟨pn,bn⟩,hpn⟩:∃n,natParse nu=n:=⟨_,rfl⟩
 obtain⟨⟨pd,bd⟩,hpd⟩:∃n,natParse de=n:=⟨_,rfl⟩
 obtain⟨⟨m,bm⟩,hm⟩:∃n,mkR neg pn pd=n:=⟨_,rfl⟩
 have HP:=zH (hP _ rfl _ hpn _ hpd _ hm);have hpns:=natParse_size nu;have hpds:=natParse_size de;have hms:=mkR_size neg pn pd 1048576 (by rw[hpn] at hpns;simp only at hpns;omega) (by rw[hpd] at hpds;simp only at hpds;omega);rw[hpn] at hpns;rw[hpd] at hpds;rw[hm] at hms;simp only at hpns hpds hms
 have HN:Hid (∀W,Calls Tryz.prog 212 #[.string ⟨nu.toArray⟩] W fun e w'=>e=.returned (.tuple #[.string pn,.bool bn])/\Below W.heap.size W w'):=fun W=>
  (natParse_any ⟨nu.toArray⟩ W (by show nu.length<=_;omega)).mono (by
    rintro e w' ⟨rfl,hb⟩;exact⟨by show Ending.returned (.tuple #[.string (natParse nu).1,.bool (natParse nu).2])=_;rw[hpn],hb⟩)
 have HD:Hid (∀W,Calls Tryz.prog 212 #[.string ⟨de.toArray⟩] W fun e w'=>e=.returned (.tuple #[.string pd,.bool bd])/\Below W.heap.size W w'):=fun W=>
  (natParse_any ⟨de.toArray⟩ W (by show de.length<=_;omega)).mono (by
    rintro e w' ⟨rfl,hb⟩;exact⟨by show Ending.returned (.tuple #[.string (natParse de).1,.bool (natParse de).2])=_;rw[hpd],hb⟩)
 have HM:=zH (fun W=>qMake_any neg pn pd W (by omega) (by omega));rw[hm] at HM;have HT:=zH (fun W hL=>qText_any m W hL hms.1 hms.2);obtain⟨d,hd⟩:=zF (decide (textR m=s));generalize textR m=tx at*;rw[hd] at HP;have e1:(tx.toList==s.toList)=d:=by rw[beq_toList,hd]
 have e2:(tx.toList !=s.toList)= !d:=by rw[<-e1];rfl
 clear hP hpn hpd hm hpns hpds hms hrl hrl' hnl hdl hdel hs hd;obtain⟨mn,mu,md⟩:=m;unfold Ra.v at HM HT;simp only at HM HT HP;obtain⟨W,hW⟩:=zE (w.alloc (.cells #[.bool false,.string ⟨#[]⟩,.string ⟨#[]⟩] 43));have hba:Below w.heap.size w W:=by rw[hW];exact zB _ _
 have hblk:Blk W w.heap.size 43 [.bool false,.string ⟨#[]⟩,.string ⟨#[]⟩]:=by rw[hW];exact Blk.new w _ _
 obtain⟨B,hB⟩:=zE w.heap.size;rw[<-hB] at hblk;have HB:=zH hB;have hLW:=hL.below hba;obtain⟨ml,hml⟩:=hLW.cut.2;have HLW:=zH hLW;have HML:=zH hml;have HBA:=zH hba;have HBK:=zH hblk;clear hL hLW hml hba hblk;cases fnd
 all_goals
  simp only[if_true,if_false,Bool.false_eq_true] at hde;subst hde;go_enter Tryz.func174,Tryz.ntmps174;go_wp2_with fail;simp only[<-hW,<-hB]
  clear hW hB;refine (HCP.out _).mono ?_;rintro e w1 ⟨rfl,rfl⟩;go_wp2_with fail;refine (HC.out _ ml HML.out).mono ?_;rintro e w2 ⟨rfl,nn,rfl⟩;go_wp2_with fail;refine (HN.out _).mono ?_;rintro e w3 ⟨rfl,hb3⟩;go_wp2_with fail;refine (HD.out _).mono ?_;rintro e w4 ⟨rfl,hb4⟩;go_wp2_with fail;refine (HM.out _).mono ?_;rintro e w5 ⟨rfl,hb5⟩;have hbw:=bstep (bstep (bstep (drewN_below _ w1 nn) hb3) hb4) hb5;have hk5:=HBK.out.below hbw HBK.out.lt;have hl5:=HLW.out.below hbw;have hkB:=hk5.alloc (.cells #[.bool mn,.string mu,.string md] 43);have hc:=hkB.cells;have hf:=hkB.froz;have hl6:=hl5.below ((Below.refl _ _).alloc (Nat.le_refl _) (.cells #[.bool mn,.string mu,.string md] 43));have hkA:=Blk.new w5 43 #[.bool mn,.string mu,.string md];have hB5:Below B w (w5.alloc (.cells #[.bool mn,.string mu,.string md] 43)):=by rw[HB.out];exact (bstep HBA.out hbw).alloc (by have:=HBA.out.size;have:=hbw.size;omega) _
  have HBB:=zH hB5;have HAA:=zH hkA;have HKB:=zH hkB;clear hbw hb3 hb4 hb5 hk5 hkA hB5 hkB hl5;cases bn<;>cases bd<;>cases bm
  all_goals
   go_wp2_with fail
   first
   |(refine bodyPost_ret (v:=.tuple #[.agg #[.bool false,.string ⟨#[]⟩,.string ⟨#[]⟩],.bool false]) (by simp[results,Tryz.results174,go_sem,hc]) rfl ⟨?_,?_⟩
     ·rw[HP.out];rfl
     ·rw[<-HB.out];exact below_set3 HBB.out _ _ _)
   |(refine (HT.out _ hl6).mono ?_
     rintro e w7 ⟨rfl,hb7⟩;clear hc hf;have hkB:=HKB.out.below hb7 HKB.out.lt;have hkA:=HAA.out.below hb7 HAA.out.lt;have hbw:=HBB.out.trans (hb7.mono (Nat.le_of_lt HKB.out.lt));have hc:=hkB.cells;have hf:=hkB.froz;have hcA:=hkA.cells;have HBB:=zH hbw;clear hkA hkB hb7 hbw hl6;cases d
     all_goals
      go_wp2_with fail;refine bodyPost_ret (v:=.tuple #[(ratParse s).1.v,.bool (ratParse s).2]) (by rw[HP.out];simp[results,Tryz.results174,go_sem,hc,Ra.v]) rfl ⟨rfl,?_⟩;rw[<-HB.out];exact below_set3 HBB.out _ _ _)
theorem sQuo_nb (n m K:Nat) (w:World) (hK:K<=1073741824) (hn:n<256 ^ K) (hm:m<256 ^ K) (h0:0<m):
  Calls Tryz.prog 178 #[.string (nbs n),.string (nbs m)] w fun e w'=>
   e=.returned (.tuple #[.string (nbs (n / m)),.string (nbs (n % m)),.bool true])/\Below w.heap.size w w':=by
 refine (rQuo_any (nbs n) (nbs m) w (Nat.le_trans (nbs_size_le _ _ hn) hK) (Nat.le_trans (nbs_size_le _ _ hm) hK)).mono ?_;rintro e w' ⟨rfl,hb⟩;rw[vbs_nbs,vbs_nbs];have p0:¬(m=0):=by omega
 rw[if_neg p0,if_neg p0,show (m !=0)=true from by simp[p0]];exact⟨rfl,hb⟩
theorem sGcd_nb (n m K:Nat) (w:World) (hK:K<=1073741824) (hn:n<256 ^ K) (hm:m<256 ^ K):
  Calls Tryz.prog 177 #[.string (nbs n),.string (nbs m)] w fun e w'=>e=.returned (.string (nbs (Nat.gcd n m)))/\Below w.heap.size w w':=by
 have:=rGcd_any (nbs n) (nbs m) w (Nat.le_trans (nbs_size_le _ _ hn) hK) (Nat.le_trans (nbs_size_le _ _ hm) hK);rwa[vbs_nbs,vbs_nbs] at this
theorem rOf_one (w:World):Calls Tryz.prog 46 #[.int .i64 1] w fun e w'=>e=.returned (.string (nbs 1))/\Below w.heap.size w w':=rOf_any 1 w (by omega) (by omega)
theorem nbs_emp (n:Nat) (b:Bool) (h:decide (n=0)=b):(nbs n).toList.isEmpty=b:=by rw[nbs_isEmpty,h]
theorem slowest_any (neg:Bool) (n d K:Nat) (w:World) (hK:K<=1073741824) (hn:n<256 ^ K) (hd:d<256 ^ K) (h0:0<d):
  Calls Tryz.prog 139 #[.bool neg,.string (nbs n),.string (nbs d)] w fun e w'=>e=.returned (low neg n d).v/\Below w.heap.size w w':=by
 have hg:0<Nat.gcd n d:=Nat.gcd_pos_of_pos_right _ h0;have hgd:Nat.gcd n d<=d:=Nat.gcd_le_right _ h0;have HG:=zH (fun w=>sGcd_nb n d K w hK hn hd);have HQ1:=zH (fun w=>sQuo_nb n (Nat.gcd n d) K w hK hn (by omega) hg);have HQ2:=zH (fun w=>sQuo_nb d (Nat.gcd n d) K w hK hd (by omega) hg);have HLOW:Hid (low neg n d=⟨neg&&decide (n≠0),nbs (n / Nat.gcd n d),nbs (d / Nat.gcd n d)⟩):=rfl
 have HZ:Hid (n=0->low neg n d=⟨false,nbs 0,nbs 1⟩):=by
  intro h;subst h;rw[HLOW.out];simp[Nat.div_self h0]
 obtain⟨B,hB⟩:=zE w.heap.size;obtain⟨W,hW⟩:=zE (w.alloc (.cells #[.bool false,.string ⟨#[]⟩,.string ⟨#[]⟩] 43));have hba:Below w.heap.size w W:=by rw[hW];exact zB _ _
 have hblk:Blk W w.heap.size 43 [.bool false,.string ⟨#[]⟩,.string ⟨#[]⟩]:=by rw[hW];exact Blk.new w _ _
 rw[<-hB] at hblk hba;have HB:=zH hB;obtain⟨r,hr⟩:=zF (low neg n d);rw[hr] at HLOW HZ⊢;clear hr hg hgd hn hd;by_cases hz:n=0
 ·have HZ:=zH (HZ.out hz);have he:=nbs_emp n true (by simp[hz]);clear hz;go_enter Tryz.func139,Tryz.ntmps139;go_wp2_with fail;simp only[<-hW,<-hB]
  clear hW hB;refine (rOf_one _).mono ?_;rintro e w1 ⟨rfl,hb1⟩;have hk:=hblk.below hb1 hblk.lt;have hc:=hk.cells;have hf:=hk.froz;have HBW:=zH (hba.trans (hb1.mono (Nat.le_of_lt hblk.lt)));clear hb1 hba hk;go_wp2;refine bodyPost_ret (v:=.agg #[.bool false,.string ⟨#[]⟩,.string (nbs 1)]) (by simp[results,Tryz.results139,go_sem,hc]) rfl ⟨?_,?_⟩
  ·rw[HZ.out];rfl
  ·rw[<-HB.out];exact below_set3 HBW.out _ _ _
 ·have he:=nbs_emp n false (by simp[hz]);go_enter Tryz.func139,Tryz.ntmps139;go_wp2_with fail;simp only[<-hW,<-hB]
  clear hW hB;refine (HG.out _).mono ?_;rintro e w1 ⟨rfl,hb1⟩;go_wp2_with fail;refine (HQ1.out _).mono ?_;rintro e w2 ⟨rfl,hb2⟩;go_wp2_with fail;refine (HQ2.out _).mono ?_;rintro e w3 ⟨rfl,hb3⟩;have hb:=bstep (bstep hb1 hb2) hb3;have hk:=hblk.below hb hblk.lt;have hc:=hk.cells;have hf:=hk.froz;have HBW:=zH (hba.trans (hb.mono (Nat.le_of_lt hblk.lt)));clear hb1 hb2 hb3 hb hba hk;go_wp2;refine bodyPost_ret (v:=.agg #[.bool neg,.string (nbs (n / Nat.gcd n d)),.string (nbs (d / Nat.gcd n d))]) (by simp[results,Tryz.results139,go_sem,hc]) rfl ⟨?_,?_⟩
  ·rw[HLOW.out];simp[Ra.v,hz]
  ·rw[<-HB.out];exact below_set3 HBW.out _ _ _
theorem okR_ref (a:Ra):okR a=(rightS a.num&&rightS a.den&& !a.den.toList.isEmpty&&(if a.num.toList.isEmpty then !a.neg&&decide (cmpI (vbs a.den) (vbs (nbs 1))=0) else decide (cmpI (vbs (nbs (Nat.gcd (vbs a.num) (vbs a.den)))) (vbs (nbs 1))=0))):=by
 obtain⟨neg,num,den⟩:=a;unfold okR;simp only
 cases hn:rightS num
 ·simp
 cases hd:rightS den
 ·simp
 have en:=(rightS_iff num).1 hn;have ed:=(rightS_iff den).1 hd;rw[vbs_nbs,vbs_nbs];generalize vbs num=n at*;generalize vbs den=d at*;subst en ed
 have hcz:∀x:Nat,(cmpI x 1=0)↔x=1:=by
  intro x;unfold cmpI;split
  ·omega
  ·split<;>omega
 rw[nbs_isEmpty,nbs_isEmpty];simp only[hcz,Bool.true_and,Bool.and_true]
 rcases Nat.eq_zero_or_pos d with h0|h0
 ·subst h0;simp
 ·have hd0:¬d=0:=by omega
  simp only[h0,hd0,decide_true,decide_false,Bool.not_false,Bool.true_and]
  have hg:0<Nat.gcd n d:=Nat.gcd_pos_of_pos_right _ h0;by_cases hz:n=0
  ·subst hz;simp only[decide_true,if_true]
   have:low neg 0 d=⟨false,nbs 0,nbs 1⟩:=by unfold low;simp[Nat.div_self h0]
   rw[this,Bool.eq_iff_iff,decide_eq_true_eq,Bool.and_eq_true,decide_eq_true_eq];constructor
   ·intro h;injection h with h1 h2 h3;exact⟨by rw[<-h1];rfl,(nbs_inj h3).symm⟩
   ·rintro⟨h1,h2⟩;cases neg
    ·rw[h2]
    ·cases h1
  ·simp only[hz,decide_false,Bool.false_eq_true,if_false]
   rw[decide_eq_decide];unfold low;constructor
   ·intro h;injection h with h1 h2 h3;have h4:=nbs_inj h2;have h5:n / Nat.gcd n d*Nat.gcd n d=n:=Nat.div_mul_cancel (Nat.gcd_dvd_left n d);rw[h4] at h5;have h6:n*Nat.gcd n d=n*1:=by rw[h5,Nat.mul_one]
    exact Nat.eq_of_mul_eq_mul_left (by omega) h6
   ·intro h;rw[h,Nat.div_one,Nat.div_one];simp[hz]
theorem sRight_any (a:Ra) (w:World) (hn:a.num.size<=536870912) (hd:a.den.size<=536870912):
  Calls Tryz.prog 148 #[a.v] w fun e w'=>e=.returned (.bool (okR a))/\Below w.heap.size w w':=by
 have HOK:=zH (okR_ref a);have HN:=zH (fun w=>rRight_any a.num w);have HD:=zH (fun w=>rRight_any a.den w);have HG:=zH (fun w=>rGcd_any a.num a.den w (by omega) (by omega))
 have hgs:(nbs (Nat.gcd (vbs a.num) (vbs a.den))).size<=536870912:=by
  rcases Nat.eq_zero_or_pos (vbs a.den) with h0|h0
  ·rw[h0,Nat.gcd_zero_right];exact Nat.le_trans (nbs_size_le _ _ (vbs_lt a.num)) hn
  ·exact Nat.le_trans (nbs_size_le _ a.den.size (Nat.lt_of_le_of_lt (Nat.gcd_le_right _ h0) (vbs_lt a.den))) hd
 have HC1:=zH (fun w=>rCmp_any a.den (nbs 1) w (by omega) (by decide));have HC2:=zH (fun w=>rCmp_any (nbs (Nat.gcd (vbs a.num) (vbs a.den))) (nbs 1) w (by omega) (by decide));obtain⟨z1,h1⟩:∃z,cmpI (vbs a.den) (vbs (nbs 1))=z:=⟨_,rfl⟩
 obtain⟨z2,h2⟩:∃z,cmpI (vbs (nbs (Nat.gcd (vbs a.num) (vbs a.den)))) (vbs (nbs 1))=z:=⟨_,rfl⟩
 rw[h1] at HOK HC1;rw[h2] at HOK HC2;clear h1 h2 hgs hn hd;generalize nbs (Nat.gcd (vbs a.num) (vbs a.den))=gg at*;obtain⟨ok,hok⟩:∃o,okR a=o:=⟨_,rfl⟩
 rw[hok] at HOK⊢;clear hok;obtain⟨neg,num,den⟩:=a;unfold Ra.v;simp only at HOK HN HD HG HC1 HC2⊢;obtain⟨rn,hrn⟩:∃r,rightS num=r:=⟨_,rfl⟩
 obtain⟨rd,hrd⟩:∃r,rightS den=r:=⟨_,rfl⟩
 obtain⟨en,hen⟩:∃r,num.toList.isEmpty=r:=⟨_,rfl⟩
 obtain⟨ed,hed⟩:∃r,den.toList.isEmpty=r:=⟨_,rfl⟩
 rw[hrn,hrd,hen,hed] at HOK;rw[hrn] at HN;rw[hrd] at HD;clear hrn hrd;obtain⟨W,hW⟩:=zE (w.alloc (.cells #[.bool neg,.string num,.string den] 43));have hba:Below w.heap.size w W:=by rw[hW];exact zB _ _
 have hblk:Blk W w.heap.size 43 [.bool neg,.string num,.string den]:=by rw[hW];exact Blk.new w _ _
 obtain⟨B,hB⟩:=zE w.heap.size;have HB:=zH hB;rw[<-hB] at hblk hba;have hc:=hblk.cells;cases rn
 ·go_enter Tryz.func148,Tryz.ntmps148;go_wp2_with fail;simp only[<-hW,<-hB]
  clear hW hB;refine (HN.out _).mono ?_;rintro e w1 ⟨rfl,rfl⟩;go_wp2_with fail;refine (HD.out _).mono ?_;rintro e w1 ⟨rfl,rfl⟩;go_wp2;go_ret;exact⟨by rw[HOK.out];rfl,by rw[<-HB.out];exact hba⟩
 cases rd
 ·go_enter Tryz.func148,Tryz.ntmps148;go_wp2_with fail;simp only[<-hW,<-hB]
  clear hW hB;refine (HN.out _).mono ?_;rintro e w1 ⟨rfl,rfl⟩;go_wp2_with fail;refine (HD.out _).mono ?_;rintro e w1 ⟨rfl,rfl⟩;go_wp2;go_ret;exact⟨by rw[HOK.out];rfl,by rw[<-HB.out];exact hba⟩
 cases ed
 case true=>
  go_enter Tryz.func148,Tryz.ntmps148;go_wp2_with fail;simp only[<-hW,<-hB]
  clear hW hB;refine (HN.out _).mono ?_;rintro e w1 ⟨rfl,rfl⟩;go_wp2_with fail;refine (HD.out _).mono ?_;rintro e w1 ⟨rfl,rfl⟩;go_wp2;go_ret;exact⟨by rw[HOK.out];rfl,by rw[<-HB.out];exact hba⟩
 cases en
 ·go_enter Tryz.func148,Tryz.ntmps148;go_wp2_with fail;simp only[<-hW,<-hB]
  clear hW hB;refine (HN.out _).mono ?_;rintro e w1 ⟨rfl,rfl⟩;go_wp2_with fail;refine (HD.out _).mono ?_;rintro e w1 ⟨rfl,rfl⟩;go_wp2_with fail;refine (HG.out _).mono ?_;rintro e w1 ⟨rfl,hb1⟩;go_wp2_with fail;refine (rOf_one _).mono ?_;rintro e w2 ⟨rfl,hb2⟩;go_wp2_with fail;refine (HC2.out _).mono ?_;rintro e w3 ⟨rfl,rfl⟩;go_wp2;go_ret;refine⟨?_,by rw[<-HB.out];exact hba.trans ((bstep hb1 hb2).mono (Nat.le_of_lt hblk.lt))⟩;rw[HOK.out];first|rfl|(simp;done)|(simp;rfl)
 cases neg
 ·go_enter Tryz.func148,Tryz.ntmps148;go_wp2_with fail;simp only[<-hW,<-hB]
  clear hW hB;refine (HN.out _).mono ?_;rintro e w1 ⟨rfl,rfl⟩;go_wp2_with fail;refine (HD.out _).mono ?_;rintro e w1 ⟨rfl,rfl⟩;go_wp2_with fail
  have HK:Hid (∀w' w1:World,((∀i,w'.cell? ⟨B,i,none⟩=([.bool false,.string num,.string den]:List Value)[i]?)/\B<w'.heap.size/\Below B w w')->Below w'.heap.size w' w1->
    ((∀i,w1.cell? ⟨B,i,none⟩=([.bool false,.string num,.string den]:List Value)[i]?)/\B<w1.heap.size/\Below B w w1)):=by
   rintro w' w1 ⟨h0,h2,h3⟩ hb1;exact⟨fun i=>(hb1.cell h2).trans (h0 i),Nat.lt_of_lt_of_le h2 hb1.size,h3.trans (hb1.mono (Nat.le_of_lt h2))⟩
  have HS:Hid ((∀i,W.drew.cell? ⟨B,i,none⟩=([.bool false,.string num,.string den]:List Value)[i]?)/\B<W.drew.heap.size/\Below B w W.drew):=
   ⟨hblk.cells,hblk.lt,below_drewN hba 1⟩
  clear hblk hba hc;refine wp_region_noPanic ?_;refine wp_region_held_drew (S:=fun w'=>(∀i,w'.cell? ⟨B,i,none⟩=([.bool false,.string num,.string den]:List Value)[i]?)/\B<w'.heap.size/\Below B w w') (by kernel_rfl) HS.out (fun hHeld=>?_);refine tkZ 0 ?_;refine tkZ 1 ?_;refine tkZ 2 ?_;refine tkZ 3 ?_;refine tkZ 4 ?_;refine tkZ 5 ?_;refine tkR 6 fun K hK=>?_
  go_simp;refine (rOf_one _).mono ?_;rintro e w1 ⟨rfl,hb1⟩;go_wp2_with fail;refine tkK hK (HK.out _ _ (by assumption) hb1) fun hHeld=>?_
  clear hK K;refine tkR 7 fun K hK=>?_
  go_simp;refine (HC1.out _).mono ?_;rintro e w1 ⟨rfl,rfl⟩;go_wp2_with fail;refine tkK hK (by assumption) fun hHeld=>?_
  clear hK K;refine tkZ 8 ?_;refine tkZ 9 ?_;refine tkZ 10 ?_;refine wpAnyH_done (by kernel_rfl) ?_ _;refine NoPanic.normal ?_;obtain⟨_,_,hb3⟩:=hHeld;have HH:=zH hb3;clear hb3;go_wp2;go_ret;refine⟨?_,by rw[<-HB.out];exact HH.out⟩;rw[HOK.out];first|rfl|(simp;done)|(simp;rfl)
 ·go_enter Tryz.func148,Tryz.ntmps148;go_wp2_with fail;simp only[<-hW,<-hB]
  clear hW hB;refine (HN.out _).mono ?_;rintro e w1 ⟨rfl,rfl⟩;go_wp2_with fail;refine (HD.out _).mono ?_;rintro e w1 ⟨rfl,rfl⟩;go_wp2_with fail
  have HK:Hid (∀w' w1:World,((∀i,w'.cell? ⟨B,i,none⟩=([.bool true,.string num,.string den]:List Value)[i]?)/\B<w'.heap.size/\Below B w w')->Below w'.heap.size w' w1->
    ((∀i,w1.cell? ⟨B,i,none⟩=([.bool true,.string num,.string den]:List Value)[i]?)/\B<w1.heap.size/\Below B w w1)):=by
   rintro w' w1 ⟨h0,h2,h3⟩ hb1;exact⟨fun i=>(hb1.cell h2).trans (h0 i),Nat.lt_of_lt_of_le h2 hb1.size,h3.trans (hb1.mono (Nat.le_of_lt h2))⟩
  have HS:Hid ((∀i,W.drew.cell? ⟨B,i,none⟩=([.bool true,.string num,.string den]:List Value)[i]?)/\B<W.drew.heap.size/\Below B w W.drew):=
   ⟨hblk.cells,hblk.lt,below_drewN hba 1⟩
  clear hblk hba hc;refine wp_region_noPanic ?_;refine wp_region_held_drew (S:=fun w'=>(∀i,w'.cell? ⟨B,i,none⟩=([.bool true,.string num,.string den]:List Value)[i]?)/\B<w'.heap.size/\Below B w w') (by kernel_rfl) HS.out (fun hHeld=>?_);refine tkZ 0 ?_;refine tkZ 1 ?_;refine tkZ 2 ?_;refine tkZ 3 ?_;refine tkN 4 rfl ?_
  try simp only[Act.put,tk1,tk2,tk3,tk4,tk5,tk6]
  refine tkN 5 rfl ?_
  try simp only[Act.put,tk1,tk2,tk3,tk4,tk5,tk6]
  refine tkN 6 rfl ?_
  try simp only[Act.put,tk1,tk2,tk3,tk4,tk5,tk6]
  refine tkN 7 rfl ?_
  try simp only[Act.put,tk1,tk2,tk3,tk4,tk5,tk6]
  refine tkN 8 rfl ?_
  try simp only[Act.put,tk1,tk2,tk3,tk4,tk5,tk6]
  refine tkZ 9 ?_;refine tkZ 10 ?_;refine wpAnyH_done (by kernel_rfl) ?_ _;refine NoPanic.normal ?_;obtain⟨_,_,hb3⟩:=hHeld;have HH:=zH hb3;clear hb3;go_wp2;go_ret;refine⟨?_,by rw[<-HB.out];exact HH.out⟩;rw[HOK.out];first|rfl|(simp;done)|(simp;rfl)
structure Three (w:World) (t1 t2 t3:TypeId) (l1 l2 l3:List Value) (W:World):Prop where
 one:Blk W w.heap.size t1 l1
 two:Blk W (w.heap.size+1) t2 l2
 three:Blk W (w.heap.size+2) t3 l3
 below:Below w.heap.size w W
 size:W.heap.size=w.heap.size+3
theorem Three.new (w:World) (t1 t2 t3:TypeId) (cs1 cs2 cs3:Array Value):Three w t1 t2 t3 cs1.toList cs2.toList cs3.toList (((w.alloc (.cells cs1 t1)).alloc (.cells cs2 t2)).alloc (.cells cs3 t3)):=by
 obtain⟨h1,h2,h3,h4⟩:=Two.new w t1 t2 cs1 cs2;have k:=Blk.new ((w.alloc (.cells cs1 t1)).alloc (.cells cs2 t2)) t3 cs3;rw[h4] at k;exact⟨h1.alloc _,h2.alloc _,k,h3.alloc (by omega) _,by show (Array.push _ _).size=_;rw[Array.size_push,h4]⟩
theorem below_at {B C:Nat} {w w':World} (h:Below B w w') (hC:B<=C) (x y z:Value):Below B w (((w'.setCell ⟨C,0,none⟩ x).setCell ⟨C,1,none⟩ y).setCell ⟨C,2,none⟩ z):=
 ((h.setCell (p:=⟨C,0,none⟩) hC _).setCell (p:=⟨C,1,none⟩) hC _).setCell (p:=⟨C,2,none⟩) hC _
theorem svalue_any (a:Ra) (w:World) (hn:a.num.size<=536870912) (hd:a.den.size<=536870912):
  Calls Tryz.prog 138 #[a.v] w fun e w'=>e=.returned (valR a).v/\Below w.heap.size w w':=by
 have HR:=zH (fun w=>sRight_any a w hn hd);have HV:Hid (valR a=if okR a then a else ofI 0):=rfl;obtain⟨o,ho⟩:=zF (okR a);rw[ho] at HR HV;clear ho hn hd;generalize valR a=va at*;obtain⟨neg,num,den⟩:=a;unfold Ra.v at HR⊢;obtain⟨W,hW⟩:=zE ((w.alloc (.cells #[.bool neg,.string num,.string den] 43)).alloc (.cells #[.bool false,.string ⟨#[]⟩,.string ⟨#[]⟩] 43));have htwo:=Two.new w 43 43 #[.bool neg,.string num,.string den] #[.bool false,.string ⟨#[]⟩,.string ⟨#[]⟩];rw[<-hW] at htwo;obtain⟨hk0,hk1,hba,hsz⟩:=htwo;obtain⟨B,hB⟩:=zE w.heap.size;have HB:=zH hB;rw[<-hB] at hba hsz hk0 hk1;have hc0:=hk0.cells;cases o
 all_goals
  go_enter Tryz.func138,Tryz.ntmps138;go_wp2_with fail;simp only[<-hW,<-hB]
  clear hW hB;refine (HR.out _).mono ?_;rintro e w1 ⟨rfl,hb1⟩;have hk0':=hk0.below hb1 hk0.lt;have hk1':=hk1.below hb1 hk1.lt;have hB1:Below B w w1:=hba.trans (hb1.mono (by omega));have hc1:=hk0'.cells;have hc2:=hk1'.cells;have hf2:=hk1'.froz
 ·go_wp2_with fail;refine (rOf_one _).mono ?_;rintro e w2 ⟨rfl,hb2⟩;have hk1'':=hk1'.below hb2 hk1'.lt;have hB2:Below B w w2:=hB1.trans (hb2.mono (Nat.le_of_lt hk0'.lt));have hc3:=hk1''.cells;have hf3:=hk1''.froz;go_wp2;refine bodyPost_ret (v:=.agg #[.bool false,.string ⟨#[]⟩,.string (nbs 1)]) (by simp[results,Tryz.results138,go_sem,hc3]) rfl ⟨by rw[HV.out];rfl,?_⟩;rw[<-HB.out];exact below_at hB2 (Nat.le_succ _) _ _ _
 ·go_wp2;refine bodyPost_ret (v:=.agg #[.bool neg,.string num,.string den]) (by simp[results,Tryz.results138,go_sem,hc2]) rfl ⟨by rw[HV.out];rfl,?_⟩;rw[<-HB.out];exact below_at hB1 (Nat.le_succ _) _ _ _
theorem sOf_any (n:Int) (w:World) (h0:-9223372036854775808<=n) (h1:n<=9223372036854775807):
  Calls Tryz.prog 17 #[.int .i64 n] w fun e w'=>e=.returned (ofI n).v/\Below w.heap.size w w':=by
 obtain⟨W,hW⟩:=zE (w.alloc (.cells #[.bool false,.string ⟨#[]⟩,.string ⟨#[]⟩] 43));have hba:Below w.heap.size w W:=by rw[hW];exact zB _ _
 have hk0:Blk W w.heap.size 43 [.bool false,.string ⟨#[]⟩,.string ⟨#[]⟩]:=by rw[hW];exact Blk.new w _ _
 have hsz:W.heap.size=w.heap.size+1:=by rw[hW];exact Array.size_push _
 obtain⟨B,hB⟩:=zE w.heap.size;have HB:=zH hB;rw[<-hB] at hba hsz hk0;by_cases hn:n<0
 ·have HO:Hid (ofI n=⟨true,nbs (n+1).natAbs.succ,nbs 1⟩):=by
   show _=_;unfold ofI;rw[decide_eq_true hn,show n.natAbs=(n+1).natAbs.succ from by omega]
  have HA:=zH (fun w=>rAdd_any (nbs (n+1).natAbs) (nbs 1) w (Nat.le_trans (nbs_size_le _ 9 (by omega)) (by omega)) (Nat.le_trans (nbs_size_le _ 9 (by omega)) (by omega)));rw[vbs_nbs,vbs_nbs] at HA;have hneg:IntKind.i64.wrap (-(n+1))= -(n+1):=IntWalk.i64_in _ (by omega);have hng:(-(n+1)).toNat=(n+1).natAbs:=by omega
  go_enter Tryz.func17,Tryz.ntmps17;go_wp2_with fail;simp only[<-hW,<-hB]
  clear hW hB;refine (rOf_any _ _ (by omega) (by omega)).mono ?_;rintro e w1 ⟨rfl,hb1⟩;go_wp2_with fail;refine (rOf_one _).mono ?_;rintro e w2 ⟨rfl,hb2⟩
  try rw[hng]
  go_wp2_with fail;refine (HA.out _).mono ?_;rintro e w3 ⟨rfl,hb3⟩;go_wp2_with fail;refine (rOf_one _).mono ?_;rintro e w4 ⟨rfl,hb4⟩;have hb14:=bstep (bstep (bstep hb1 hb2) hb3) hb4;have hk3:=hk0.below hb14 hk0.lt;have hc:=hk3.cells;have hf:=hk3.froz;have HBW:=zH (hba.trans (hb14.mono (Nat.le_of_lt hk0.lt)));clear hb1 hb2 hb3 hb4 hb14;go_wp2;refine bodyPost_ret (v:=.agg #[.bool true,.string (nbs ((n+1).natAbs+1)),.string (nbs 1)]) (by simp[results,Tryz.results17,go_sem,hc]) rfl ⟨?_,by rw[<-HB.out];exact below_set3 HBW.out _ _ _⟩;rw[HO.out];rfl
 ·have HO:Hid (ofI n=⟨false,nbs n.toNat,nbs 1⟩):=by
   show _=_;unfold ofI;rw[decide_eq_false hn,show n.natAbs=n.toNat from by omega]
  go_enter Tryz.func17,Tryz.ntmps17;go_wp2_with fail;simp only[<-hW,<-hB]
  clear hW hB;refine (rOf_any _ _ (by omega) (by omega)).mono ?_;rintro e w1 ⟨rfl,hb1⟩;go_wp2_with fail;refine (rOf_one _).mono ?_;rintro e w2 ⟨rfl,hb2⟩;have hb14:=bstep hb1 hb2;have hk3:=hk0.below hb14 hk0.lt;have hc:=hk3.cells;have hf:=hk3.froz;have HBW:=zH (hba.trans (hb14.mono (Nat.le_of_lt hk0.lt)));clear hb1 hb2 hb14;go_wp2;refine bodyPost_ret (v:=.agg #[.bool false,.string (nbs n.toNat),.string (nbs 1)]) (by simp[results,Tryz.results17,go_sem,hc]) rfl ⟨?_,by rw[<-HB.out];exact below_set3 HBW.out _ _ _⟩;rw[HO.out];rfl
end Go.Proofs.YtimokmplkpbmdaaGreatDoor
