/- A part of the proof: R11 R12 Q1 Q2 Q3 Q4 Q5 Q6 Q7 Q8 S1 S2 W1. -/
import Derived.Test.YtimokmplkpbmdaaGreatDoorQ09
import Derived.Test.YtimokmplkpbmdaaGreatDoorQ13
set_option linter.all false
set_option maxRecDepth 100000
set_option maxHeartbeats 0
namespace Go.Proofs.YtimokmplkpbmdaaGreatDoor
open Go.RowKit
theorem LY (a b:ByteArray) (w:World) (ha:a.size<=1073741824) (hb:b.size<=1073741824):
  Calls Tryz.prog 178 #[.string a,.string b] w (BK (ay a) (ay b) w):=by
 rcases Nat.eq_zero_or_pos (ay b) with h0|h0
 ·exact VN a b w hb h0
 ·by_cases hs:ay a<256 ^ 7/\ay b<256 ^ 7
  ·exact SL a b w ha hb h0 hs.1 hs.2
  ·exact VO a b w ha hb h0 hs
theorem acu (n m K:Nat) (w:World) (hK:K<=1073741824) (hn:n<256 ^ K) (hm:m<256 ^ K) (h0:0<m):
  Calls Tryz.prog 178 #[.string (aC n),.string (aC m)] w fun e w'=>
   e=.returned (.tuple #[.string (aC (n / m)),.string (aC (n % m)),.bool true])/\Below w.heap.size w w':=by
 refine (LY (aC n) (aC m) w (Nat.le_trans (aZ _ _ hn) hK) (Nat.le_trans (aZ _ _ hm) hK)).mono ?_;rintro e w' ⟨rfl,hb⟩;rw[bJ,bJ];have p0:¬(m=0):=by omega
 rw[if_neg p0,if_neg p0,show (m !=0)=true from by simp[p0]];exact⟨rfl,hb⟩
theorem O9 (n:Nat):0<(aC n).size↔0<n:=by
 constructor
 ·intro h;rcases Nat.eq_zero_or_pos n with h0|h0
  ·subst h0;exact absurd h (by decide)
  ·exact h0
 ·intro h;have:=F5 _ (show n≠0 by omega);exact List.length_pos_iff.2 this
theorem LZ (a b:ByteArray) (w:World) (ha:a.size<=1073741824) (hb:b.size<=1073741824):
  Calls Tryz.prog 177 #[.string a,.string b] w fun e w'=>e=.returned (.string (aC (Nat.gcd (ay a) (ay b))))/\Below w.heap.size w w':=by
 have hK:∃K,K<=1073741824/\ay a<256 ^ K/\ay b<256 ^ K:=⟨max a.size b.size,by omega,dA a _ (Nat.le_max_left _ _),dA b _ (Nat.le_max_right _ _)⟩
 obtain⟨K,hK0,hK1,hK2⟩:=hK;have iF:=zH hK1;have jQ:=zH hK2;clear hK1 hK2;go_enter Tryz.func177,Tryz.ntmps177;go_wp2_with fail;refine (fZ a _ (by omega)).mono ?_;rintro e w' ⟨rfl,rfl⟩;go_wp2_with fail;refine (fZ b _ (by omega)).mono ?_;rintro e w' ⟨rfl,rfl⟩;go_wp2_with fail
 go_loopg [0,1] (ay b) (fun g xv yv wr=>∃n:Nat,xv=.string (aC n)/\yv=.string (aC g)/\Hid (Nat.gcd n g=Nat.gcd (ay a) (ay b))/\Hid (n<256 ^ K)/\Hid (g<256 ^ K)/\Below w.heap.size w wr)
 case atStart=>exact⟨ay a,rfl,rfl,rfl,iF,jQ,Below.refl _ _⟩
 case round=>
  obtain⟨n,rfl,rfl,hg,hn,hm,hbw⟩:=hrel;have hz:=O9 gk;by_cases h0:0<gk
  ·have hp:=hz.2 h0;clear hz;go_wp2_with fail;refine (acu n gk K _ hK0 hn.out hm.out h0).mono ?_;rintro e w3 ⟨rfl,hb3⟩;go_wp2_with fail
   go_roundg (n % gk)
   case measure=>exact Nat.mod_lt _ h0
   case rel=>
    refine⟨gk,rfl,rfl,?_,hm,Nat.lt_of_lt_of_le (Nat.mod_lt _ h0) (Nat.le_of_lt hm.out),ah hbw hb3⟩;show _=_;rw[<-hg.out,Nat.gcd_comm n gk,Nat.gcd_rec gk n,Nat.gcd_comm]
  ·obtain rfl:gk=0:=by omega
   have hp:¬0<(aC 0).size:=by decide
   clear hz;go_wp2;go_ret;have:=hg.out;rw[Nat.gcd_zero_right] at this;exact⟨by rw[this];rfl,hbw⟩
theorem Tq (n K:Nat) (hK:0<K) (h:n<256 ^ K):(Lib.decDigits n).length<=3*K:=by
 refine IC (3*K) n (by omega) (Nat.lt_of_lt_of_le h ?_);rw[Nat.pow_mul];exact Nat.pow_le_pow_left (by omega) K
structure Ra where
 neg:Bool
 num:ByteArray
 den:ByteArray
deriving DecidableEq
def Ra.v (a:Ra):Value:=.agg #[.bool a.neg,.string a.num,.string a.den]
def low (neg:Bool) (n d:Nat):Ra:=⟨neg&&decide (n≠0),aC (n / Nat.gcd n d),aC (d / Nat.gcd n d)⟩
theorem DF {n m:Nat} (h:aC n=aC m):n=m:=by
 have:=congrArg ay h;rwa[bJ,bJ] at this
theorem zU (n:Nat):aC n=⟨#[]⟩↔n=0:=by
 rw[show (⟨#[]⟩:ByteArray)=aC 0 from rfl];exact⟨DF,fun h=>by rw[h]⟩
theorem tZ (n:Nat):(aC n).toList.isEmpty=decide (n=0):=by
 rw[zN,Bool.eq_iff_iff,List.isEmpty_iff,decide_eq_true_iff];constructor
 ·intro h;rcases Nat.eq_zero_or_pos n with h0|h0
  ·exact h0
  ·exact absurd h (F5 n (by omega))
 ·intro h;subst h;rfl
theorem Jz (n m K:Nat) (w:World) (hK:K<=536870912) (hn:n<256 ^ K) (hm:m<256 ^ K) (h0:0<m):
  Calls Tryz.prog 152 #[.string (aC n),.string (aC m)] w fun e w'=>
   e=.returned (.tuple #[.string (aC (n / m)),.string (aC (n % m)),.bool true])/\Below w.heap.size w w':=by
 refine (SB (aC n) (aC m) w (Nat.le_trans (aZ _ _ hn) hK) (Nat.le_trans (aZ _ _ hm) hK)).mono ?_;rintro e w' ⟨rfl,hb⟩;rw[bJ,bJ];have p0:¬(m=0):=by omega
 rw[if_neg p0,if_neg p0,show (m !=0)=true from by simp[p0]];exact⟨rfl,hb⟩
theorem VW (n m K:Nat) (w:World) (hK:K<=536870912) (hn:n<256 ^ K) (hm:m<256 ^ K):
  Calls Tryz.prog 151 #[.string (aC n),.string (aC m)] w fun e w'=>e=.returned (.string (aC (Nat.gcd n m)))/\Below w.heap.size w w':=by
 have:=S9 (aC n) (aC m) w (Nat.le_trans (aZ _ _ hn) hK) (Nat.le_trans (aZ _ _ hm) hK);rwa[bJ,bJ] at this
theorem nJ (neg:Bool) (n d K:Nat) (w:World) (hK:K<=536870912) (hn:n<256 ^ K) (hd:d<256 ^ K) (h0:0<d):
  Calls Tryz.prog 114 #[.bool neg,.string (aC n),.string (aC d)] w fun e w'=>e=.returned (low neg n d).v/\Below w.heap.size w w':=by
 have hg:0<Nat.gcd n d:=Nat.gcd_pos_of_pos_right _ h0;have hgd:Nat.gcd n d<=d:=Nat.gcd_le_right _ h0;have HG:=zH (VW n d K);have rU:=zH (fun w=>Jz n (Nat.gcd n d) K w hK hn (by omega) hg);have xK:=zH (fun w=>Jz d (Nat.gcd n d) K w hK hd (by omega) hg);have HN:=zH hn;have HD:=zH hd
 have hdz:(n / Nat.gcd n d=0)↔n=0:=by
  constructor
  ·intro h;rcases Nat.eq_zero_or_pos n with h1|h1
   ·exact h1
   ·have h2:=Nat.gcd_le_left d h1;have:=Nat.div_pos h2 hg;omega
  ·intro h;rw[h];exact Nat.zero_div _
 have hb:(!(aC (n / Nat.gcd n d)).toList.isEmpty)=decide (n≠0):=by
  rw[tZ,decide_not,Bool.not_eq_eq_eq_not,Bool.not_not,decide_eq_decide,hdz]
 have iC:=zH hb;have IE:Hid (low neg n d=⟨neg&&decide (n≠0),aC (n / Nat.gcd n d),aC (d / Nat.gcd n d)⟩):=rfl;generalize low neg n d=r at*;generalize Nat.gcd n d=g at*;clear hb hdz hgd hn hd;obtain⟨W,hW⟩:=zE (w.alloc (.cells #[.bool false,.string ⟨#[]⟩,.string ⟨#[]⟩] 43));have hba:Below w.heap.size w W:=by rw[hW];exact zB _ _
 have hblk:aj W w.heap.size 43 [.bool false,.string ⟨#[]⟩,.string ⟨#[]⟩]:=by rw[hW];exact aj.new w _ _
 cases neg
 all_goals
  go_enter Tryz.func114,Tryz.ntmps114;go_wp2_with fail;simp only[<-hW]
  refine (HG.out _ hK HN.out HD.out).mono ?_;rintro e w1 ⟨rfl,hb1⟩;go_wp2_with fail;refine (rU.out _).mono ?_;rintro e w2 ⟨rfl,hb2⟩;go_wp2_with fail;refine (xK.out _).mono ?_;rintro e w3 ⟨rfl,hb3⟩;have IG:=ah (ah hb1 hb2) hb3;have hk3:=hblk.below IG hblk.lt;have hc0:=hk3.cell (i:=0) (by decide);have hc1:=hk3.cell (i:=1) (by decide);have hc2:=hk3.cell (i:=2) (by decide);have hf0:=hk3.frozen 0;have hf1:=hk3.frozen 1;have hf2:=hk3.frozen 2;simp only[List.getElem_cons_zero,List.getElem_cons_succ] at hc0 hc1 hc2;have hbw:=ah hba IG;clear hb1 hb2 hb3 IG hW;go_wp2
 ·refine bodyPost_ret (v:=.agg #[.bool false,.string (aC (n / g)),.string (aC (d / g))]) (by simp[results,Tryz.results114,go_sem,hc0,hc1,hc2]) rfl ⟨?_,((hbw.setCell (Nat.le_refl _) _).setCell (Nat.le_refl _) _).setCell (Nat.le_refl _) _⟩;rw[IE.out];rfl
 ·refine bodyPost_ret (v:=.agg #[.bool (!(aC (n / g)).toList.isEmpty),.string (aC (n / g)),.string (aC (d / g))]) (by simp[results,Tryz.results114,go_sem,hc0,hc1,hc2]) rfl ⟨?_,((hbw.setCell (Nat.le_refl _) _).setCell (Nat.le_refl _) _).setCell (Nat.le_refl _) _⟩;rw[IE.out,iC.out];rfl
theorem gq (s:ByteArray):dM s=true↔s=aC (ay s):=by
 obtain⟨⟨l⟩⟩:=s;constructor
 ·intro h
  have h1:l=nb (vb l):=by
   rw[<-Bz];cases l with
   |nil=>rfl
   |cons c l=>
    have hc:c≠0:=by simpa [dM] using h
    simp[og,hc]
  show _=(⟨(nb (vb l)).toArray⟩:ByteArray)
  rw[<-h1]
 ·intro h;have hr:=sD (vb l)
  have h1:l=nb (vb l):=by
   have:=congrArg (fun s:ByteArray=>s.data.toList) h;exact this
  rw[<-h1] at hr;cases l with
  |nil=>rfl
  |cons c l=>have:=hr (by simp);simpa [dM] using this
def okR (a:Ra):Bool:=dM a.den&&decide (0<ay a.den)&&dM a.num&&decide (low a.neg (ay a.num) (ay a.den)=a)
theorem L6 (n:ByteArray) (w:World) (hn:n.size<=1073741824):
  Calls Tryz.prog 112 #[.agg #[.string ⟨#[]⟩],.string n] w fun e w'=>e=.returned (.bool (dM n&&decide (0<ay n)))/\Below w.heap.size w w':=by
 obtain⟨W,hW⟩:=zE (w.alloc (.cells #[.string ⟨#[]⟩] 178));have hba:Below w.heap.size w W:=by rw[hW];exact zB _ _
 have hblk:aj W w.heap.size 178 [.string ⟨#[]⟩]:=by rw[hW];exact aj.new w _ _
 have hc0:=hblk.cell (i:=0) (by decide);simp only[List.getElem_cons_zero] at hc0;have HR:=zH (wG n W);have HC:=zH (Sv n ⟨#[]⟩ W hn (by show 0<=_;omega))
 have hcmp:decide (0<iE (ay n) (ay ⟨#[]⟩))=decide (0<ay n):=by
  rw[decide_eq_decide,show ay ⟨#[]⟩=0 from rfl];unfold iE;split
  ·omega
  ·split<;>omega
 generalize iE (ay n) (ay ⟨#[]⟩)=z at*;cases hr:dM n
 ·rw[hr] at HR;go_enter Tryz.func112,Tryz.ntmps112;go_wp2_with fail;simp only[<-hW]
  clear hW;refine HR.out.mono ?_;rintro e w' ⟨rfl,rfl⟩;go_wp2;go_ret;exact⟨rfl,hba⟩
 ·rw[hr] at HR;go_enter Tryz.func112,Tryz.ntmps112;go_wp2_with fail;simp only[<-hW]
  clear hW;refine HR.out.mono ?_;rintro e w' ⟨rfl,rfl⟩;go_wp2_with fail;refine HC.out.mono ?_;rintro e w2 ⟨rfl,hb2⟩;go_wp2;go_ret;refine⟨?_,ah hba hb2⟩;rw[<-hcmp];rfl
theorem toList_inj {a b:ByteArray} (h:a.toList=b.toList):a=b:=by
 rw[ByteArray.toList_eq,ByteArray.toList_eq] at h;obtain⟨⟨a⟩⟩:=a;obtain⟨⟨b⟩⟩:=b;simp at h;rw[h]
theorem II {α:Type} (f:Bool->α) (a b:Ra):
  (if a.neg=b.neg then if a.num.toList=b.num.toList then if a.den.toList=b.den.toList then f true else f false else f false else f false)=f (decide (a=b)):=by
 by_cases h:a=b
 ·subst h;simp
 ·rw[decide_eq_false h];split
  ·split
   ·split
    ·next h1 h2 h3=>
     exfalso;apply h;obtain⟨x,y,z⟩:=a;obtain⟨x',y',z'⟩:=b;simp only at h1 h2 h3;rw[h1,toList_inj h2,toList_inj h3]
    ·rfl
   ·rfl
  ·rfl
def BP (w:World) (b:Nat) (a:Ra):Prop:=
 w.cell? ⟨b,0,none⟩=some (.bool a.neg)/\w.cell? ⟨b,1,none⟩=some (.string a.num)/\w.cell? ⟨b,2,none⟩=some (.string a.den)
theorem BP.yQ {w:World} {b:Nat} {a:Ra} {t:TypeId} (h:aj w b t [.bool a.neg,.string a.num,.string a.den]):BP w b a:=by
 have hc0:=h.cell (i:=0) (by simp);have hc1:=h.cell (i:=1) (by simp);have hc2:=h.cell (i:=2) (by simp);exact⟨hc0,hc1,hc2⟩
theorem qX (a:Ra) (w:World) (hn:a.num.size<=536870912) (hd:a.den.size<=536870912):
  Calls Tryz.prog 72 #[a.v] w fun e w'=>e=.returned (.bool (okR a))/\Below w.heap.size w w':=by
 obtain⟨neg,num,den⟩:=a;obtain⟨W,hW⟩:=zE (w.alloc (.cells #[.bool neg,.string num,.string den] 43));have hba:Below w.heap.size w W:=by rw[hW];exact zB _ _
 have hblk:aj W w.heap.size 43 [.bool neg,.string num,.string den]:=by rw[hW];exact aj.new w _ _
 obtain⟨B,hB⟩:=zE w.heap.size;rw[<-hB] at hblk;have hbs:B<W.heap.size:=hblk.lt;have hc:=BP.yQ (a:=⟨neg,num,den⟩) hblk;obtain⟨hc0,hc1,hc2⟩:=hc
 have HK:Hid (∀w' w1:World,(w'.cell? ⟨B,0,none⟩=some (.bool neg)/\w'.cell? ⟨B,1,none⟩=some (.string num)/\w'.cell? ⟨B,2,none⟩=some (.string den)/\Below W.heap.size W w')->Below w'.heap.size w' w1->
   (w1.cell? ⟨B,0,none⟩=some (.bool neg)/\w1.cell? ⟨B,1,none⟩=some (.string num)/\w1.cell? ⟨B,2,none⟩=some (.string den)/\Below W.heap.size W w1)):=by
  rintro w' w1 ⟨h0,h1,h2,hb⟩ hb1;have hlt:B<w'.heap.size:=Nat.lt_of_lt_of_le hbs hb.size;exact⟨(hb1.cell hlt).trans h0,(hb1.cell hlt).trans h1,(hb1.cell hlt).trans h2,ah hb hb1⟩
 have HS:Hid (W.drew.cell? ⟨B,0,none⟩=some (.bool neg)/\W.drew.cell? ⟨B,1,none⟩=some (.string num)/\W.drew.cell? ⟨B,2,none⟩=some (.string den)/\Below W.heap.size W W.drew):=
  ⟨hc0,hc1,hc2,below_drewN (Below.refl _ _) 1⟩
 have HP:=zH (fun w=>L6 den w (by simp at hd;omega));have HR:=zH (fun w=>wG num w);simp only at hn hd;have jw:Hid (okR ⟨neg,num,den⟩=(dM den&&decide (0<ay den)&&dM num&&decide (low neg (ay num) (ay den)=⟨neg,num,den⟩))):=rfl;cases hp:(dM den&&decide (0<ay den))
 ·rw[hp] at HP jw;clear hp hblk hc0 hc1 hc2;unfold Ra.v;go_enter Tryz.func72,Tryz.ntmps72;go_wp2_with fail;simp only[<-hW,<-hB]
  clear hW hB;refine wp_region_noPanic ?_;refine wp_region_held_drew (S:=fun w'=>w'.cell? ⟨B,0,none⟩=some (.bool neg)/\w'.cell? ⟨B,1,none⟩=some (.string num)/\w'.cell? ⟨B,2,none⟩=some (.string den)/\Below W.heap.size W w') (by kernel_rfl) HS.out (fun hHeld=>?_);refine aP 0 ?_;refine aP 1 ?_;refine aP 2 ?_;refine iV 3 fun K hK=>?_
  go_simp;refine (HP.out _).mono ?_;rintro e w1 ⟨rfl,hb1⟩;go_wp2_with fail;refine gI hK (HK.out _ _ (by assumption) hb1) fun hHeld=>?_
  clear hK K;refine aP 4 ?_;refine lD 5 rfl ?_
  try simp only[Act.put,tk1,tk2,tk3,tk4,gU,gV]
  refine lD 6 rfl ?_
  try simp only[Act.put,tk1,tk2,tk3,tk4,gU,gV]
  refine lD 7 rfl ?_
  try simp only[Act.put,tk1,tk2,tk3,tk4,gU,gV]
  refine aP 8 ?_;refine aP 9 ?_;refine lD 10 rfl ?_
  try simp only[Act.put,tk1,tk2,tk3,tk4,gU,gV]
  refine lD 11 rfl ?_
  try simp only[Act.put,tk1,tk2,tk3,tk4,gU,gV]
  refine lD 12 rfl ?_
  try simp only[Act.put,tk1,tk2,tk3,tk4,gU,gV]
  refine lD 13 rfl ?_
  try simp only[Act.put,tk1,tk2,tk3,tk4,gU,gV]
  refine lD 14 rfl ?_
  try simp only[Act.put,tk1,tk2,tk3,tk4,gU,gV]
  refine lD 15 rfl ?_
  try simp only[Act.put,tk1,tk2,tk3,tk4,gU,gV]
  refine lD 16 rfl ?_
  try simp only[Act.put,tk1,tk2,tk3,tk4,gU,gV]
  refine lD 17 rfl ?_
  try simp only[Act.put,tk1,tk2,tk3,tk4,gU,gV]
  refine lD 18 rfl ?_
  try simp only[Act.put,tk1,tk2,tk3,tk4,gU,gV]
  refine aP 19 ?_;refine aP 20 ?_;refine wpAnyH_done (by kernel_rfl) ?_ _;refine NoPanic.normal ?_;go_wp2;go_ret;exact⟨by rw[jw.out];rfl,ah hba hHeld.2.2.2⟩
 ·rw[hp] at HP jw;cases hr:dM num
  ·rw[hr] at HR jw;clear hr hp hblk hc0 hc1 hc2;unfold Ra.v;go_enter Tryz.func72,Tryz.ntmps72;go_wp2_with fail;simp only[<-hW,<-hB]
   clear hW hB;refine wp_region_noPanic ?_;refine wp_region_held_drew (S:=fun w'=>w'.cell? ⟨B,0,none⟩=some (.bool neg)/\w'.cell? ⟨B,1,none⟩=some (.string num)/\w'.cell? ⟨B,2,none⟩=some (.string den)/\Below W.heap.size W w') (by kernel_rfl) HS.out (fun hHeld=>?_);refine aP 0 ?_;refine aP 1 ?_;refine aP 2 ?_;refine iV 3 fun K hK=>?_
   go_simp;refine (HP.out _).mono ?_;rintro e w1 ⟨rfl,hb1⟩;go_wp2_with fail;refine gI hK (HK.out _ _ (by assumption) hb1) fun hHeld=>?_
   clear hK K;refine aP 4 ?_;refine aP 5 ?_;refine aP 6 ?_;refine iV 7 fun K hK=>?_
   go_simp;refine (HR.out _).mono ?_;rintro e w1 ⟨rfl,rfl⟩;go_wp2_with fail;refine gI hK (by assumption) fun hHeld=>?_
   clear hK K;refine aP 8 ?_;refine aP 9 ?_;refine lD 10 rfl ?_
   try simp only[Act.put,tk1,tk2,tk3,tk4,gU,gV]
   refine lD 11 rfl ?_
   try simp only[Act.put,tk1,tk2,tk3,tk4,gU,gV]
   refine lD 12 rfl ?_
   try simp only[Act.put,tk1,tk2,tk3,tk4,gU,gV]
   refine lD 13 rfl ?_
   try simp only[Act.put,tk1,tk2,tk3,tk4,gU,gV]
   refine lD 14 rfl ?_
   try simp only[Act.put,tk1,tk2,tk3,tk4,gU,gV]
   refine lD 15 rfl ?_
   try simp only[Act.put,tk1,tk2,tk3,tk4,gU,gV]
   refine lD 16 rfl ?_
   try simp only[Act.put,tk1,tk2,tk3,tk4,gU,gV]
   refine lD 17 rfl ?_
   try simp only[Act.put,tk1,tk2,tk3,tk4,gU,gV]
   refine lD 18 rfl ?_
   try simp only[Act.put,tk1,tk2,tk3,tk4,gU,gV]
   refine aP 19 ?_;refine aP 20 ?_;refine wpAnyH_done (by kernel_rfl) ?_ _;refine NoPanic.normal ?_;go_wp2;go_ret;exact⟨by rw[jw.out];rfl,ah hba hHeld.2.2.2⟩
  ·rw[hr] at HR jw;rw[Bool.and_eq_true,decide_eq_true_eq] at hp;have en:=(gq num).1 hr;have ed:=(gq den).1 hp.1;have hvn:=fF num;have hvd:=fF den;obtain⟨K,hK⟩:=zE 536870912;have HL:=zH (fun w=>nJ neg (ay num) (ay den) K w (Nat.le_of_eq hK) (dA num K (by rw[hK];exact hn)) (dA den K (by rw[hK];exact hd)) hp.2);clear hK;rw[<-en,<-ed] at HL;obtain⟨lw,L8⟩:=zF (low neg (ay num) (ay den));rw[L8] at HL jw;obtain⟨ln,lu,ld⟩:=lw;obtain⟨dq,jY⟩:∃d,decide ((⟨ln,lu,ld⟩:Ra)=⟨neg,num,den⟩)=d:=⟨_,rfl⟩
   rw[jY] at jw;have qG:=zH jY;clear jY;clear hr hp hblk hc0 hc1 hc2 en ed hvn hvd L8;unfold Ra.v;go_enter Tryz.func72,Tryz.ntmps72;go_wp2_with fail;simp only[<-hW,<-hB]
   clear hW hB;refine wp_region_noPanic ?_;refine wp_region_held_drew (S:=fun w'=>w'.cell? ⟨B,0,none⟩=some (.bool neg)/\w'.cell? ⟨B,1,none⟩=some (.string num)/\w'.cell? ⟨B,2,none⟩=some (.string den)/\Below W.heap.size W w') (by kernel_rfl) HS.out (fun hHeld=>?_);refine aP 0 ?_;refine aP 1 ?_;refine aP 2 ?_;refine iV 3 fun K hK=>?_
   go_simp;refine (HP.out _).mono ?_;rintro e w1 ⟨rfl,hb1⟩;go_wp2_with fail;refine gI hK (HK.out _ _ (by assumption) hb1) fun hHeld=>?_
   clear hK K;refine aP 4 ?_;refine aP 5 ?_;refine aP 6 ?_;refine iV 7 fun K hK=>?_
   go_simp;refine (HR.out _).mono ?_;rintro e w1 ⟨rfl,rfl⟩;go_wp2_with fail;refine gI hK (by assumption) fun hHeld=>?_
   clear hK K;refine aP 8 ?_;refine aP 9 ?_;refine aP 10 ?_;refine aP 11 ?_;refine aP 12 ?_;refine aP 13 ?_;refine aP 14 ?_;refine aP 15 ?_;refine aP 17 ?_;refine iV 16 fun K hK=>?_
   go_simp;refine (HL.out _).mono ?_;rintro e w1 ⟨rfl,hb1⟩;simp only[Ra.v]
   go_wp2_with fail;refine gI hK (HK.out _ _ (by assumption) hb1) fun hHeld=>?_
   clear hK K;refine tkY 18 (.bool dq) rfl ?_ ?_
   ·intro w hSw;(try dsimp only at hSw);go_simp;rw[<-qG.out];exact II (fun t=>Result.ok (Next.value (Value.bool t)) w) ⟨ln,lu,ld⟩ ⟨neg,num,den⟩
   try simp only[Act.put,tk1,tk2,tk3,tk4,gU,gV]
   refine aP 19 ?_;refine aP 20 ?_;refine wpAnyH_done (by kernel_rfl) ?_ _;refine NoPanic.normal ?_;go_wp2;go_ret;exact⟨by rw[jw.out];rfl,ah hba hHeld.2.2.2⟩
def aS (n:Int):Ra:=⟨decide (n<0),aC n.natAbs,aC 1⟩
theorem uG (w:World):Calls Tryz.prog 124 #[.int .i64 1] w fun e w'=>e=.returned (.string (aC 1))/\Below w.heap.size w w':=BJ 1 w (by omega) (by omega)
theorem lY (n:Int) (w:World) (h0:-9223372036854775808<=n) (h1:n<=9223372036854775807):
  Calls Tryz.prog 115 #[.int .i64 n] w fun e w'=>e=.returned (aS n).v/\Below w.heap.size w w':=by
 obtain⟨W,hW⟩:=zE (w.alloc (.cells #[.bool false,.string ⟨#[]⟩,.string ⟨#[]⟩] 43));have hba:Below w.heap.size w W:=by rw[hW];exact zB _ _
 have hblk:aj W w.heap.size 43 [.bool false,.string ⟨#[]⟩,.string ⟨#[]⟩]:=by rw[hW];exact aj.new w _ _
 by_cases hn:n<0
 ·have HO:Hid (aS n=⟨true,aC (n+1).natAbs.succ,aC 1⟩):=by
   show _=_;unfold aS;rw[decide_eq_true hn,show n.natAbs=(n+1).natAbs.succ from by omega]
  have HA:=zH (fun w=>Gp (aC (n+1).natAbs) (aC 1) w (Nat.le_trans (aZ _ 9 (by omega)) (by omega)) (Nat.le_trans (aZ _ 9 (by omega)) (by omega)));rw[bJ,bJ] at HA;have hneg:IntKind.i64.wrap (-(n+1))= -(n+1):=IntWalk.i64_in _ (by omega);have Gw:(-(n+1)).toNat=(n+1).natAbs:=by omega
  go_enter Tryz.func115,Tryz.ntmps115;go_wp2_with fail;simp only[<-hW]
  clear hW;refine (BJ _ _ (by omega) (by omega)).mono ?_;rintro e w1 ⟨rfl,hb1⟩;go_wp2_with fail;refine (uG _).mono ?_;rintro e w2 ⟨rfl,hb2⟩
  try rw[Gw]
  go_wp2_with fail;refine (HA.out _).mono ?_;rintro e w3 ⟨rfl,hb3⟩;go_wp2_with fail;refine (uG _).mono ?_;rintro e w4 ⟨rfl,hb4⟩;have qj:=ah (ah (ah hb1 hb2) hb3) hb4;have hk3:=hblk.below qj hblk.lt;have hc0:=hk3.cell (i:=0) (by decide);have hc1:=hk3.cell (i:=1) (by decide);have hc2:=hk3.cell (i:=2) (by decide);have hf0:=hk3.frozen 0;have hf1:=hk3.frozen 1;have hf2:=hk3.frozen 2;simp only[List.getElem_cons_zero,List.getElem_cons_succ] at hc0 hc1 hc2;have hbw:=ah hba qj;clear hb1 hb2 hb3 hb4 qj;go_wp2;refine bodyPost_ret (v:=.agg #[.bool true,.string (aC ((n+1).natAbs+1)),.string (aC 1)]) (by simp[results,Tryz.results115,go_sem,hc0,hc1,hc2]) rfl ⟨?_,((hbw.setCell (Nat.le_refl _) _).setCell (Nat.le_refl _) _).setCell (Nat.le_refl _) _⟩;rw[HO.out];rfl
 ·have HO:Hid (aS n=⟨false,aC n.toNat,aC 1⟩):=by
   show _=_;unfold aS;rw[decide_eq_false hn,show n.natAbs=n.toNat from by omega]
  go_enter Tryz.func115,Tryz.ntmps115;go_wp2_with fail;simp only[<-hW]
  clear hW;refine (BJ _ _ (by omega) (by omega)).mono ?_;rintro e w1 ⟨rfl,hb1⟩;go_wp2_with fail;refine (uG _).mono ?_;rintro e w2 ⟨rfl,hb2⟩;have qj:=ah hb1 hb2;have hk3:=hblk.below qj hblk.lt;have hc0:=hk3.cell (i:=0) (by decide);have hc1:=hk3.cell (i:=1) (by decide);have hc2:=hk3.cell (i:=2) (by decide);have hf0:=hk3.frozen 0;have hf1:=hk3.frozen 1;have hf2:=hk3.frozen 2;simp only[List.getElem_cons_zero,List.getElem_cons_succ] at hc0 hc1 hc2;have hbw:=ah hba qj;clear hb1 hb2 qj;go_wp2;refine bodyPost_ret (v:=.agg #[.bool false,.string (aC n.toNat),.string (aC 1)]) (by simp[results,Tryz.results115,go_sem,hc0,hc1,hc2]) rfl ⟨?_,((hbw.setCell (Nat.le_refl _) _).setCell (Nat.le_refl _) _).setCell (Nat.le_refl _) _⟩;rw[HO.out];rfl
def fD (a:Ra):Ra:=if okR a then a else aS 0
structure Two (w:World) (t1 t2:TypeId) (l1 l2:List Value) (W:World):Prop where
 one:aj W w.heap.size t1 l1
 two:aj W (w.heap.size+1) t2 l2
 below:Below w.heap.size w W
 size:W.heap.size=w.heap.size+2
theorem Two.new (w:World) (t1 t2:TypeId) (cs1 cs2:Array Value):Two w t1 t2 cs1.toList cs2.toList ((w.alloc (.cells cs1 t1)).alloc (.cells cs2 t2)):=by
 have h1:(w.alloc (.cells cs1 t1)).heap.size=w.heap.size+1:=by show (w.heap.push _).size=_;rw[Array.size_push]
 have hb1:Below w.heap.size w (w.alloc (.cells cs1 t1)):=(Below.refl _ _).alloc (Nat.le_refl _) _;have hb2:Below (w.alloc (.cells cs1 t1)).heap.size (w.alloc (.cells cs1 t1)) ((w.alloc (.cells cs1 t1)).alloc (.cells cs2 t2)):=(Below.refl _ _).alloc (Nat.le_refl _) _;have k1:=aj.new w t1 cs1;have k2:=aj.new (w.alloc (.cells cs1 t1)) t2 cs2;rw[h1] at k2;exact⟨k1.below hb2 k1.lt,k2,ah hb1 hb2,by show ((w.alloc (.cells cs1 t1)).heap.push _).size=_;rw[Array.size_push,h1]⟩
theorem oP (a:Ra) (w:World) (hn:a.num.size<=536870912) (hd:a.den.size<=536870912):
  Calls Tryz.prog 122 #[a.v] w fun e w'=>e=.returned (fD a).v/\Below w.heap.size w w':=by
 have HR:=zH (fun w=>qX a w hn hd);have HV:Hid (fD a=if okR a then a else aS 0):=rfl;obtain⟨o,ho⟩:=zF (okR a);rw[ho] at HR HV;clear ho hn hd;generalize fD a=va at*;obtain⟨neg,num,den⟩:=a;unfold Ra.v at HR⊢;obtain⟨W,hW⟩:=zE ((w.alloc (.cells #[.bool neg,.string num,.string den] 43)).alloc (.cells #[.bool false,.string ⟨#[]⟩,.string ⟨#[]⟩] 43));have lQ:=Two.new w 43 43 #[.bool neg,.string num,.string den] #[.bool false,.string ⟨#[]⟩,.string ⟨#[]⟩];rw[<-hW] at lQ;obtain⟨hblk1,hblk,hbw,hsz⟩:=lQ;have hl1:=hblk1.lt;have hl2:=hblk.lt;obtain⟨hd0,hd1,hd2⟩:=BP.yQ (a:=⟨neg,num,den⟩) hblk1;simp only at hd0 hd1 hd2;obtain⟨B,hB⟩:=zE w.heap.size;rw[<-hB] at hd0 hd1 hd2 hblk hbw hsz hl1 hl2 hblk1;have HB:=zH hB
 have hr:∀w1,Below W.heap.size W w1->w1.cell? ⟨B,0,none⟩=some (.bool neg)/\w1.cell? ⟨B,1,none⟩=some (.string num)/\w1.cell? ⟨B,2,none⟩=some (.string den):=fun w1 hb=>by
  obtain⟨h0,h1,h2⟩:=BP.yQ (a:=⟨neg,num,den⟩) (hblk1.below hb hl1);exact⟨h0,h1,h2⟩
 have xJ:=zH hr;clear hr;cases o
 all_goals
  go_enter Tryz.func122,Tryz.ntmps122;go_wp2_with fail;simp only[<-hW,<-hB]
  clear hW hB;refine (HR.out _).mono ?_;rintro e w1 ⟨rfl,hb1⟩;obtain⟨hd0,hd1,hd2⟩:=xJ.out w1 hb1;have hk1:=hblk.below hb1 hl2
 ·go_wp2_with fail;refine (lY 0 _ (by omega) (by omega)).mono ?_;rintro e w2 ⟨rfl,hb2⟩;have hk2:=hk1.below hb2 hk1.lt;have hc0:=hk2.cell (i:=0) (by decide);have hc1:=hk2.cell (i:=1) (by decide);have hc2:=hk2.cell (i:=2) (by decide);have hf0:=hk2.frozen 0;have hf1:=hk2.frozen 1;have hf2:=hk2.frozen 2;simp only[List.getElem_cons_zero,List.getElem_cons_succ] at hc0 hc1 hc2;simp only[Ra.v,aS]
  go_wp2;refine bodyPost_ret (v:=.agg #[.bool false,.string (aC 0),.string (aC 1)]) (by simp[results,Tryz.results122,go_sem,hc0,hc1,hc2]) rfl ⟨?_,?_⟩
  ·rw[HV.out];rfl
  ·have h1:Below B w w2:=hbw.trans ((ah hb1 hb2).mono (by omega));rw[<-HB.out];exact ((h1.setCell (Nat.le_succ _) _).setCell (Nat.le_succ _) _).setCell (Nat.le_succ _) _
 ·have hc0:=hk1.cell (i:=0) (by decide);have hc1:=hk1.cell (i:=1) (by decide);have hc2:=hk1.cell (i:=2) (by decide);have hf0:=hk1.frozen 0;have hf1:=hk1.frozen 1;have hf2:=hk1.frozen 2;simp only[List.getElem_cons_zero,List.getElem_cons_succ] at hc0 hc1 hc2;go_wp2;refine bodyPost_ret (v:=.agg #[.bool neg,.string num,.string den]) (by simp[results,Tryz.results122,go_sem,hc0,hc1,hc2]) rfl ⟨?_,?_⟩
  ·rw[HV.out];rfl
  ·have h1:Below B w w1:=hbw.trans (hb1.mono (by omega));rw[<-HB.out];exact ((h1.setCell (Nat.le_succ _) _).setCell (Nat.le_succ _) _).setCell (Nat.le_succ _) _
def BQ (neg:Bool) (num den:ByteArray):Ra × Bool:=
 if dM den&&decide (0<ay den)&&dM num then (low neg (ay num) (ay den),true) else (⟨false,⟨#[]⟩,⟨#[]⟩⟩,false)
theorem VX (neg:Bool) (num den:ByteArray) (w:World) (hn:num.size<=536870912) (hd:den.size<=536870912):
  Calls Tryz.prog 213 #[.bool neg,.string num,.string den] w fun e w'=>e=.returned (.tuple #[(BQ neg num den).1.v,.bool (BQ neg num den).2])/\Below w.heap.size w w':=by
 obtain⟨W,hW⟩:=zE (w.alloc (.cells #[.bool false,.string ⟨#[]⟩,.string ⟨#[]⟩] 43));have hba:Below w.heap.size w W:=by rw[hW];exact zB _ _
 have hblk:aj W w.heap.size 43 [.bool false,.string ⟨#[]⟩,.string ⟨#[]⟩]:=by rw[hW];exact aj.new w _ _
 have HP:=zH (fun w=>L6 den w (by omega));have HR:=zH (fun w=>wG num w);have HM:Hid (BQ neg num den=if dM den&&decide (0<ay den)&&dM num then (low neg (ay num) (ay den),true) else (⟨false,⟨#[]⟩,⟨#[]⟩⟩,false)):=rfl;cases hp:(dM den&&decide (0<ay den))
 ·rw[hp] at HP HM;clear hp;go_enter Tryz.func213,Tryz.ntmps213;go_wp2_with fail;simp only[<-hW]
  clear hW;refine (HP.out _).mono ?_;rintro e w1 ⟨rfl,hb1⟩;have hk3:=hblk.below hb1 hblk.lt;have hc0:=hk3.cell (i:=0) (by decide);have hc1:=hk3.cell (i:=1) (by decide);have hc2:=hk3.cell (i:=2) (by decide);have hf0:=hk3.frozen 0;have hf1:=hk3.frozen 1;have hf2:=hk3.frozen 2;simp only[List.getElem_cons_zero,List.getElem_cons_succ] at hc0 hc1 hc2;have hbw:=ah hba hb1;go_wp2;refine bodyPost_ret (v:=.tuple #[.agg #[.bool false,.string ⟨#[]⟩,.string ⟨#[]⟩],.bool false]) (by simp[results,Tryz.results213,go_sem,hc0,hc1,hc2]) rfl ⟨?_,((hbw.setCell (Nat.le_refl _) _).setCell (Nat.le_refl _) _).setCell (Nat.le_refl _) _⟩;rw[HM.out];rfl
 ·rw[hp] at HP HM;cases hr:dM num
  ·rw[hr] at HR HM;clear hp hr;go_enter Tryz.func213,Tryz.ntmps213;go_wp2_with fail;simp only[<-hW]
   clear hW;refine (HP.out _).mono ?_;rintro e w1 ⟨rfl,hb1⟩;go_wp2_with fail;refine (HR.out _).mono ?_;rintro e w2 ⟨rfl,rfl⟩;have hk3:=hblk.below hb1 hblk.lt;have hc0:=hk3.cell (i:=0) (by decide);have hc1:=hk3.cell (i:=1) (by decide);have hc2:=hk3.cell (i:=2) (by decide);have hf0:=hk3.frozen 0;have hf1:=hk3.frozen 1;have hf2:=hk3.frozen 2;simp only[List.getElem_cons_zero,List.getElem_cons_succ] at hc0 hc1 hc2;have hbw:=ah hba hb1;go_wp2;refine bodyPost_ret (v:=.tuple #[.agg #[.bool false,.string ⟨#[]⟩,.string ⟨#[]⟩],.bool false]) (by simp[results,Tryz.results213,go_sem,hc0,hc1,hc2]) rfl ⟨?_,((hbw.setCell (Nat.le_refl _) _).setCell (Nat.le_refl _) _).setCell (Nat.le_refl _) _⟩;rw[HM.out];rfl
  ·rw[hr] at HR HM;rw[Bool.and_eq_true,decide_eq_true_eq] at hp;have en:=(gq num).1 hr;have ed:=(gq den).1 hp.1;have hvn:=fF num;have hvd:=fF den;obtain⟨K,hK⟩:=zE 536870912;have HL:=zH (fun w=>nJ neg (ay num) (ay den) K w (Nat.le_of_eq hK) (dA num K (by rw[hK];exact hn)) (dA den K (by rw[hK];exact hd)) hp.2);clear hK;rw[<-en,<-ed] at HL;obtain⟨lw,L8⟩:=zF (low neg (ay num) (ay den));rw[L8] at HL HM;obtain⟨ln,lu,ld⟩:=lw;clear hr hp en ed hvn hvd L8;go_enter Tryz.func213,Tryz.ntmps213;go_wp2_with fail;simp only[<-hW]
   clear hW;refine (HP.out _).mono ?_;rintro e w1 ⟨rfl,hb1⟩;go_wp2_with fail;refine (HR.out _).mono ?_;rintro e w2 ⟨rfl,rfl⟩;go_wp2_with fail;refine (HL.out _).mono ?_;rintro e w3 ⟨rfl,hb3⟩;have IG:=ah hb1 hb3;have hk3:=hblk.below IG hblk.lt;have hc0:=hk3.cell (i:=0) (by decide);have hc1:=hk3.cell (i:=1) (by decide);have hc2:=hk3.cell (i:=2) (by decide);have hf0:=hk3.frozen 0;have hf1:=hk3.frozen 1;have hf2:=hk3.frozen 2;simp only[List.getElem_cons_zero,List.getElem_cons_succ] at hc0 hc1 hc2;have hbw:=ah hba IG;simp only[Ra.v]
   go_wp2;refine bodyPost_ret (v:=.tuple #[.agg #[.bool ln,.string lu,.string ld],.bool true]) (by simp[results,Tryz.results213,go_sem,hc0,hc1,hc2]) rfl ⟨?_,((hbw.setCell (Nat.le_refl _) _).setCell (Nat.le_refl _) _).setCell (Nat.le_refl _) _⟩;rw[HM.out];rfl
def eH (a:Ra):Int:=if okR a then (if a=aS 0 then 0 else if a.neg then-1 else 1) else 0
theorem uH (a:Ra) (w:World) (hn:a.num.size<=536870912) (hd:a.den.size<=536870912):
  Calls Tryz.prog 73 #[a.v] w fun e w'=>e=.returned (.int .i64 (eH a))/\Below w.heap.size w w':=by
 have HR:=zH (fun w=>qX a w hn hd);have HV:Hid (eH a=if okR a then (if a=aS 0 then 0 else if a.neg then-1 else 1) else 0):=rfl;obtain⟨o,ho⟩:=zF (okR a);rw[ho] at HR HV;clear ho hn hd;obtain⟨z,hz⟩:=zF (eH a);rw[hz] at HV⊢;clear hz;obtain⟨neg,num,den⟩:=a;obtain⟨dq,jY⟩:∃d,decide ((⟨neg,num,den⟩:Ra)=aS 0)=d:=⟨_,rfl⟩
 have qG:=zH jY;clear jY
 have HZ:Hid (z=if o then (if dq then 0 else if neg then-1 else 1) else 0):=by
  show _=_;have h:=HV.out;rw[h,<-qG.out];simp
 clear HV;unfold Ra.v at HR⊢;obtain⟨W,hW⟩:=zE (w.alloc (.cells #[.bool neg,.string num,.string den] 43));have hba:Below w.heap.size w W:=by rw[hW];exact zB _ _
 have hblk:aj W w.heap.size 43 [.bool neg,.string num,.string den]:=by rw[hW];exact aj.new w _ _
 obtain⟨B,hB⟩:=zE w.heap.size;rw[<-hB] at hblk;have hbs:B<W.heap.size:=hblk.lt;have hc:=BP.yQ (a:=⟨neg,num,den⟩) hblk;obtain⟨hc0,hc1,hc2⟩:=hc
 have HK:Hid (∀w' w1:World,(w'.cell? ⟨B,0,none⟩=some (.bool neg)/\w'.cell? ⟨B,1,none⟩=some (.string num)/\w'.cell? ⟨B,2,none⟩=some (.string den)/\Below W.heap.size W w')->Below w'.heap.size w' w1->
   (w1.cell? ⟨B,0,none⟩=some (.bool neg)/\w1.cell? ⟨B,1,none⟩=some (.string num)/\w1.cell? ⟨B,2,none⟩=some (.string den)/\Below W.heap.size W w1)):=by
  rintro w' w1 ⟨h0,h1,h2,hb⟩ hb1;have hlt:B<w'.heap.size:=Nat.lt_of_lt_of_le hbs hb.size;exact⟨(hb1.cell hlt).trans h0,(hb1.cell hlt).trans h1,(hb1.cell hlt).trans h2,ah hb hb1⟩
 have HS:Hid (W.drew.cell? ⟨B,0,none⟩=some (.bool neg)/\W.drew.cell? ⟨B,1,none⟩=some (.string num)/\W.drew.cell? ⟨B,2,none⟩=some (.string den)/\Below W.heap.size W W.drew):=
  ⟨hc0,hc1,hc2,below_drewN (Below.refl _ _) 1⟩
 clear hblk hc0 hc1 hc2;cases o
 ·go_enter Tryz.func73,Tryz.ntmps73;go_wp2_with fail;simp only[<-hW,<-hB]
  clear hW hB;refine wp_region_noPanic ?_;refine wp_region_held_drew (S:=fun w'=>w'.cell? ⟨B,0,none⟩=some (.bool neg)/\w'.cell? ⟨B,1,none⟩=some (.string num)/\w'.cell? ⟨B,2,none⟩=some (.string den)/\Below W.heap.size W w') (by kernel_rfl) HS.out (fun hHeld=>?_);refine aP 0 ?_;refine iV 1 fun K hK=>?_
  go_simp;refine (HR.out _).mono ?_;rintro e w1 ⟨rfl,hb1⟩;go_wp2_with fail;refine gI hK (HK.out _ _ (by assumption) hb1) fun hHeld=>?_
  clear hK K;refine aP 2 ?_;refine aP 3 ?_;refine lD 4 rfl ?_
  try simp only[Act.put,tk1,tk2,tk3,tk4,gU,gV]
  refine lD 5 rfl ?_
  try simp only[Act.put,tk1,tk2,tk3,tk4,gU,gV]
  refine lD 6 rfl ?_
  try simp only[Act.put,tk1,tk2,tk3,tk4,gU,gV]
  refine aP 7 ?_;refine aP 8 ?_;refine wpAnyH_done (by kernel_rfl) ?_ _;refine NoPanic.normal ?_;go_wp2;go_ret;exact⟨by rw[HZ.out];rfl,ah hba hHeld.2.2.2⟩
 ·go_enter Tryz.func73,Tryz.ntmps73;go_wp2_with fail;simp only[<-hW,<-hB]
  clear hW hB;refine wp_region_noPanic ?_;refine wp_region_held_drew (S:=fun w'=>w'.cell? ⟨B,0,none⟩=some (.bool neg)/\w'.cell? ⟨B,1,none⟩=some (.string num)/\w'.cell? ⟨B,2,none⟩=some (.string den)/\Below W.heap.size W w') (by kernel_rfl) HS.out (fun hHeld=>?_);refine aP 0 ?_;refine iV 1 fun K hK=>?_
  go_simp;refine (HR.out _).mono ?_;rintro e w1 ⟨rfl,hb1⟩;go_wp2_with fail;refine gI hK (HK.out _ _ (by assumption) hb1) fun hHeld=>?_
  clear hK K;refine aP 2 ?_;refine aP 3 ?_;refine aP 4 ?_;refine iV 5 fun K hK=>?_
  go_simp;refine (lY 0 _ (by omega) (by omega)).mono ?_;rintro e w1 ⟨rfl,hb1⟩;simp only[Ra.v]
  go_wp2_with fail;refine gI hK (HK.out _ _ (by assumption) hb1) fun hHeld=>?_
  clear hK K;refine tkY 6 (.bool dq) rfl ?_ ?_
  ·intro w hSw;(try dsimp only at hSw);go_simp;rw[<-qG.out];exact II (fun t=>Result.ok (Next.value (Value.bool t)) w) ⟨neg,num,den⟩ (aS 0)
  try simp only[Act.put,tk1,tk2,tk3,tk4,gU,gV]
  refine aP 7 ?_;refine aP 8 ?_;refine wpAnyH_done (by kernel_rfl) ?_ _;refine NoPanic.normal ?_;obtain⟨hd0,hd1,hd2,hd3⟩:=hHeld;have HH:=zH hd3;clear hd3;cases dq
  ·cases neg
   ·go_wp2;go_ret;exact⟨by rw[HZ.out];rfl,ah hba HH.out⟩
   ·go_wp2;go_ret;exact⟨by rw[HZ.out];rfl,ah hba HH.out⟩
  ·go_wp2;go_ret;exact⟨by rw[HZ.out];rfl,ah hba HH.out⟩
def aO (a:Ra):ByteArray:=
 let s:=if (fD a).neg then ⟨#[45]⟩++kF (ay (fD a).num) else kF (ay (fD a).num)
 if (fD a).den=aC 1 then s else s++(⟨#[47]⟩++kF (ay (fD a).den))
theorem beq_toList (a b:ByteArray):(a.toList==b.toList)=decide (a=b):=by
 rw[Bool.eq_iff_iff,beq_iff_eq,decide_eq_true_iff];exact⟨toList_inj,fun h=>by rw[h]⟩
theorem BR (n K:Nat) (hK:0<K) (h:n<256 ^ K):(kF n).size<=3*K:=Tq n K hK h
theorem vJ (s:ByteArray) (h:s.size<=1048576):(kF (ay s)).size<=3145728:=by
 obtain⟨K,hK⟩:=zE 1048576;rw[<-hK] at h;have:=BR (ay s) K (by omega) (dA s K h);omega
theorem BU (a:Ra) (K:Nat) (hK:0<K) (hn:a.num.size<=K) (hd:a.den.size<=K):(fD a).num.size<=K/\(fD a).den.size<=K:=by
 unfold fD;split
 ·exact⟨hn,hd⟩
 ·exact⟨Nat.zero_le _,hK⟩
theorem jy (a:Ra) (w:World) (hL:Laid w) (hn:a.num.size<=1048576) (hd:a.den.size<=1048576):
  Calls Tryz.prog 83 #[a.v] w fun e w'=>e=.returned (.string (aO a))/\Below w.heap.size w w':=by
 obtain⟨hvn,hvd⟩:=BU a 1048576 (by omega) hn hd;have HR:=zH (fun w=>oP a w (by omega) (by omega))
 have HT:Hid (aO a=(let s:=if (fD a).neg then ⟨#[45]⟩++kF (ay (fD a).num) else kF (ay (fD a).num)
  if (fD a).den=aC 1 then s else s++(⟨#[47]⟩++kF (ay (fD a).den)))):=rfl
 generalize aO a=tx at*;obtain⟨va,hva⟩:=zF (fD a);rw[hva] at HR HT hvn hvd;clear hva hn hd;obtain⟨vn,vu,vd⟩:=va;have HTN:=zH (fun w h=>Em vu w h hvn);have HTD:=zH (fun w h=>Em vd w h hvd);have hs1:(kF (ay vu)).size<=3145728:=vJ vu hvn;have hs2:(kF (ay vd)).size<=3145728:=vJ vd hvd;obtain⟨tn,htn⟩:∃t,kF (ay vu)=t:=⟨_,rfl⟩
 obtain⟨td,htd⟩:∃t,kF (ay vd)=t:=⟨_,rfl⟩
 simp only at HT;rw[htn] at hs1 HTN HT;rw[htd] at hs2 HTD HT;clear htn htd hvn hvd;obtain⟨de,hde⟩:∃d,decide (vd=aC 1)=d:=⟨_,rfl⟩
 have Qo:=zH hde;clear hde;obtain⟨neg,num,den⟩:=a;unfold Ra.v at HR⊢;obtain⟨W,hW⟩:=zE (w.alloc (.cells #[.bool neg,.string num,.string den] 43));have hba:Below w.heap.size w W:=by rw[hW];exact zB _ _
 have hblk:aj W w.heap.size 43 [.bool neg,.string num,.string den]:=by rw[hW];exact aj.new w _ _
 obtain⟨B,hB⟩:=zE w.heap.size;have HB:=zH hB;rw[<-hB] at hblk hba;have hbs:B<W.heap.size:=hblk.lt;have HL:=zH hL;clear hL;cases vn
 ·go_enter Tryz.func83,Tryz.ntmps83;go_wp2_with fail;simp only[<-hW,<-hB]
  clear hW hB;refine (HR.out _).mono ?_;rintro e w1 ⟨rfl,hb1⟩;have hk1:=hblk.below hb1 hbs;have hc0:=hk1.cell (i:=0) (by simp);have hc1:=hk1.cell (i:=1) (by simp);have hc2:=hk1.cell (i:=2) (by simp);have hf0:=hk1.frozen 0;have hf1:=hk1.frozen 1;have hf2:=hk1.frozen 2;simp only[List.getElem_cons_zero,List.getElem_cons_succ] at hc0 hc1 hc2;go_wp2_with fail;have hk2:=((hk1.set 0 (.bool false)).set 1 (.string vu)).set 2 (.string vd);simp only[List.set_cons_zero,List.set_cons_succ] at hk2;have hb2:=(((hba.trans (hb1.mono (by omega))).setCell (show B<=(⟨B,0,none⟩:Addr).block from Nat.le_refl _) (.bool false)).setCell (show B<=(⟨B,1,none⟩:Addr).block from Nat.le_refl _) (.string vu)).setCell (show B<=(⟨B,2,none⟩:Addr).block from Nat.le_refl _) (.string vd);generalize ((w1.setCell ⟨B,0,none⟩ (.bool false)).setCell ⟨B,1,none⟩ (.string vu)).setCell ⟨B,2,none⟩ (.string vd)=w2 at*;clear hc0 hc1 hc2 hf0 hf1 hf2 hk1 hb1;have hl2:=HL.out.below (by rw[<-HB.out];exact hb2);refine (HTN.out _ hl2).mono ?_;rintro e w3 ⟨rfl,hb3⟩;have hk3:=hk2.below hb3 hk2.lt;have hl3:=hl2.below hb3;have hbw3:Below B w w3:=hb2.trans (hb3.mono (Nat.le_of_lt hk2.lt));have E8:B<w3.heap.size:=hk3.lt;have VY:=zH hl3;have bC:=zH hbw3;clear hk2 hb2 hl2 hb3 hl3 hbw3 hbs;obtain⟨hc0,hc1,hc2⟩:=BP.yQ (a:=⟨false,vu,vd⟩) hk3;simp only at hc0 hc1 hc2
  have HK:Hid (∀w' w1:World,(w'.cell? ⟨B,0,none⟩=some (.bool false)/\w'.cell? ⟨B,1,none⟩=some (.string vu)/\w'.cell? ⟨B,2,none⟩=some (.string vd)/\Below w3.heap.size w3 w')->Below w'.heap.size w' w1->
    (w1.cell? ⟨B,0,none⟩=some (.bool false)/\w1.cell? ⟨B,1,none⟩=some (.string vu)/\w1.cell? ⟨B,2,none⟩=some (.string vd)/\Below w3.heap.size w3 w1)):=by
   rintro w' w1 ⟨h0,h1,h2,hb⟩ hb1;have hlt:B<w'.heap.size:=Nat.lt_of_lt_of_le E8 hb.size;exact⟨(hb1.cell hlt).trans h0,(hb1.cell hlt).trans h1,(hb1.cell hlt).trans h2,ah hb hb1⟩
  have HS:Hid (w3.drew.cell? ⟨B,0,none⟩=some (.bool false)/\w3.drew.cell? ⟨B,1,none⟩=some (.string vu)/\w3.drew.cell? ⟨B,2,none⟩=some (.string vd)/\Below w3.heap.size w3 w3.drew):=
   ⟨hc0,hc1,hc2,below_drewN (Below.refl _ _) 1⟩
  clear hk3;go_wp2_with fail;clear hc0 hc1 hc2;refine wp_region_noPanic ?_;refine wp_region_held_drew (S:=fun w'=>w'.cell? ⟨B,0,none⟩=some (.bool false)/\w'.cell? ⟨B,1,none⟩=some (.string vu)/\w'.cell? ⟨B,2,none⟩=some (.string vd)/\Below w3.heap.size w3 w') (by kernel_rfl) HS.out (fun hHeld=>?_);refine aP 0 ?_;refine aP 1 ?_;refine iV 2 fun K hK=>?_
  go_simp;refine (uG _).mono ?_;rintro e w1 ⟨rfl,hb1⟩;go_wp2_with fail;refine gI hK (HK.out _ _ (by assumption) hb1) fun hHeld=>?_
  clear hK K;refine tkY 3 (.bool (!de)) rfl ?_ ?_
  ·intro w hSw;(try dsimp only at hSw);go_simp;rw[<-Qo.out];exact beq_toList _ _
  try simp only[Act.put,tk1,tk2,tk3,tk4,gU,gV]
  refine wpAnyH_done (by kernel_rfl) ?_ _;refine NoPanic.normal ?_;obtain⟨hd0,hd1,hd2,hd3⟩:=hHeld;have HH:=zH hd3;clear hd3;cases de
  ·go_wp2_with fail;refine (HTD.out _ (VY.out.below HH.out)).mono ?_;rintro e w5 ⟨rfl,hb5⟩;go_wp2;go_ret;refine⟨?_,?_⟩
   ·have h:=HT.out;rw[if_neg (of_decide_eq_false Qo.out)] at h;rw[h];rfl
   ·have h:=bC.out.trans ((ah HH.out hb5).mono (Nat.le_of_lt E8));rw[<-HB.out];exact h
  ·go_wp2;go_ret;refine⟨?_,?_⟩
   ·have h:=HT.out;rw[if_pos (of_decide_eq_true Qo.out)] at h;rw[h];rfl
   ·have h:=bC.out.trans (HH.out.mono (Nat.le_of_lt E8));rw[<-HB.out];exact h
 ·go_enter Tryz.func83,Tryz.ntmps83;go_wp2_with fail;simp only[<-hW,<-hB]
  clear hW hB;refine (HR.out _).mono ?_;rintro e w1 ⟨rfl,hb1⟩;have hk1:=hblk.below hb1 hbs;have hc0:=hk1.cell (i:=0) (by simp);have hc1:=hk1.cell (i:=1) (by simp);have hc2:=hk1.cell (i:=2) (by simp);have hf0:=hk1.frozen 0;have hf1:=hk1.frozen 1;have hf2:=hk1.frozen 2;simp only[List.getElem_cons_zero,List.getElem_cons_succ] at hc0 hc1 hc2;go_wp2_with fail;have hk2:=((hk1.set 0 (.bool true)).set 1 (.string vu)).set 2 (.string vd);simp only[List.set_cons_zero,List.set_cons_succ] at hk2;have hb2:=(((hba.trans (hb1.mono (by omega))).setCell (show B<=(⟨B,0,none⟩:Addr).block from Nat.le_refl _) (.bool true)).setCell (show B<=(⟨B,1,none⟩:Addr).block from Nat.le_refl _) (.string vu)).setCell (show B<=(⟨B,2,none⟩:Addr).block from Nat.le_refl _) (.string vd);generalize ((w1.setCell ⟨B,0,none⟩ (.bool true)).setCell ⟨B,1,none⟩ (.string vu)).setCell ⟨B,2,none⟩ (.string vd)=w2 at*;clear hc0 hc1 hc2 hf0 hf1 hf2 hk1 hb1;have hl2:=HL.out.below (by rw[<-HB.out];exact hb2);refine (HTN.out _ hl2).mono ?_;rintro e w3 ⟨rfl,hb3⟩;have hk3:=hk2.below hb3 hk2.lt;have hl3:=hl2.below hb3;have hbw3:Below B w w3:=hb2.trans (hb3.mono (Nat.le_of_lt hk2.lt));have E8:B<w3.heap.size:=hk3.lt;have VY:=zH hl3;have bC:=zH hbw3;clear hk2 hb2 hl2 hb3 hl3 hbw3 hbs;obtain⟨hc0,hc1,hc2⟩:=BP.yQ (a:=⟨true,vu,vd⟩) hk3;simp only at hc0 hc1 hc2
  have HK:Hid (∀w' w1:World,(w'.cell? ⟨B,0,none⟩=some (.bool true)/\w'.cell? ⟨B,1,none⟩=some (.string vu)/\w'.cell? ⟨B,2,none⟩=some (.string vd)/\Below w3.heap.size w3 w')->Below w'.heap.size w' w1->
    (w1.cell? ⟨B,0,none⟩=some (.bool true)/\w1.cell? ⟨B,1,none⟩=some (.string vu)/\w1.cell? ⟨B,2,none⟩=some (.string vd)/\Below w3.heap.size w3 w1)):=by
   rintro w' w1 ⟨h0,h1,h2,hb⟩ hb1;have hlt:B<w'.heap.size:=Nat.lt_of_lt_of_le E8 hb.size;exact⟨(hb1.cell hlt).trans h0,(hb1.cell hlt).trans h1,(hb1.cell hlt).trans h2,ah hb hb1⟩
  have HS:Hid (w3.drew.cell? ⟨B,0,none⟩=some (.bool true)/\w3.drew.cell? ⟨B,1,none⟩=some (.string vu)/\w3.drew.cell? ⟨B,2,none⟩=some (.string vd)/\Below w3.heap.size w3 w3.drew):=
   ⟨hc0,hc1,hc2,below_drewN (Below.refl _ _) 1⟩
  clear hk3;go_wp2_with fail;clear hc0 hc1 hc2;refine wp_region_noPanic ?_;refine wp_region_held_drew (S:=fun w'=>w'.cell? ⟨B,0,none⟩=some (.bool true)/\w'.cell? ⟨B,1,none⟩=some (.string vu)/\w'.cell? ⟨B,2,none⟩=some (.string vd)/\Below w3.heap.size w3 w') (by kernel_rfl) HS.out (fun hHeld=>?_);refine aP 0 ?_;refine aP 1 ?_;refine iV 2 fun K hK=>?_
  go_simp;refine (uG _).mono ?_;rintro e w1 ⟨rfl,hb1⟩;go_wp2_with fail;refine gI hK (HK.out _ _ (by assumption) hb1) fun hHeld=>?_
  clear hK K;refine tkY 3 (.bool (!de)) rfl ?_ ?_
  ·intro w hSw;(try dsimp only at hSw);go_simp;rw[<-Qo.out];exact beq_toList _ _
  try simp only[Act.put,tk1,tk2,tk3,tk4,gU,gV]
  refine wpAnyH_done (by kernel_rfl) ?_ _;refine NoPanic.normal ?_;obtain⟨hd0,hd1,hd2,hd3⟩:=hHeld;have HH:=zH hd3;clear hd3;cases de
  ·go_wp2_with fail;refine (HTD.out _ (VY.out.below HH.out)).mono ?_;rintro e w5 ⟨rfl,hb5⟩;go_wp2;go_ret;refine⟨?_,?_⟩
   ·have h:=HT.out;rw[if_neg (of_decide_eq_false Qo.out)] at h;rw[h];rfl
   ·have h:=bC.out.trans ((ah HH.out hb5).mono (Nat.le_of_lt E8));rw[<-HB.out];exact h
  ·go_wp2;go_ret;refine⟨?_,?_⟩
   ·have h:=HT.out;rw[if_pos (of_decide_eq_true Qo.out)] at h;rw[h];rfl
   ·have h:=bC.out.trans (HH.out.mono (Nat.le_of_lt E8));rw[<-HB.out];exact h
def wK (s:List UInt8):Bool × List UInt8 × List UInt8:=
 let c:=Lib.cut (Lib.trimPrefix s [45]) [47]
 (Lib.hasPrefix s [45],c.1,if c.2.2 then c.2.1 else [49])
def dU (s:ByteArray):Ra × Bool:=
 let c:=wK s.data.toList
 let n:=eF c.2.1
 let d:=eF c.2.2
 let m:=BQ c.1 n.1 d.1
 if n.2&&d.2&&m.2&&decide (aO m.1=s) then (m.1,true) else (⟨false,⟨#[]⟩,⟨#[]⟩⟩,false)
theorem yR (s p:List UInt8):(Lib.trimPrefix s p).length<=s.length:=by
 unfold Lib.trimPrefix;split
 ·simp
 ·exact Nat.le_refl _
theorem Qp (s p:List UInt8):(Lib.cut s p).1.length<=s.length/\(Lib.cut s p).2.1.length<=s.length:=by
 unfold Lib.cut;split<;>simp<;>omega
theorem pY (l:List UInt8):(eF l).1.size<=l.length:=by
 unfold eF;split
 ·next h=>
  simp only[oO,Bool.and_eq_true] at h;refine aZ _ _ (Nat.lt_of_lt_of_le (BM l h.2) (Nat.pow_le_pow_left (by omega) _))
 ·show 0<=_;omega
theorem wL (neg:Bool) (n d K:Nat) (hn:n<256 ^ K) (hd:d<256 ^ K):(low neg n d).num.size<=K/\(low neg n d).den.size<=K:=
 ⟨aZ _ _ (Nat.lt_of_le_of_lt (Nat.div_le_self _ _) hn),aZ _ _ (Nat.lt_of_le_of_lt (Nat.div_le_self _ _) hd)⟩
theorem L9 (neg:Bool) (n d:ByteArray) (K:Nat) (hn:n.size<=K) (hd:d.size<=K):(BQ neg n d).1.num.size<=K/\(BQ neg n d).1.den.size<=K:=by
 unfold BQ;split
 ·exact wL _ _ _ _ (Nat.lt_of_lt_of_le (fF n) (Nat.pow_le_pow_right (by omega) hn)) (Nat.lt_of_lt_of_le (fF d) (Nat.pow_le_pow_right (by omega) hd))
 ·exact⟨Nat.zero_le _,Nat.zero_le _⟩
theorem aj.cells {w:World} {b:Nat} {t:TypeId} {cs:List Value} (h:aj w b t cs):∀i,w.cell? ⟨b,i,none⟩=cs[i]?:=by
 intro i;unfold aj at h;simp[World.cell?,h]
theorem aj.aI {w:World} {b:Nat} {t:TypeId} {cs:List Value} (h:aj w b t cs):∀i,w.frozen? ⟨b,i,none⟩=false:=fun i=>h.frozen i
theorem oQ {B:Nat} {w w':World} (h:Below B w w') (x y z:Value):Below B w (((w'.setCell ⟨B,0,none⟩ x).setCell ⟨B,1,none⟩ y).setCell ⟨B,2,none⟩ z):=
 ((h.setCell (p:=⟨B,0,none⟩) (Nat.le_refl _) _).setCell (p:=⟨B,1,none⟩) (Nat.le_refl _) _).setCell (p:=⟨B,2,none⟩) (Nat.le_refl _) _
theorem Laid.drewN {w:World} (h:Laid w) (n:Nat):Laid (w.drewN n):=h.below (ak _ _ _)
theorem Gy (s:ByteArray) (w:World) (hL:Laid w) (hs:s.size<=1048576):
  Calls Tryz.prog 174 #[.string s] w fun e w'=>e=.returned (.tuple #[(dU s).1.v,.bool (dU s).2])/\Below w.heap.size w w':=by
 have hP:∀c,wK s.data.toList=c->∀n,eF c.2.1=n->∀d,eF c.2.2=d->∀m,BQ c.1 n.1 d.1=m->
   dU s=if n.2&&d.2&&m.2&&decide (aO m.1=s) then (m.1,true) else (⟨false,⟨#[]⟩,⟨#[]⟩⟩,false):=by
  rintro c rfl n rfl d rfl m rfl;rfl
 unfold wK at hP;have yS:∀w:World,Calls Tryz.prog 211 #[.string s,.string ⟨#[45]⟩] w fun e w'=>e=.returned (.tuple #[.string ⟨(Lib.trimPrefix s.data.toList [45]).toArray⟩,.bool (Lib.hasPrefix s.data.toList [45])])/\w'=w:=fun w=>Tryz.strings_CutPrefix s ⟨#[45]⟩ w
 have hrl:=yR s.data.toList [45];generalize Lib.hasPrefix s.data.toList [45]=neg at*;generalize Lib.trimPrefix s.data.toList [45]=rest at*;have Ze:rest.length<=1048576:=Nat.le_trans hrl (by simpa using hs)
 have HC:∀(w:World) (m:Int),w.cell? ⟨2,0,none⟩=some (.int .i64 m)->Calls Tryz.prog 90 #[.string ⟨rest.toArray⟩,.string ⟨#[47]⟩] w fun e w'=>e=.returned (.tuple #[.string ⟨(Lib.cut rest [47]).1.toArray⟩,.string ⟨(Lib.cut rest [47]).2.1.toArray⟩,.bool (Lib.cut rest [47]).2.2])/\∃n,w'=w.drewN n:=
  fun w m h=>Tryz.strings_Cut ⟨rest.toArray⟩ ⟨#[47]⟩ m w (by show rest.length<_;omega) h
 obtain⟨hnl,hdl⟩:=Qp rest [47];generalize Lib.cut rest [47]=ct at*;obtain⟨nu,de0,fnd⟩:=ct;simp only at hP HC hnl hdl;have yS:=zH yS;have HC:=zH HC;obtain⟨de,hde⟩:∃d,(if fnd then de0 else [49])=d:=⟨_,rfl⟩
 have hdel:de.length<=1048576:=by subst hde;cases fnd<;>simp<;>omega
 rw[hde] at hP;obtain⟨⟨pn,bn⟩,hpn⟩:∃n,eF nu=n:=⟨_,rfl⟩
 obtain⟨⟨pd,bd⟩,Gz⟩:∃n,eF de=n:=⟨_,rfl⟩
 obtain⟨⟨m,bm⟩,hm⟩:∃n,BQ neg pn pd=n:=⟨_,rfl⟩
 have HP:=zH (hP _ rfl _ hpn _ Gz _ hm);have Mc:=pY nu;have Md:=pY de;have hms:=L9 neg pn pd 1048576 (by rw[hpn] at Mc;simp only at Mc;omega) (by rw[Gz] at Md;simp only at Md;omega);rw[hpn] at Mc;rw[Gz] at Md;rw[hm] at hms;simp only at Mc Md hms
 have HN:Hid (∀W,Calls Tryz.prog 212 #[.string ⟨nu.toArray⟩] W fun e w'=>e=.returned (.tuple #[.string pn,.bool bn])/\Below W.heap.size W w'):=fun W=>
  (BO ⟨nu.toArray⟩ W (by show nu.length<=_;omega)).mono (by
    rintro e w' ⟨rfl,hb⟩;exact⟨by show Ending.returned (.tuple #[.string (eF nu).1,.bool (eF nu).2])=_;rw[hpn],hb⟩)
 have HD:Hid (∀W,Calls Tryz.prog 212 #[.string ⟨de.toArray⟩] W fun e w'=>e=.returned (.tuple #[.string pd,.bool bd])/\Below W.heap.size W w'):=fun W=>
  (BO ⟨de.toArray⟩ W (by show de.length<=_;omega)).mono (by
    rintro e w' ⟨rfl,hb⟩;exact⟨by show Ending.returned (.tuple #[.string (eF de).1,.bool (eF de).2])=_;rw[Gz],hb⟩)
 have HM:=zH (fun W=>VX neg pn pd W (by omega) (by omega));rw[hm] at HM;have HT:=zH (fun W hL=>jy m W hL hms.1 hms.2);obtain⟨d,hd⟩:=zF (decide (aO m=s));generalize aO m=tx at*;rw[hd] at HP;have e1:(tx.toList==s.toList)=d:=by rw[beq_toList,hd]
 have e2:(tx.toList !=s.toList)= !d:=by rw[<-e1];rfl
 clear hP hpn Gz hm Mc Md hms hrl Ze hnl hdl hdel hs hd;obtain⟨mn,mu,md⟩:=m;unfold Ra.v at HM HT;simp only at HM HT HP;obtain⟨W,hW⟩:=zE (w.alloc (.cells #[.bool false,.string ⟨#[]⟩,.string ⟨#[]⟩] 43));have hba:Below w.heap.size w W:=by rw[hW];exact zB _ _
 have hblk:aj W w.heap.size 43 [.bool false,.string ⟨#[]⟩,.string ⟨#[]⟩]:=by rw[hW];exact aj.new w _ _
 obtain⟨B,hB⟩:=zE w.heap.size;rw[<-hB] at hblk;have HB:=zH hB;have lX:=hL.below hba;obtain⟨ml,hml⟩:=lX.cut.2;have eG:=zH lX;have HML:=zH hml;have aY:=zH hba;have LV:=zH hblk;clear hL lX hml hba hblk;cases fnd
 all_goals
  simp only[if_true,if_false,Bool.false_eq_true] at hde;subst hde;go_enter Tryz.func174,Tryz.ntmps174;go_wp2_with fail;simp only[<-hW,<-hB]
  clear hW hB;refine (yS.out _).mono ?_;rintro e w1 ⟨rfl,rfl⟩;go_wp2_with fail;refine (HC.out _ ml HML.out).mono ?_;rintro e w2 ⟨rfl,nn,rfl⟩;go_wp2_with fail;refine (HN.out _).mono ?_;rintro e w3 ⟨rfl,hb3⟩;go_wp2_with fail;refine (HD.out _).mono ?_;rintro e w4 ⟨rfl,hb4⟩;go_wp2_with fail;refine (HM.out _).mono ?_;rintro e w5 ⟨rfl,hb5⟩;have hbw:=ah (ah (ah (ak _ w1 nn) hb3) hb4) hb5;have hk5:=LV.out.below hbw LV.out.lt;have hl5:=eG.out.below hbw;have hkB:=hk5.alloc (.cells #[.bool mn,.string mu,.string md] 43);have hc:=hkB.cells;have hf:=hkB.aI;have GH:=hl5.below ((Below.refl _ _).alloc (Nat.le_refl _) (.cells #[.bool mn,.string mu,.string md] 43));have VZ:=aj.new w5 43 #[.bool mn,.string mu,.string md];have Qq:Below B w (w5.alloc (.cells #[.bool mn,.string mu,.string md] 43)):=by rw[HB.out];exact (ah aY.out hbw).alloc (by have:=aY.out.size;have:=hbw.size;omega) _
  have iC:=zH Qq;have HAA:=zH VZ;have HKB:=zH hkB;clear hbw hb3 hb4 hb5 hk5 VZ Qq hkB hl5;cases bn<;>cases bd<;>cases bm
  all_goals
   go_wp2_with fail
   first
   |(refine bodyPost_ret (v:=.tuple #[.agg #[.bool false,.string ⟨#[]⟩,.string ⟨#[]⟩],.bool false]) (by simp[results,Tryz.results174,go_sem,hc]) rfl ⟨?_,?_⟩
     ·rw[HP.out];rfl
     ·rw[<-HB.out];exact oQ iC.out _ _ _)
   |(refine (HT.out _ GH).mono ?_
     rintro e w7 ⟨rfl,hb7⟩;clear hc hf;have hkB:=HKB.out.below hb7 HKB.out.lt;have VZ:=HAA.out.below hb7 HAA.out.lt;have hbw:=iC.out.trans (hb7.mono (Nat.le_of_lt HKB.out.lt));have hc:=hkB.cells;have hf:=hkB.aI;have hcA:=VZ.cells;have iC:=zH hbw;clear VZ hkB hb7 hbw GH;cases d
     all_goals
      go_wp2_with fail;refine bodyPost_ret (v:=.tuple #[(dU s).1.v,.bool (dU s).2]) (by rw[HP.out];simp[results,Tryz.results174,go_sem,hc,Ra.v]) rfl ⟨rfl,?_⟩;rw[<-HB.out];exact oQ iC.out _ _ _)
theorem Qr (n m K:Nat) (w:World) (hK:K<=1073741824) (hn:n<256 ^ K) (hm:m<256 ^ K) (h0:0<m):
  Calls Tryz.prog 178 #[.string (aC n),.string (aC m)] w fun e w'=>
   e=.returned (.tuple #[.string (aC (n / m)),.string (aC (n % m)),.bool true])/\Below w.heap.size w w':=by
 refine (LY (aC n) (aC m) w (Nat.le_trans (aZ _ _ hn) hK) (Nat.le_trans (aZ _ _ hm) hK)).mono ?_;rintro e w' ⟨rfl,hb⟩;rw[bJ,bJ];have p0:¬(m=0):=by omega
 rw[if_neg p0,if_neg p0,show (m !=0)=true from by simp[p0]];exact⟨rfl,hb⟩
theorem acv (n m K:Nat) (w:World) (hK:K<=1073741824) (hn:n<256 ^ K) (hm:m<256 ^ K):
  Calls Tryz.prog 177 #[.string (aC n),.string (aC m)] w fun e w'=>e=.returned (.string (aC (Nat.gcd n m)))/\Below w.heap.size w w':=by
 have:=LZ (aC n) (aC m) w (Nat.le_trans (aZ _ _ hn) hK) (Nat.le_trans (aZ _ _ hm) hK);rwa[bJ,bJ] at this
theorem sH (w:World):Calls Tryz.prog 46 #[.int .i64 1] w fun e w'=>e=.returned (.string (aC 1))/\Below w.heap.size w w':=qF 1 w (by omega) (by omega)
theorem Qs (n:Nat) (b:Bool) (h:decide (n=0)=b):(aC n).toList.isEmpty=b:=by rw[tZ,h]
theorem En (neg:Bool) (n d K:Nat) (w:World) (hK:K<=1073741824) (hn:n<256 ^ K) (hd:d<256 ^ K) (h0:0<d):
  Calls Tryz.prog 139 #[.bool neg,.string (aC n),.string (aC d)] w fun e w'=>e=.returned (low neg n d).v/\Below w.heap.size w w':=by
 have hg:0<Nat.gcd n d:=Nat.gcd_pos_of_pos_right _ h0;have hgd:Nat.gcd n d<=d:=Nat.gcd_le_right _ h0;have HG:=zH (fun w=>acv n d K w hK hn hd);have rU:=zH (fun w=>Qr n (Nat.gcd n d) K w hK hn (by omega) hg);have xK:=zH (fun w=>Qr d (Nat.gcd n d) K w hK hd (by omega) hg);have IE:Hid (low neg n d=⟨neg&&decide (n≠0),aC (n / Nat.gcd n d),aC (d / Nat.gcd n d)⟩):=rfl
 have HZ:Hid (n=0->low neg n d=⟨false,aC 0,aC 1⟩):=by
  intro h;subst h;rw[IE.out];simp[Nat.div_self h0]
 obtain⟨B,hB⟩:=zE w.heap.size;obtain⟨W,hW⟩:=zE (w.alloc (.cells #[.bool false,.string ⟨#[]⟩,.string ⟨#[]⟩] 43));have hba:Below w.heap.size w W:=by rw[hW];exact zB _ _
 have hblk:aj W w.heap.size 43 [.bool false,.string ⟨#[]⟩,.string ⟨#[]⟩]:=by rw[hW];exact aj.new w _ _
 rw[<-hB] at hblk hba;have HB:=zH hB;obtain⟨r,hr⟩:=zF (low neg n d);rw[hr] at IE HZ⊢;clear hr hg hgd hn hd;by_cases hz:n=0
 ·have HZ:=zH (HZ.out hz);have he:=Qs n true (by simp[hz]);clear hz;go_enter Tryz.func139,Tryz.ntmps139;go_wp2_with fail;simp only[<-hW,<-hB]
  clear hW hB;refine (sH _).mono ?_;rintro e w1 ⟨rfl,hb1⟩;have hk:=hblk.below hb1 hblk.lt;have hc:=hk.cells;have hf:=hk.aI;have bC:=zH (hba.trans (hb1.mono (Nat.le_of_lt hblk.lt)));clear hb1 hba hk;go_wp2;refine bodyPost_ret (v:=.agg #[.bool false,.string ⟨#[]⟩,.string (aC 1)]) (by simp[results,Tryz.results139,go_sem,hc]) rfl ⟨?_,?_⟩
  ·rw[HZ.out];rfl
  ·rw[<-HB.out];exact oQ bC.out _ _ _
 ·have he:=Qs n false (by simp[hz]);go_enter Tryz.func139,Tryz.ntmps139;go_wp2_with fail;simp only[<-hW,<-hB]
  clear hW hB;refine (HG.out _).mono ?_;rintro e w1 ⟨rfl,hb1⟩;go_wp2_with fail;refine (rU.out _).mono ?_;rintro e w2 ⟨rfl,hb2⟩;go_wp2_with fail;refine (xK.out _).mono ?_;rintro e w3 ⟨rfl,hb3⟩;have hb:=ah (ah hb1 hb2) hb3;have hk:=hblk.below hb hblk.lt;have hc:=hk.cells;have hf:=hk.aI;have bC:=zH (hba.trans (hb.mono (Nat.le_of_lt hblk.lt)));clear hb1 hb2 hb3 hb hba hk;go_wp2;refine bodyPost_ret (v:=.agg #[.bool neg,.string (aC (n / Nat.gcd n d)),.string (aC (d / Nat.gcd n d))]) (by simp[results,Tryz.results139,go_sem,hc]) rfl ⟨?_,?_⟩
  ·rw[IE.out];simp[Ra.v,hz]
  ·rw[<-HB.out];exact oQ bC.out _ _ _
theorem acw (a:Ra):okR a=(dM a.num&&dM a.den&& !a.den.toList.isEmpty&&(if a.num.toList.isEmpty then !a.neg&&decide (iE (ay a.den) (ay (aC 1))=0) else decide (iE (ay (aC (Nat.gcd (ay a.num) (ay a.den)))) (ay (aC 1))=0))):=by
 obtain⟨neg,num,den⟩:=a;unfold okR;simp only
 cases hn:dM num
 ·simp
 cases hd:dM den
 ·simp
 have en:=(gq num).1 hn;have ed:=(gq den).1 hd;rw[bJ,bJ];generalize ay num=n at*;generalize ay den=d at*;subst en ed
 have hcz:∀x:Nat,(iE x 1=0)↔x=1:=by
  intro x;unfold iE;split
  ·omega
  ·split<;>omega
 rw[tZ,tZ];simp only[hcz,Bool.true_and,Bool.and_true]
 rcases Nat.eq_zero_or_pos d with h0|h0
 ·subst h0;simp
 ·have hd0:¬d=0:=by omega
  simp only[h0,hd0,decide_true,decide_false,Bool.not_false,Bool.true_and]
  have hg:0<Nat.gcd n d:=Nat.gcd_pos_of_pos_right _ h0;by_cases hz:n=0
  ·subst hz;simp only[decide_true,if_true]
   have:low neg 0 d=⟨false,aC 0,aC 1⟩:=by unfold low;simp[Nat.div_self h0]
   rw[this,Bool.eq_iff_iff,decide_eq_true_eq,Bool.and_eq_true,decide_eq_true_eq];constructor
   ·intro h;injection h with h1 h2 h3;exact⟨by rw[<-h1];rfl,(DF h3).symm⟩
   ·rintro⟨h1,h2⟩;cases neg
    ·rw[h2]
    ·cases h1
  ·simp only[hz,decide_false,Bool.false_eq_true,if_false]
   rw[decide_eq_decide];unfold low;constructor
   ·intro h;injection h with h1 h2 h3;have h4:=DF h2;have h5:n / Nat.gcd n d*Nat.gcd n d=n:=Nat.div_mul_cancel (Nat.gcd_dvd_left n d);rw[h4] at h5;have h6:n*Nat.gcd n d=n*1:=by rw[h5,Nat.mul_one]
    exact Nat.eq_of_mul_eq_mul_left (by omega) h6
   ·intro h;rw[h,Nat.div_one,Nat.div_one];simp[hz]
theorem Tv (a:Ra) (w:World) (hn:a.num.size<=536870912) (hd:a.den.size<=536870912):
  Calls Tryz.prog 148 #[a.v] w fun e w'=>e=.returned (.bool (okR a))/\Below w.heap.size w w':=by
 have jw:=zH (acw a);have HN:=zH (fun w=>Gs a.num w);have HD:=zH (fun w=>Gs a.den w);have HG:=zH (fun w=>LZ a.num a.den w (by omega) (by omega))
 have hgs:(aC (Nat.gcd (ay a.num) (ay a.den))).size<=536870912:=by
  rcases Nat.eq_zero_or_pos (ay a.den) with h0|h0
  ·rw[h0,Nat.gcd_zero_right];exact Nat.le_trans (aZ _ _ (fF a.num)) hn
  ·exact Nat.le_trans (aZ _ a.den.size (Nat.lt_of_le_of_lt (Nat.gcd_le_right _ h0) (fF a.den))) hd
 have GI:=zH (fun w=>LQ a.den (aC 1) w (by omega) (by decide));have HC2:=zH (fun w=>LQ (aC (Nat.gcd (ay a.num) (ay a.den))) (aC 1) w (by omega) (by decide));obtain⟨z1,h1⟩:∃z,iE (ay a.den) (ay (aC 1))=z:=⟨_,rfl⟩
 obtain⟨z2,h2⟩:∃z,iE (ay (aC (Nat.gcd (ay a.num) (ay a.den)))) (ay (aC 1))=z:=⟨_,rfl⟩
 rw[h1] at jw GI;rw[h2] at jw HC2;clear h1 h2 hgs hn hd;generalize aC (Nat.gcd (ay a.num) (ay a.den))=gg at*;obtain⟨ok,hok⟩:∃o,okR a=o:=⟨_,rfl⟩
 rw[hok] at jw⊢;clear hok;obtain⟨neg,num,den⟩:=a;unfold Ra.v;simp only at jw HN HD HG GI HC2⊢;obtain⟨rn,hrn⟩:∃r,dM num=r:=⟨_,rfl⟩
 obtain⟨rd,hrd⟩:∃r,dM den=r:=⟨_,rfl⟩
 obtain⟨en,hen⟩:∃r,num.toList.isEmpty=r:=⟨_,rfl⟩
 obtain⟨ed,hed⟩:∃r,den.toList.isEmpty=r:=⟨_,rfl⟩
 rw[hrn,hrd,hen,hed] at jw;rw[hrn] at HN;rw[hrd] at HD;clear hrn hrd;obtain⟨W,hW⟩:=zE (w.alloc (.cells #[.bool neg,.string num,.string den] 43));have hba:Below w.heap.size w W:=by rw[hW];exact zB _ _
 have hblk:aj W w.heap.size 43 [.bool neg,.string num,.string den]:=by rw[hW];exact aj.new w _ _
 obtain⟨B,hB⟩:=zE w.heap.size;have HB:=zH hB;rw[<-hB] at hblk hba;have hc:=hblk.cells;cases rn
 ·go_enter Tryz.func148,Tryz.ntmps148;go_wp2_with fail;simp only[<-hW,<-hB]
  clear hW hB;refine (HN.out _).mono ?_;rintro e w1 ⟨rfl,rfl⟩;go_wp2_with fail;refine (HD.out _).mono ?_;rintro e w1 ⟨rfl,rfl⟩;go_wp2;go_ret;exact⟨by rw[jw.out];rfl,by rw[<-HB.out];exact hba⟩
 cases rd
 ·go_enter Tryz.func148,Tryz.ntmps148;go_wp2_with fail;simp only[<-hW,<-hB]
  clear hW hB;refine (HN.out _).mono ?_;rintro e w1 ⟨rfl,rfl⟩;go_wp2_with fail;refine (HD.out _).mono ?_;rintro e w1 ⟨rfl,rfl⟩;go_wp2;go_ret;exact⟨by rw[jw.out];rfl,by rw[<-HB.out];exact hba⟩
 cases ed
 case true=>
  go_enter Tryz.func148,Tryz.ntmps148;go_wp2_with fail;simp only[<-hW,<-hB]
  clear hW hB;refine (HN.out _).mono ?_;rintro e w1 ⟨rfl,rfl⟩;go_wp2_with fail;refine (HD.out _).mono ?_;rintro e w1 ⟨rfl,rfl⟩;go_wp2;go_ret;exact⟨by rw[jw.out];rfl,by rw[<-HB.out];exact hba⟩
 cases en
 ·go_enter Tryz.func148,Tryz.ntmps148;go_wp2_with fail;simp only[<-hW,<-hB]
  clear hW hB;refine (HN.out _).mono ?_;rintro e w1 ⟨rfl,rfl⟩;go_wp2_with fail;refine (HD.out _).mono ?_;rintro e w1 ⟨rfl,rfl⟩;go_wp2_with fail;refine (HG.out _).mono ?_;rintro e w1 ⟨rfl,hb1⟩;go_wp2_with fail;refine (sH _).mono ?_;rintro e w2 ⟨rfl,hb2⟩;go_wp2_with fail;refine (HC2.out _).mono ?_;rintro e w3 ⟨rfl,rfl⟩;go_wp2;go_ret;refine⟨?_,by rw[<-HB.out];exact hba.trans ((ah hb1 hb2).mono (Nat.le_of_lt hblk.lt))⟩;rw[jw.out];first|rfl|(simp;done)|(simp;rfl)
 cases neg
 ·go_enter Tryz.func148,Tryz.ntmps148;go_wp2_with fail;simp only[<-hW,<-hB]
  clear hW hB;refine (HN.out _).mono ?_;rintro e w1 ⟨rfl,rfl⟩;go_wp2_with fail;refine (HD.out _).mono ?_;rintro e w1 ⟨rfl,rfl⟩;go_wp2_with fail
  have HK:Hid (∀w' w1:World,((∀i,w'.cell? ⟨B,i,none⟩=([.bool false,.string num,.string den]:List Value)[i]?)/\B<w'.heap.size/\Below B w w')->Below w'.heap.size w' w1->
    ((∀i,w1.cell? ⟨B,i,none⟩=([.bool false,.string num,.string den]:List Value)[i]?)/\B<w1.heap.size/\Below B w w1)):=by
   rintro w' w1 ⟨h0,h2,h3⟩ hb1;exact⟨fun i=>(hb1.cell h2).trans (h0 i),Nat.lt_of_lt_of_le h2 hb1.size,h3.trans (hb1.mono (Nat.le_of_lt h2))⟩
  have HS:Hid ((∀i,W.drew.cell? ⟨B,i,none⟩=([.bool false,.string num,.string den]:List Value)[i]?)/\B<W.drew.heap.size/\Below B w W.drew):=
   ⟨hblk.cells,hblk.lt,below_drewN hba 1⟩
  clear hblk hba hc;refine wp_region_noPanic ?_;refine wp_region_held_drew (S:=fun w'=>(∀i,w'.cell? ⟨B,i,none⟩=([.bool false,.string num,.string den]:List Value)[i]?)/\B<w'.heap.size/\Below B w w') (by kernel_rfl) HS.out (fun hHeld=>?_);refine aP 0 ?_;refine aP 1 ?_;refine aP 2 ?_;refine aP 3 ?_;refine aP 4 ?_;refine aP 5 ?_;refine iV 6 fun K hK=>?_
  go_simp;refine (sH _).mono ?_;rintro e w1 ⟨rfl,hb1⟩;go_wp2_with fail;refine gI hK (HK.out _ _ (by assumption) hb1) fun hHeld=>?_
  clear hK K;refine iV 7 fun K hK=>?_
  go_simp;refine (GI.out _).mono ?_;rintro e w1 ⟨rfl,rfl⟩;go_wp2_with fail;refine gI hK (by assumption) fun hHeld=>?_
  clear hK K;refine aP 8 ?_;refine aP 9 ?_;refine aP 10 ?_;refine wpAnyH_done (by kernel_rfl) ?_ _;refine NoPanic.normal ?_;obtain⟨_,_,hb3⟩:=hHeld;have HH:=zH hb3;clear hb3;go_wp2;go_ret;refine⟨?_,by rw[<-HB.out];exact HH.out⟩;rw[jw.out];first|rfl|(simp;done)|(simp;rfl)
 ·go_enter Tryz.func148,Tryz.ntmps148;go_wp2_with fail;simp only[<-hW,<-hB]
  clear hW hB;refine (HN.out _).mono ?_;rintro e w1 ⟨rfl,rfl⟩;go_wp2_with fail;refine (HD.out _).mono ?_;rintro e w1 ⟨rfl,rfl⟩;go_wp2_with fail
  have HK:Hid (∀w' w1:World,((∀i,w'.cell? ⟨B,i,none⟩=([.bool true,.string num,.string den]:List Value)[i]?)/\B<w'.heap.size/\Below B w w')->Below w'.heap.size w' w1->
    ((∀i,w1.cell? ⟨B,i,none⟩=([.bool true,.string num,.string den]:List Value)[i]?)/\B<w1.heap.size/\Below B w w1)):=by
   rintro w' w1 ⟨h0,h2,h3⟩ hb1;exact⟨fun i=>(hb1.cell h2).trans (h0 i),Nat.lt_of_lt_of_le h2 hb1.size,h3.trans (hb1.mono (Nat.le_of_lt h2))⟩
  have HS:Hid ((∀i,W.drew.cell? ⟨B,i,none⟩=([.bool true,.string num,.string den]:List Value)[i]?)/\B<W.drew.heap.size/\Below B w W.drew):=
   ⟨hblk.cells,hblk.lt,below_drewN hba 1⟩
  clear hblk hba hc;refine wp_region_noPanic ?_;refine wp_region_held_drew (S:=fun w'=>(∀i,w'.cell? ⟨B,i,none⟩=([.bool true,.string num,.string den]:List Value)[i]?)/\B<w'.heap.size/\Below B w w') (by kernel_rfl) HS.out (fun hHeld=>?_);refine aP 0 ?_;refine aP 1 ?_;refine aP 2 ?_;refine aP 3 ?_;refine lD 4 rfl ?_
  try simp only[Act.put,tk1,tk2,tk3,tk4,gU,gV]
  refine lD 5 rfl ?_
  try simp only[Act.put,tk1,tk2,tk3,tk4,gU,gV]
  refine lD 6 rfl ?_
  try simp only[Act.put,tk1,tk2,tk3,tk4,gU,gV]
  refine lD 7 rfl ?_
  try simp only[Act.put,tk1,tk2,tk3,tk4,gU,gV]
  refine lD 8 rfl ?_
  try simp only[Act.put,tk1,tk2,tk3,tk4,gU,gV]
  refine aP 9 ?_;refine aP 10 ?_;refine wpAnyH_done (by kernel_rfl) ?_ _;refine NoPanic.normal ?_;obtain⟨_,_,hb3⟩:=hHeld;have HH:=zH hb3;clear hb3;go_wp2;go_ret;refine⟨?_,by rw[<-HB.out];exact HH.out⟩;rw[jw.out];first|rfl|(simp;done)|(simp;rfl)
structure Three (w:World) (t1 t2 t3:TypeId) (l1 l2 l3:List Value) (W:World):Prop where
 one:aj W w.heap.size t1 l1
 two:aj W (w.heap.size+1) t2 l2
 three:aj W (w.heap.size+2) t3 l3
 below:Below w.heap.size w W
 size:W.heap.size=w.heap.size+3
theorem Three.new (w:World) (t1 t2 t3:TypeId) (cs1 cs2 cs3:Array Value):Three w t1 t2 t3 cs1.toList cs2.toList cs3.toList (((w.alloc (.cells cs1 t1)).alloc (.cells cs2 t2)).alloc (.cells cs3 t3)):=by
 obtain⟨h1,h2,h3,h4⟩:=Two.new w t1 t2 cs1 cs2;have k:=aj.new ((w.alloc (.cells cs1 t1)).alloc (.cells cs2 t2)) t3 cs3;rw[h4] at k;exact⟨h1.alloc _,h2.alloc _,k,h3.alloc (by omega) _,by show (Array.push _ _).size=_;rw[Array.size_push,h4]⟩
theorem Fa {B C:Nat} {w w':World} (h:Below B w w') (hC:B<=C) (x y z:Value):Below B w (((w'.setCell ⟨C,0,none⟩ x).setCell ⟨C,1,none⟩ y).setCell ⟨C,2,none⟩ z):=
 ((h.setCell (p:=⟨C,0,none⟩) hC _).setCell (p:=⟨C,1,none⟩) hC _).setCell (p:=⟨C,2,none⟩) hC _
theorem vK (a:Ra) (w:World) (hn:a.num.size<=536870912) (hd:a.den.size<=536870912):
  Calls Tryz.prog 138 #[a.v] w fun e w'=>e=.returned (fD a).v/\Below w.heap.size w w':=by
 have HR:=zH (fun w=>Tv a w hn hd);have HV:Hid (fD a=if okR a then a else aS 0):=rfl;obtain⟨o,ho⟩:=zF (okR a);rw[ho] at HR HV;clear ho hn hd;generalize fD a=va at*;obtain⟨neg,num,den⟩:=a;unfold Ra.v at HR⊢;obtain⟨W,hW⟩:=zE ((w.alloc (.cells #[.bool neg,.string num,.string den] 43)).alloc (.cells #[.bool false,.string ⟨#[]⟩,.string ⟨#[]⟩] 43));have lQ:=Two.new w 43 43 #[.bool neg,.string num,.string den] #[.bool false,.string ⟨#[]⟩,.string ⟨#[]⟩];rw[<-hW] at lQ;obtain⟨hk0,hk1,hba,hsz⟩:=lQ;obtain⟨B,hB⟩:=zE w.heap.size;have HB:=zH hB;rw[<-hB] at hba hsz hk0 hk1;have hc0:=hk0.cells;cases o
 all_goals
  go_enter Tryz.func138,Tryz.ntmps138;go_wp2_with fail;simp only[<-hW,<-hB]
  clear hW hB;refine (HR.out _).mono ?_;rintro e w1 ⟨rfl,hb1⟩;have hk0':=hk0.below hb1 hk0.lt;have zV:=hk1.below hb1 hk1.lt;have hB1:Below B w w1:=hba.trans (hb1.mono (by omega));have hc1:=hk0'.cells;have hc2:=zV.cells;have hf2:=zV.aI
 ·go_wp2_with fail;refine (sH _).mono ?_;rintro e w2 ⟨rfl,hb2⟩;have abq:=zV.below hb2 zV.lt;have hB2:Below B w w2:=hB1.trans (hb2.mono (Nat.le_of_lt hk0'.lt));have hc3:=abq.cells;have hf3:=abq.aI;go_wp2;refine bodyPost_ret (v:=.agg #[.bool false,.string ⟨#[]⟩,.string (aC 1)]) (by simp[results,Tryz.results138,go_sem,hc3]) rfl ⟨by rw[HV.out];rfl,?_⟩;rw[<-HB.out];exact Fa hB2 (Nat.le_succ _) _ _ _
 ·go_wp2;refine bodyPost_ret (v:=.agg #[.bool neg,.string num,.string den]) (by simp[results,Tryz.results138,go_sem,hc2]) rfl ⟨by rw[HV.out];rfl,?_⟩;rw[<-HB.out];exact Fa hB1 (Nat.le_succ _) _ _ _
theorem lZ (n:Int) (w:World) (h0:-9223372036854775808<=n) (h1:n<=9223372036854775807):
  Calls Tryz.prog 17 #[.int .i64 n] w fun e w'=>e=.returned (aS n).v/\Below w.heap.size w w':=by
 obtain⟨W,hW⟩:=zE (w.alloc (.cells #[.bool false,.string ⟨#[]⟩,.string ⟨#[]⟩] 43));have hba:Below w.heap.size w W:=by rw[hW];exact zB _ _
 have hk0:aj W w.heap.size 43 [.bool false,.string ⟨#[]⟩,.string ⟨#[]⟩]:=by rw[hW];exact aj.new w _ _
 have hsz:W.heap.size=w.heap.size+1:=by rw[hW];exact Array.size_push _
 obtain⟨B,hB⟩:=zE w.heap.size;have HB:=zH hB;rw[<-hB] at hba hsz hk0;by_cases hn:n<0
 ·have HO:Hid (aS n=⟨true,aC (n+1).natAbs.succ,aC 1⟩):=by
   show _=_;unfold aS;rw[decide_eq_true hn,show n.natAbs=(n+1).natAbs.succ from by omega]
  have HA:=zH (fun w=>Y9 (aC (n+1).natAbs) (aC 1) w (Nat.le_trans (aZ _ 9 (by omega)) (by omega)) (Nat.le_trans (aZ _ 9 (by omega)) (by omega)));rw[bJ,bJ] at HA;have hneg:IntKind.i64.wrap (-(n+1))= -(n+1):=IntWalk.i64_in _ (by omega);have Gw:(-(n+1)).toNat=(n+1).natAbs:=by omega
  go_enter Tryz.func17,Tryz.ntmps17;go_wp2_with fail;simp only[<-hW,<-hB]
  clear hW hB;refine (qF _ _ (by omega) (by omega)).mono ?_;rintro e w1 ⟨rfl,hb1⟩;go_wp2_with fail;refine (sH _).mono ?_;rintro e w2 ⟨rfl,hb2⟩
  try rw[Gw]
  go_wp2_with fail;refine (HA.out _).mono ?_;rintro e w3 ⟨rfl,hb3⟩;go_wp2_with fail;refine (sH _).mono ?_;rintro e w4 ⟨rfl,hb4⟩;have qj:=ah (ah (ah hb1 hb2) hb3) hb4;have hk3:=hk0.below qj hk0.lt;have hc:=hk3.cells;have hf:=hk3.aI;have bC:=zH (hba.trans (qj.mono (Nat.le_of_lt hk0.lt)));clear hb1 hb2 hb3 hb4 qj;go_wp2;refine bodyPost_ret (v:=.agg #[.bool true,.string (aC ((n+1).natAbs+1)),.string (aC 1)]) (by simp[results,Tryz.results17,go_sem,hc]) rfl ⟨?_,by rw[<-HB.out];exact oQ bC.out _ _ _⟩;rw[HO.out];rfl
 ·have HO:Hid (aS n=⟨false,aC n.toNat,aC 1⟩):=by
   show _=_;unfold aS;rw[decide_eq_false hn,show n.natAbs=n.toNat from by omega]
  go_enter Tryz.func17,Tryz.ntmps17;go_wp2_with fail;simp only[<-hW,<-hB]
  clear hW hB;refine (qF _ _ (by omega) (by omega)).mono ?_;rintro e w1 ⟨rfl,hb1⟩;go_wp2_with fail;refine (sH _).mono ?_;rintro e w2 ⟨rfl,hb2⟩;have qj:=ah hb1 hb2;have hk3:=hk0.below qj hk0.lt;have hc:=hk3.cells;have hf:=hk3.aI;have bC:=zH (hba.trans (qj.mono (Nat.le_of_lt hk0.lt)));clear hb1 hb2 qj;go_wp2;refine bodyPost_ret (v:=.agg #[.bool false,.string (aC n.toNat),.string (aC 1)]) (by simp[results,Tryz.results17,go_sem,hc]) rfl ⟨?_,by rw[<-HB.out];exact oQ bC.out _ _ _⟩;rw[HO.out];rfl
theorem zW (a m:Int) (hm:0<m):(0<=a.tmod m/\a % m=a.tmod m)∨(a.tmod m<0/\a % m=a.tmod m+m):=by
 by_cases ha:0<=a
 ·left
  rw[Int.tmod_eq_emod_of_nonneg ha];exact⟨Int.emod_nonneg _ (by omega),rfl⟩
 ·have h1:a.tmod m= -((-a) % m):=by
   have h2:=Int.neg_tmod (-a) m;rw[Int.neg_neg] at h2;rw[h2,Int.tmod_eq_emod_of_nonneg (show 0<= -a by omega)]
  rw[h1];have hr0:=Int.emod_nonneg (-a) (show m≠0 by omega);have hr1:=Int.emod_lt_of_pos (-a) hm;have hd:=Int.mul_ediv_add_emod (-a) m;generalize (-a) % m=r at*;generalize (-a) / m=q at*;by_cases hz:r=0
  ·left
   refine⟨by omega,?_⟩;have:a=m*(-q):=by rw[Int.mul_neg];omega
   rw[this,Int.mul_emod_right];omega
  ·right
   refine⟨by omega,?_⟩;have:a=(m-r)+m*(-q-1):=by rw[Int.mul_sub,Int.mul_neg,Int.mul_one];omega
   rw[this,Int.add_mul_emod_self_left,Int.emod_eq_of_lt (by omega) (by omega)];omega
theorem mO (a m:Int) (w:World) (h0:-9223372036854775808<=a) (h1:a<=9223372036854775807) (hm:0<m) (hm2:m<=9223372036854775807):
  Calls Tryz.prog 8 #[.int .i64 a,.int .i64 m] w fun e w'=>e=.returned (.int .i64 (a % m))/\w=w':=by
 have hb:-9223372036854775808<=a.tmod m/\a.tmod m<=9223372036854775807:=by
  have h2:=Int.emod_nonneg a (show m≠0 by omega);have h3:=Int.emod_lt_of_pos a hm;rcases zW a m hm with⟨h4,h5⟩|⟨h4,h5⟩<;>omega
 have hmz:(m==0)=false:=by rw[beq_eq_false_iff_ne];omega
 have akH:¬m=0:=by omega
 have hw:IntKind.i64.wrap (a.tmod m)=a.tmod m:=IntWalk.i64_in _ (by omega);have hlt:=Int.emod_lt_of_pos a hm;rcases zW a m hm with⟨h4,h5⟩|⟨h4,h5⟩
 ·have HV:=zH h5;clear h5 hlt;go_enter Tryz.func8,Tryz.ntmps8;go_wp2;go_ret;exact⟨by rw[HV.out];rfl,rfl⟩
 ·have HV:=zH h5;have h6:=Int.emod_nonneg a (show m≠0 by omega);have hw2:IntKind.i64.wrap (a.tmod m+m)=a.tmod m+m:=IntWalk.i64_in _ (by omega);clear h5 hlt h6;go_enter Tryz.func8,Tryz.ntmps8;go_wp2;go_ret;exact⟨by rw[HV.out];rfl,rfl⟩
def Me (l:List Int):List Value:=l.map (Value.int .i64)
structure Dw (w:World) (D:Nat) (A:Option Addr) (n c:Nat) (L:List Int) (k:Nat):Prop where
 blk:aj w D 111 [.slice A n c,.int .i64 k]
 len:n=L.length
 max:n<=maxLen
 rd:Rd w A (Me L)
 rng:∀x∈L,-9223372036854775808<=x/\x<=9223372036854775807
 ne:L≠[]->∀ad,A=some ad->ad.block≠D
 le:k<=n
def DS (w:World) (D u:Nat):Prop:=∃A n c L k,Dw w D A n c L k/\D<u/\(L≠[]->∀ad,A=some ad->ad.block<u)
theorem DS.lt {w:World} {D u:Nat} (h:DS w D u):D<w.heap.size:=by obtain⟨_,_,_,_,_,h,_⟩:=h;exact h.blk.lt
theorem DS.below {w w':World} {D u:Nat} (h:DS w D u) (hb:Below w.heap.size w w'):DS w' D u:=by
 obtain⟨A,n,c,L,k,h,hu⟩:=h;exact⟨A,n,c,L,k,⟨h.blk.below hb h.blk.lt,h.len,h.max,h.rd.below hb,h.rng,h.ne,h.le⟩,hu⟩
theorem DS.set {w:World} {D u B:Nat} (h:DS w D u) (hB:u<=B) (i:Nat) (x:Value):DS (w.setCell ⟨B,i,none⟩ x) D u:=by
 obtain⟨A,n,c,L,k,h,hu,ha⟩:=h;have ho:aF B w (w.setCell ⟨B,i,none⟩ x):=(aF.refl _ _).set i x;refine⟨A,n,c,L,k,⟨ho.blk h.blk (by omega),h.len,h.max,?_,h.rng,h.ne,h.le⟩,hu,ha⟩;rcases h.rd with h0|⟨b',off',e,hb,hc⟩
 ·exact .inl h0
 ·subst e;by_cases hL:L=[]
  ·exact .inl (by rw[hL];rfl)
  ·have h9:b'<u:=ha hL _ rfl;exact ho.rd (.inr ⟨b',off',rfl,hb,hc⟩) (by show b'≠B;omega)
theorem next_any (w:World) (D u:Nat) (m:Int) (h:DS w D u) (h1:1<=m) (h2:m<=1000000):Calls Tryz.prog 52 #[.pointer (some ⟨D,0,none⟩),.int .i64 m] w fun e w'=>∃r:Nat,(r:Int)<m/\e=.returned (.int .i64 r)/\DS w' D u/\aF D w w':=by
 obtain⟨A,n,c,L,k,h,hu⟩:=h;have HU:=zH hu;clear hu;have HW:=zH h;have hkc:=h.blk.cells;have pq:=h.blk.aI;have hmx:=h.max;have hkn:=h.le;unfold maxLen at hmx;by_cases hlt:k<n
 ·have hlen:=h.len;have hl:k<L.length:=by omega
  obtain⟨b,o,rfl,hb,hc⟩:=h.rd.at_ (k:=k) (by unfold Me;rw[List.length_map];exact hl)
  have hcx:w.cell? ⟨b,o+k,none⟩=some (.int .i64 L[k]):=by
   have:=hc k (by unfold Me;rw[List.length_map];exact hl);rw[this];unfold Me;rw[List.getElem_map]
  have hne:=h.ne (by rintro rfl;exact absurd hl (by simp)) ⟨b,o,none⟩ rfl;have hrg:=h.rng _ (List.getElem_mem hl);have HM:=zH (fun W=>mO L[k] m W hrg.1 hrg.2 (by omega) (by omega));have HR:Hid (∃r:Nat,(r:Int)<m/\L[k] % m=r):=⟨(L[k] % m).toNat,by have:=Int.emod_lt_of_pos L[k] (show 0<m by omega);have:=Int.emod_nonneg L[k] (show m≠0 by omega);omega,by have:=Int.emod_nonneg L[k] (show m≠0 by omega);omega⟩
  obtain⟨r,hr,hre⟩:=HR.out;rw[hre] at HM;have HRM:=zH hr;have HRE:=zH hre;have hlt':¬(k:Int)≥n:=by omega
  have hbD:¬b=D:=hne;have ahT:¬D=b:=fun e=>hne e.symm
  have hk0:(0:Int)<=(k:Int):=by omega
  have hk1:(k:Int)<n:=by omega
  have hkL:k+1<=L.length:=hl;clear hr hre h hc hne;obtain⟨x,hx⟩:=zF (L[k]);simp only[hx] at HM HRE hcx hrg;clear HR hrg hx hl hlen hkL;go_enter Tryz.func52,Tryz.ntmps52
  go_upto_region 1 with fail
  go_quiet (fail);generalize hwq:w.drewN _=wq;have HQ:Hid (Below w.heap.size w wq):=by show Below _ _ _;rw[<-hwq];exact ak _ _ _
  have HKQ:Hid (aj wq D 111 [.slice (some ⟨b,o,none⟩) n c,.int .i64 k]):=HW.out.blk.below HQ.out HW.out.blk.lt;have hbx:wq.cell? ⟨b,o+k,none⟩=some (.int .i64 x):=(HQ.out.cell (p:=⟨b,o+k,none⟩) hb).trans hcx;clear hwq hkc pq hcx;have hkc:=HKQ.out.cells;have pq:=HKQ.out.aI
  go_upto_region 4 with fail
  have hk2:aj (wq.setCell ⟨D,1,none⟩ (.int .i64 ((k:Int)+1))) D 111 [.slice (some ⟨b,o,none⟩) n c,.int .i64 ((k:Int)+1)]:=HKQ.out.set 1 _;have hbx2:(wq.setCell ⟨D,1,none⟩ (.int .i64 ((k:Int)+1))).cell? ⟨b,o+k,none⟩=some (.int .i64 x):=by rw[World.cell?_setCell_other _ _ _ _ (by simp[hbD,ahT])];exact hbx
  have rV:Hid (aF D w (wq.setCell ⟨D,1,none⟩ (.int .i64 ((k:Int)+1)))):=(aF.of_below HQ.out).set 1 _;have jQ:=zH hk2
  have ou:Hid (∀W,Below (wq.setCell ⟨D,1,none⟩ (.int .i64 ((k:Int)+1))).heap.size (wq.setCell ⟨D,1,none⟩ (.int .i64 ((k:Int)+1))) W->DS W D u):=fun W hW=>by
   refine DS.below ⟨some ⟨b,o,none⟩,n,c,L,k+1,⟨hk2,HW.out.len,HW.out.max,?_,HW.out.rng,HW.out.ne,by omega⟩,HU.out⟩ hW;exact rV.out.rd HW.out.rd hbD
  generalize wq.setCell ⟨D,1,none⟩ (.int .i64 ((k:Int)+1))=w2 at*;clear hkc pq hbx HQ HKQ hk2;have hkc:=jQ.out.cells;go_quiet ((go_at_call 8;refine Calls.quiet_of_same ((HM.out _).mono (fun _ _ h=>⟨h.1,h.2.symm⟩))));go_wp2;go_ret;exact⟨r,HRM.out,rfl,ou.out _ (ak _ _ _),rV.out.drewN _⟩
 ·have hge:(n:Int)<=(k:Int):=by omega
  clear h;go_enter Tryz.func52,Tryz.ntmps52
  go_upto_region 1 with fail
  go_quiet (fail);go_wp2;go_ret;exact⟨0,by omega,rfl,DS.below ⟨A,n,c,L,k,HW.out,HU.out⟩ (ak _ _ _),(aF.refl _ _).drewN _⟩
end Go.Proofs.YtimokmplkpbmdaaGreatDoor
