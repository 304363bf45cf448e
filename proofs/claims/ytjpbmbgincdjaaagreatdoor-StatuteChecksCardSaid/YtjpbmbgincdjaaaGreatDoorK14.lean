/- Part: R11 R12 Q1 Q2. -/
import Derived.Test.YtjpbmbgincdjaaaGreatDoorK09
import Derived.Test.YtjpbmbgincdjaaaGreatDoorK13
set_option linter.all false
set_option maxRecDepth 100000
set_option maxHeartbeats 0
namespace Go.Proofs.YtjpbmbgincdjaaaGreatDoor
open Go.RowKit List World Tryz
theorem Na (a b:ByteArray) (w:World) (ha:a.size<=1073741824) (hb:b.size<=1073741824):
  Calls prog 172 #[.string a,.string b] w (AQ (ak a) (ak b) w):=by
 rcases Nat.eq_zero_or_pos (ak b) with h0|h0
 ·exact Xv a b w hb h0
 ·by_cases hs:ak a<256 ^ 7/\ak b<256 ^ 7
  ·exact UJ a b w ha hb h0 hs.1 hs.2
  ·exact Xw a b w ha hb h0 hs
theorem Rk (n m K:Nat) (w:World) (hK:K<=1073741824) (hn:n<256 ^ K) (hm:m<256 ^ K) (h0:0<m):
  Calls prog 172 #[.string (aC n),.string (aC m)] w fun e w'=>
   e=.returned (.tuple #[.string (aC (n / m)),.string (aC (n % m)),.bool true])/\Below w.heap.size w w':=by
 refine (Na (aC n) (aC m) w (Nat.le_trans (aY _ _ hn) hK) (Nat.le_trans (aY _ _ hm) hK)).mono ?_;rintro e w' ⟨rfl,hb⟩;rw[aS,aS];have p0:¬(m=0):=by omega
 rw[if_neg p0,if_neg p0,show (m !=0)=true from by simp[p0]];exact⟨rfl,hb⟩
theorem xK (n:Nat):0<(aC n).size↔0<n:=by
 constructor
 ·intro h;rcases Nat.eq_zero_or_pos n with h0|h0
  ·subst h0;exact absurd h (by decide)
  ·exact h0
 ·intro h;have:=CW _ (show n≠0 by omega);exact length_pos_iff.2 this
theorem Nb (a b:ByteArray) (w:World) (ha:a.size<=1073741824) (hb:b.size<=1073741824):
  Calls prog 168 #[.string a,.string b] w fun e w'=>e=.returned (.string (aC (Nat.gcd (ak a) (ak b))))/\Below w.heap.size w w':=by
 have hK:∃K,K<=1073741824/\ak a<256 ^ K/\ak b<256 ^ K:=⟨max a.size b.size,by omega,bV a _ (Nat.le_max_left _ _),bV b _ (Nat.le_max_right _ _)⟩
 obtain⟨K,hK0,hK1,hK2⟩:=hK;have jl:=zH hK1;have kN:=zH hK2;clear hK1 hK2;go_enter func168,ntmps168;go_wp2_with fail;refine (fO a _ (by omega)).mono ?_;rintro e w' ⟨rfl,rfl⟩;go_wp2_with fail;refine (fO b _ (by omega)).mono ?_;rintro e w' ⟨rfl,rfl⟩;go_wp2_with fail
 go_loopg [0,1] (ak b) (fun g xv yv wr=>∃n:Nat,xv=.string (aC n)/\yv=.string (aC g)/\Hid (Nat.gcd n g=Nat.gcd (ak a) (ak b))/\Hid (n<256 ^ K)/\Hid (g<256 ^ K)/\Below w.heap.size w wr)
 case atStart=>exact⟨ak a,rfl,rfl,rfl,jl,kN,Below.refl _ _⟩
 case round=>
  obtain⟨n,rfl,rfl,hg,hn,hm,hbw⟩:=hrel;have hz:=xK gk;by_cases h0:0<gk
  ·have hp:=hz.2 h0;clear hz;go_wp2_with fail;refine (Rk n gk K _ hK0 hn.out hm.out h0).mono ?_;rintro e w3 ⟨rfl,hb3⟩;go_wp2_with fail
   go_roundg (n % gk)
   case measure=>exact Nat.mod_lt _ h0
   case rel=>
    refine⟨gk,rfl,rfl,?_,hm,Nat.lt_of_lt_of_le (Nat.mod_lt _ h0) (Nat.le_of_lt hm.out),ah hbw hb3⟩;show _=_;rw[<-hg.out,Nat.gcd_comm n gk,Nat.gcd_rec gk n,Nat.gcd_comm]
  ·obtain rfl:gk=0:=by omega
   have hp:¬0<(aC 0).size:=by decide
   clear hz;go_wp2;go_ret;have:=hg.out;rw[Nat.gcd_zero_right] at this;exact⟨by rw[this];rfl,hbw⟩
def Nc (n:Nat):List UInt8:=if n=0 then [] else Lib.decDigits n
theorem XD (n:Nat) (h:0<n):Nc n=Nc (n / 10)++[UInt8.ofNat (48+n % 10)]:=by
 unfold Nc;rw[if_neg (by omega)];by_cases h1:n<10
 ·rw[if_pos (by omega),wX n h1,show n % 10=n from by omega];rfl
 ·rw[if_neg (by omega),CZ n h1]
theorem Gn (n K:Nat) (hK:0<K) (h:n<256 ^ K):(Lib.decDigits n).length<=3*K:=by
 refine IE (3*K) n (by omega) (Nat.lt_of_lt_of_le h ?_);rw[Nat.pow_mul];exact Nat.pow_le_pow_left (by omega) K
theorem JC (a:ByteArray) (w:World) (ha:a.size<=1048576):
  Calls prog 186 #[.string a] w fun e w'=>e=.returned (.string (kP (ak a)))/\Below w.heap.size w w':=by
 have hlt:=fE a;have HC:=zH (fO a w (by omega));rcases Nat.eq_zero_or_pos (ak a) with h0|h0
 ·have hs0:(aC 0).size=0:=rfl;rw[h0] at HC⊢;clear hlt;go_enter func186,ntmps186;go_wp2_with fail;refine HC.out.mono ?_;rintro e w' ⟨rfl,rfl⟩;go_wp2;go_ret;exact⟨by unfold kP;rw[wX 0 (by omega)];rfl,Below.refl _ _⟩
 ·have hp:=(xK _).2 h0
  have hsz:0<a.size:=by
   have:=aY _ _ hlt;omega
  have HL:=zH (Gn _ _ hsz hlt);have HK:=zH hlt;obtain⟨K,hKe⟩:=zF a.size;rw[hKe] at HK HL;have hK0:K<=1048576:=by omega
  clear hlt;generalize ak a=n at*;go_enter func186,ntmps186;go_wp2_with fail;refine HC.out.mono ?_;rintro e w' ⟨rfl,rfl⟩;go_wp2_with fail;have hT:(((aC n).size:Int)==0)=false:=by simpa using (show ¬((aC n).size:Int)=0 by omega)
  simp only[hT]
  go_loopg [0,3] n (fun g xv ov wr=>∃o:ByteArray,xv=.string (aC g)/\ov=.string o/\Hid (Nc g++o.data.toList=Lib.decDigits n)/\Hid (g<256 ^ K)/\Below w.heap.size w wr)
  case atStart=>exact⟨⟨#[]⟩,rfl,rfl,by show _=_;unfold Nc;rw[if_neg (by omega)];simp,HK,Below.refl _ _⟩
  case round=>
   obtain⟨o,rfl,rfl,ho,hg,hbw⟩:=hrel;by_cases hg0:0<gk
   ·have hp':=(xK _).2 hg0
    have hos:o.size<=3145728:=by
     have h1:=congrArg List.length ho.out;rw[length_append] at h1;have h2:=HL.out;have:o.data.toList.length=o.size:=rfl;omega
    have hst:=XD gk hg0;have HST:=zH hst;clear hst
    have afz:(10:Nat)<256 ^ (K+1):=by
     have:=Nat.pow_le_pow_right (show 0<256 by omega) (show 1<=K+1 by omega);omega
    have akz:=zH afz;clear afz;go_wp2_with fail;refine (oU 10 _ (by omega) (by omega)).mono ?_;rintro e w1 ⟨rfl,hb1⟩;rw[show ((10:Int).toNat)=10 from rfl];go_wp2_with fail;refine (Rk gk 10 (K+1) _ (by omega) (Nat.lt_of_lt_of_le hg.out (Nat.pow_le_pow_right (by omega) (by omega))) akz.out (by omega)).mono ?_;rintro e w2 ⟨rfl,hb2⟩;go_wp2_with fail;refine (MI _ _ (Nat.le_trans (aY (gk % 10) 1 (by omega)) (by omega))).mono ?_;rintro e w3 ⟨rfl,rfl⟩;rw[aS,show decide (gk % 10<9223372036854775808)=true from decide_eq_true (by omega)];have lM:=ah hbw (ah hb1 hb2);obtain⟨q,hq⟩:∃q,Hid (gk / 10=q):=⟨_,rfl⟩
    obtain⟨d,hd⟩:∃d,Hid (gk % 10=d):=⟨_,rfl⟩
    have hd10:d<10:=by rw[<-hd.out];omega
    rw[hq.out,hd.out] at HST⊢;have MW:q<gk:=by rw[<-hq.out];omega
    rw[if_pos rfl];clear hb1 hb2 hbw;have hown:=ownsRow_lit (base:=w2.heap.size) (e:=5) (size:=1) w2 #[.int .u8 (48+(d:Int))] 1 (Nat.le_refl _) (by unfold maxLen;omega) rfl
    have hu8:(#[Value.int .u8 (48+(d:Int))]:Array Value).toList=U8 [UInt8.ofNat (48+d)]:=by
     show [Value.int .u8 (48+(d:Int))]=[Value.int .u8 ((UInt8.ofNat (48+d)).toNat:Int)]
     rw[UInt8.toNat_ofNat',Nat.mod_eq_of_lt (by omega)];simp
    rw[hu8] at hown;obtain⟨A,cap,hA,hconv⟩:=Eu 41 9 underlying41 underlying9 hown;rw[<-hA] at hconv;have hba:Below w2.heap.size w2 (w2.alloc (.cells #[.int .u8 (48+(d:Int))] 5)):=(Below.refl _ _).alloc (Nat.le_refl _) _;have AY:=ah lM hba;clear hown hu8 hA hba lM;go_wp2
    go_roundg q
    case measure=>exact MW
    case rel=>
     refine⟨_,rfl,rfl,?_,?_,AY⟩
     ·show _=_;rw[<-ho.out,HST.out];simp
     ·exact Nat.lt_trans MW hg.out
   ·obtain rfl:gk=0:=by omega
    have hp':¬0<(aC 0).size:=by decide
    go_wp2;go_ret;have h1:=ho.out;refine⟨?_,hbw⟩;unfold kP;rw[<-h1];rfl
structure Ra where
 neg:Bool
 num:ByteArray
 den:ByteArray
deriving DecidableEq
def Ra.v (a:Ra):Value:=.agg #[.bool a.neg,.string a.num,.string a.den]
def low (neg:Bool) (n d:Nat):Ra:=⟨neg&&decide (n≠0),aC (n / Nat.gcd n d),aC (d / Nat.gcd n d)⟩
theorem C9 {n m:Nat} (h:aC n=aC m):n=m:=by
 have:=congrArg ak h;rwa[aS,aS] at this
theorem nC (n:Nat):aC n=⟨#[]⟩↔n=0:=by
 rw[show (⟨#[]⟩:ByteArray)=aC 0 from rfl];exact⟨C9,fun h=>by rw[h]⟩
theorem xM (n:Nat):(aC n).toList.isEmpty=decide (n=0):=by
 rw[yR,Bool.eq_iff_iff,isEmpty_iff,decide_eq_true_iff];constructor
 ·intro h;rcases Nat.eq_zero_or_pos n with h0|h0
  ·exact h0
  ·exact absurd h (CW n (by omega))
 ·intro h;subst h;rfl
theorem JD (n m K:Nat) (w:World) (hK:K<=536870912) (hn:n<256 ^ K) (hm:m<256 ^ K) (h0:0<m):
  Calls prog 175 #[.string (aC n),.string (aC m)] w fun e w'=>
   e=.returned (.tuple #[.string (aC (n / m)),.string (aC (n % m)),.bool true])/\Below w.heap.size w w':=by
 refine (UC (aC n) (aC m) w (Nat.le_trans (aY _ _ hn) hK) (Nat.le_trans (aY _ _ hm) hK)).mono ?_;rintro e w' ⟨rfl,hb⟩;rw[aS,aS];have p0:¬(m=0):=by omega
 rw[if_neg p0,if_neg p0,show (m !=0)=true from by simp[p0]];exact⟨rfl,hb⟩
theorem XE (n m K:Nat) (w:World) (hK:K<=536870912) (hn:n<256 ^ K) (hm:m<256 ^ K):
  Calls prog 174 #[.string (aC n),.string (aC m)] w fun e w'=>e=.returned (.string (aC (Nat.gcd n m)))/\Below w.heap.size w w':=by
 have:=UN (aC n) (aC m) w (Nat.le_trans (aY _ _ hn) hK) (Nat.le_trans (aY _ _ hm) hK);rwa[aS,aS] at this
theorem nO (neg:Bool) (n d K:Nat) (w:World) (hK:K<=536870912) (hn:n<256 ^ K) (hd:d<256 ^ K) (h0:0<d):
  Calls prog 127 #[.bool neg,.string (aC n),.string (aC d)] w fun e w'=>e=.returned (low neg n d).v/\Below w.heap.size w w':=by
 have hg:0<Nat.gcd n d:=Nat.gcd_pos_of_pos_right _ h0;have hgd:Nat.gcd n d<=d:=Nat.gcd_le_right _ h0;have HG:=zH (XE n d K);have XF:=zH (fun w=>JD n (Nat.gcd n d) K w hK hn (by omega) hg);have XG:=zH (fun w=>JD d (Nat.gcd n d) K w hK hd (by omega) hg);have HN:=zH hn;have HD:=zH hd
 have hdz:(n / Nat.gcd n d=0)↔n=0:=by
  constructor
  ·intro h;rcases Nat.eq_zero_or_pos n with h1|h1
   ·exact h1
   ·have h2:=Nat.gcd_le_left d h1;have:=Nat.div_pos h2 hg;omega
  ·intro h;rw[h];exact Nat.zero_div _
 have hb:(!(aC (n / Nat.gcd n d)).toList.isEmpty)=decide (n≠0):=by
  rw[xM,decide_not,Bool.not_eq_eq_eq_not,Bool.not_not,decide_eq_decide,hdz]
 have kR:=zH hb;have afA:Hid (low neg n d=⟨neg&&decide (n≠0),aC (n / Nat.gcd n d),aC (d / Nat.gcd n d)⟩):=rfl;generalize low neg n d=r at*;generalize Nat.gcd n d=g at*;clear hb hdz hgd hn hd;obtain⟨W,hW⟩:=zE (w.alloc (.cells #[.bool false,.string ⟨#[]⟩,.string ⟨#[]⟩] 57));have hba:Below w.heap.size w W:=by rw[hW];exact zB _ _
 have hblk:aj W w.heap.size 57 [.bool false,.string ⟨#[]⟩,.string ⟨#[]⟩]:=by rw[hW];exact aj.new w _ _
 cases neg
 all_goals
  go_enter func127,ntmps127;go_wp2_with fail;simp only[<-hW]
  refine (HG.out _ hK HN.out HD.out).mono ?_;rintro e w1 ⟨rfl,hb1⟩;go_wp2_with fail;refine (XF.out _).mono ?_;rintro e w2 ⟨rfl,hb2⟩;go_wp2_with fail;refine (XG.out _).mono ?_;rintro e w3 ⟨rfl,hb3⟩;have AY:=ah (ah hb1 hb2) hb3;have hk3:=hblk.below AY hblk.lt;have hc0:=hk3.cell (i:=0) (by decide);have hc1:=hk3.cell (i:=1) (by decide);have hc2:=hk3.cell (i:=2) (by decide);have hf0:=hk3.frozen 0;have hf1:=hk3.frozen 1;have hf2:=hk3.frozen 2;simp only[getElem_cons_zero,getElem_cons_succ] at hc0 hc1 hc2;have hbw:=ah hba AY;clear hb1 hb2 hb3 AY hW;go_wp2
 ·refine bodyPost_ret (v:=.agg #[.bool false,.string (aC (n / g)),.string (aC (d / g))]) (by simp[results,results127,go_sem,hc0,hc1,hc2]) rfl ⟨?_,((hbw.setCell (Nat.le_refl _) _).setCell (Nat.le_refl _) _).setCell (Nat.le_refl _) _⟩;rw[afA.out];rfl
 ·refine bodyPost_ret (v:=.agg #[.bool (!(aC (n / g)).toList.isEmpty),.string (aC (n / g)),.string (aC (d / g))]) (by simp[results,results127,go_sem,hc0,hc1,hc2]) rfl ⟨?_,((hbw.setCell (Nat.le_refl _) _).setCell (Nat.le_refl _) _).setCell (Nat.le_refl _) _⟩;rw[afA.out,kR.out];rfl
theorem iH (s:ByteArray):dM s=true↔s=aC (ak s):=by
 obtain⟨⟨l⟩⟩:=s;constructor
 ·intro h
  have h1:l=nb (vb l):=by
   rw[<-Aw];cases l with
   |nil=>rfl
   |cons c l=>
    have hc:c≠0:=by simpa [dM] using h
    simp[oG,hc]
  show _=(⟨(nb (vb l)).toArray⟩:ByteArray)
  rw[<-h1]
 ·intro h;have hr:=qo (vb l)
  have h1:l=nb (vb l):=by
   have:=congrArg (fun s:ByteArray=>s.data.toList) h;exact this
  rw[<-h1] at hr;cases l with
  |nil=>rfl
  |cons c l=>have:=hr (by simp);simpa [dM] using this
def okR (a:Ra):Bool:=dM a.den&&decide (0<ak a.den)&&dM a.num&&decide (low a.neg (ak a.num) (ak a.den)=a)
theorem Nh (n:ByteArray) (w:World) (hn:n.size<=1073741824):
  Calls prog 125 #[.agg #[.string ⟨#[]⟩],.string n] w fun e w'=>e=.returned (.bool (dM n&&decide (0<ak n)))/\Below w.heap.size w w':=by
 obtain⟨W,hW⟩:=zE (w.alloc (.cells #[.string ⟨#[]⟩] 188));have hba:Below w.heap.size w W:=by rw[hW];exact zB _ _
 have hblk:aj W w.heap.size 188 [.string ⟨#[]⟩]:=by rw[hW];exact aj.new w _ _
 have hc0:=hblk.cell (i:=0) (by decide);simp only[getElem_cons_zero] at hc0;have HR:=zH (vT n W);have HC:=zH (Uy n ⟨#[]⟩ W hn (by show 0<=_;omega))
 have hcmp:decide (0<fD (ak n) (ak ⟨#[]⟩))=decide (0<ak n):=by
  rw[decide_eq_decide,show ak ⟨#[]⟩=0 from rfl];unfold fD;split
  ·omega
  ·split<;>omega
 generalize fD (ak n) (ak ⟨#[]⟩)=z at*;cases hr:dM n
 ·rw[hr] at HR;go_enter func125,ntmps125;go_wp2_with fail;simp only[<-hW]
  clear hW;refine HR.out.mono ?_;rintro e w' ⟨rfl,rfl⟩;go_wp2;go_ret;exact⟨rfl,hba⟩
 ·rw[hr] at HR;go_enter func125,ntmps125;go_wp2_with fail;simp only[<-hW]
  clear hW;refine HR.out.mono ?_;rintro e w' ⟨rfl,rfl⟩;go_wp2_with fail;refine HC.out.mono ?_;rintro e w2 ⟨rfl,hb2⟩;go_wp2;go_ret;refine⟨?_,ah hba hb2⟩;rw[<-hcmp];rfl
theorem toList_inj {a b:ByteArray} (h:a.toList=b.toList):a=b:=by
 rw[ByteArray.toList_eq,ByteArray.toList_eq] at h;obtain⟨⟨a⟩⟩:=a;obtain⟨⟨b⟩⟩:=b;simp at h;rw[h]
theorem Rl {α:Type} (f:Bool->α) (a b:Ra):
  (if a.neg=b.neg then if a.num.toList=b.num.toList then if a.den.toList=b.den.toList then f true else f false else f false else f false)=f (decide (a=b)):=by
 by_cases h:a=b
 ·subst h;simp
 ·rw[decide_eq_false h];split
  ·split
   ·split
    ·next h1 h2 h3=>
     exfalso;apply h;obtain⟨x,y,z⟩:=a;obtain⟨x',y',z'⟩:=b;simp only at h1 h2 h3;rw[h1,toList_inj h2,toList_inj h3]
    ·rfl
   ·rfl
  ·rfl
def aas (w:World) (b:Nat) (a:Ra):Prop:=
 w.cell? ⟨b,0,none⟩=some (.bool a.neg)/\w.cell? ⟨b,1,none⟩=some (.string a.num)/\w.cell? ⟨b,2,none⟩=some (.string a.den)
theorem aas.afB {w:World} {b:Nat} {a:Ra} {t:TypeId} (h:aj w b t [.bool a.neg,.string a.num,.string a.den]):aas w b a:=by
 have hc0:=h.cell (i:=0) (by simp);have hc1:=h.cell (i:=1) (by simp);have hc2:=h.cell (i:=2) (by simp);exact⟨hc0,hc1,hc2⟩
theorem qV (a:Ra) (w:World) (hn:a.num.size<=536870912) (hd:a.den.size<=536870912):
  Calls prog 71 #[a.v] w fun e w'=>e=.returned (.bool (okR a))/\Below w.heap.size w w':=by
 obtain⟨neg,num,den⟩:=a;obtain⟨W,hW⟩:=zE (w.alloc (.cells #[.bool neg,.string num,.string den] 57));have hba:Below w.heap.size w W:=by rw[hW];exact zB _ _
 have hblk:aj W w.heap.size 57 [.bool neg,.string num,.string den]:=by rw[hW];exact aj.new w _ _
 obtain⟨B,hB⟩:=zE w.heap.size;rw[<-hB] at hblk;have hbs:B<W.heap.size:=hblk.lt;have hc:=aas.afB (a:=⟨neg,num,den⟩) hblk;obtain⟨hc0,hc1,hc2⟩:=hc
 have HK:Hid (∀w' w1:World,(w'.cell? ⟨B,0,none⟩=some (.bool neg)/\w'.cell? ⟨B,1,none⟩=some (.string num)/\w'.cell? ⟨B,2,none⟩=some (.string den)/\Below W.heap.size W w')->Below w'.heap.size w' w1->
   (w1.cell? ⟨B,0,none⟩=some (.bool neg)/\w1.cell? ⟨B,1,none⟩=some (.string num)/\w1.cell? ⟨B,2,none⟩=some (.string den)/\Below W.heap.size W w1)):=by
  rintro w' w1 ⟨h0,h1,h2,hb⟩ hb1;have hlt:B<w'.heap.size:=Nat.lt_of_lt_of_le hbs hb.size;exact⟨(hb1.cell hlt).trans h0,(hb1.cell hlt).trans h1,(hb1.cell hlt).trans h2,ah hb hb1⟩
 have HS:Hid (W.drew.cell? ⟨B,0,none⟩=some (.bool neg)/\W.drew.cell? ⟨B,1,none⟩=some (.string num)/\W.drew.cell? ⟨B,2,none⟩=some (.string den)/\Below W.heap.size W W.drew):=
  ⟨hc0,hc1,hc2,below_drewN (Below.refl _ _) 1⟩
 have HP:=zH (fun w=>Nh den w (by simp at hd;omega));have HR:=zH (fun w=>vT num w);simp only at hn hd;have qJ:Hid (okR ⟨neg,num,den⟩=(dM den&&decide (0<ak den)&&dM num&&decide (low neg (ak num) (ak den)=⟨neg,num,den⟩))):=rfl;cases hp:(dM den&&decide (0<ak den))
 ·rw[hp] at HP qJ;clear hp hblk hc0 hc1 hc2;unfold Ra.v;go_enter func71,ntmps71;go_wp2_with fail;simp only[<-hW,<-hB]
  clear hW hB;refine wp_region_noPanic ?_;refine wp_region_held_drew (S:=fun w'=>w'.cell? ⟨B,0,none⟩=some (.bool neg)/\w'.cell? ⟨B,1,none⟩=some (.string num)/\w'.cell? ⟨B,2,none⟩=some (.string den)/\Below W.heap.size W w') (by kernel_rfl) HS.out (fun hHeld=>?_);refine dN 0 ?_;refine dN 1 ?_;refine dN 2 ?_;refine qG 3 fun K hK=>?_
  go_simp;refine (HP.out _).mono ?_;rintro e w1 ⟨rfl,hb1⟩;go_wp2_with fail;refine mZ hK (HK.out _ _ (by assumption) hb1) fun hHeld=>?_
  clear hK K;refine dN 4 ?_;refine pU 5 rfl ?_
  try simp only[Act.put,tk1,tk2,tk3,tk4,jY,jZ]
  refine pU 6 rfl ?_
  try simp only[Act.put,tk1,tk2,tk3,tk4,jY,jZ]
  refine pU 7 rfl ?_
  try simp only[Act.put,tk1,tk2,tk3,tk4,jY,jZ]
  refine dN 8 ?_;refine dN 9 ?_;refine pU 10 rfl ?_
  try simp only[Act.put,tk1,tk2,tk3,tk4,jY,jZ]
  refine pU 11 rfl ?_
  try simp only[Act.put,tk1,tk2,tk3,tk4,jY,jZ]
  refine pU 12 rfl ?_
  try simp only[Act.put,tk1,tk2,tk3,tk4,jY,jZ]
  refine pU 13 rfl ?_
  try simp only[Act.put,tk1,tk2,tk3,tk4,jY,jZ]
  refine pU 14 rfl ?_
  try simp only[Act.put,tk1,tk2,tk3,tk4,jY,jZ]
  refine pU 15 rfl ?_
  try simp only[Act.put,tk1,tk2,tk3,tk4,jY,jZ]
  refine pU 16 rfl ?_
  try simp only[Act.put,tk1,tk2,tk3,tk4,jY,jZ]
  refine pU 17 rfl ?_
  try simp only[Act.put,tk1,tk2,tk3,tk4,jY,jZ]
  refine pU 18 rfl ?_
  try simp only[Act.put,tk1,tk2,tk3,tk4,jY,jZ]
  refine dN 19 ?_;refine dN 20 ?_;refine wpAnyH_done (by kernel_rfl) ?_ _;refine NoPanic.normal ?_;go_wp2;go_ret;exact⟨by rw[qJ.out];rfl,ah hba hHeld.2.2.2⟩
 ·rw[hp] at HP qJ;cases hr:dM num
  ·rw[hr] at HR qJ;clear hr hp hblk hc0 hc1 hc2;unfold Ra.v;go_enter func71,ntmps71;go_wp2_with fail;simp only[<-hW,<-hB]
   clear hW hB;refine wp_region_noPanic ?_;refine wp_region_held_drew (S:=fun w'=>w'.cell? ⟨B,0,none⟩=some (.bool neg)/\w'.cell? ⟨B,1,none⟩=some (.string num)/\w'.cell? ⟨B,2,none⟩=some (.string den)/\Below W.heap.size W w') (by kernel_rfl) HS.out (fun hHeld=>?_);refine dN 0 ?_;refine dN 1 ?_;refine dN 2 ?_;refine qG 3 fun K hK=>?_
   go_simp;refine (HP.out _).mono ?_;rintro e w1 ⟨rfl,hb1⟩;go_wp2_with fail;refine mZ hK (HK.out _ _ (by assumption) hb1) fun hHeld=>?_
   clear hK K;refine dN 4 ?_;refine dN 5 ?_;refine dN 6 ?_;refine qG 7 fun K hK=>?_
   go_simp;refine (HR.out _).mono ?_;rintro e w1 ⟨rfl,rfl⟩;go_wp2_with fail;refine mZ hK (by assumption) fun hHeld=>?_
   clear hK K;refine dN 8 ?_;refine dN 9 ?_;refine pU 10 rfl ?_
   try simp only[Act.put,tk1,tk2,tk3,tk4,jY,jZ]
   refine pU 11 rfl ?_
   try simp only[Act.put,tk1,tk2,tk3,tk4,jY,jZ]
   refine pU 12 rfl ?_
   try simp only[Act.put,tk1,tk2,tk3,tk4,jY,jZ]
   refine pU 13 rfl ?_
   try simp only[Act.put,tk1,tk2,tk3,tk4,jY,jZ]
   refine pU 14 rfl ?_
   try simp only[Act.put,tk1,tk2,tk3,tk4,jY,jZ]
   refine pU 15 rfl ?_
   try simp only[Act.put,tk1,tk2,tk3,tk4,jY,jZ]
   refine pU 16 rfl ?_
   try simp only[Act.put,tk1,tk2,tk3,tk4,jY,jZ]
   refine pU 17 rfl ?_
   try simp only[Act.put,tk1,tk2,tk3,tk4,jY,jZ]
   refine pU 18 rfl ?_
   try simp only[Act.put,tk1,tk2,tk3,tk4,jY,jZ]
   refine dN 19 ?_;refine dN 20 ?_;refine wpAnyH_done (by kernel_rfl) ?_ _;refine NoPanic.normal ?_;go_wp2;go_ret;exact⟨by rw[qJ.out];rfl,ah hba hHeld.2.2.2⟩
  ·rw[hr] at HR qJ;rw[Bool.and_eq_true,decide_eq_true_eq] at hp;have en:=(iH num).1 hr;have ed:=(iH den).1 hp.1;have hvn:=fE num;have hvd:=fE den;obtain⟨K,hK⟩:=zE 536870912;have HL:=zH (fun w=>nO neg (ak num) (ak den) K w (Nat.le_of_eq hK) (bV num K (by rw[hK];exact hn)) (bV den K (by rw[hK];exact hd)) hp.2);clear hK;rw[<-en,<-ed] at HL;obtain⟨lw,Nj⟩:=zF (low neg (ak num) (ak den));rw[Nj] at HL qJ;obtain⟨ln,lu,ld⟩:=lw;obtain⟨dq,tZ⟩:∃d,decide ((⟨ln,lu,ld⟩:Ra)=⟨neg,num,den⟩)=d:=⟨_,rfl⟩
   rw[tZ] at qJ;have Gp:=zH tZ;clear tZ;clear hr hp hblk hc0 hc1 hc2 en ed hvn hvd Nj;unfold Ra.v;go_enter func71,ntmps71;go_wp2_with fail;simp only[<-hW,<-hB]
   clear hW hB;refine wp_region_noPanic ?_;refine wp_region_held_drew (S:=fun w'=>w'.cell? ⟨B,0,none⟩=some (.bool neg)/\w'.cell? ⟨B,1,none⟩=some (.string num)/\w'.cell? ⟨B,2,none⟩=some (.string den)/\Below W.heap.size W w') (by kernel_rfl) HS.out (fun hHeld=>?_);refine dN 0 ?_;refine dN 1 ?_;refine dN 2 ?_;refine qG 3 fun K hK=>?_
   go_simp;refine (HP.out _).mono ?_;rintro e w1 ⟨rfl,hb1⟩;go_wp2_with fail;refine mZ hK (HK.out _ _ (by assumption) hb1) fun hHeld=>?_
   clear hK K;refine dN 4 ?_;refine dN 5 ?_;refine dN 6 ?_;refine qG 7 fun K hK=>?_
   go_simp;refine (HR.out _).mono ?_;rintro e w1 ⟨rfl,rfl⟩;go_wp2_with fail;refine mZ hK (by assumption) fun hHeld=>?_
   clear hK K;refine dN 8 ?_;refine dN 9 ?_;refine dN 10 ?_;refine dN 11 ?_;refine dN 12 ?_;refine dN 13 ?_;refine dN 14 ?_;refine dN 15 ?_;refine dN 17 ?_;refine qG 16 fun K hK=>?_
   go_simp;refine (HL.out _).mono ?_;rintro e w1 ⟨rfl,hb1⟩;simp only[Ra.v]
   go_wp2_with fail;refine mZ hK (HK.out _ _ (by assumption) hb1) fun hHeld=>?_
   clear hK K;refine tkY 18 (.bool dq) rfl ?_ ?_
   ·intro w hSw;(try dsimp only at hSw);go_simp;rw[<-Gp.out];exact Rl (fun t=>Result.ok (Next.value (Value.bool t)) w) ⟨ln,lu,ld⟩ ⟨neg,num,den⟩
   try simp only[Act.put,tk1,tk2,tk3,tk4,jY,jZ]
   refine dN 19 ?_;refine dN 20 ?_;refine wpAnyH_done (by kernel_rfl) ?_ _;refine NoPanic.normal ?_;go_wp2;go_ret;exact⟨by rw[qJ.out];rfl,ah hba hHeld.2.2.2⟩
end Go.Proofs.YtjpbmbgincdjaaaGreatDoor
