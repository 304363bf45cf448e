/- A part of the proof: R11 R12 Q1 Q2 Q3 Q4 Q5 Q6 Q7 Q8. -/
import Derived.Deep.LoopGhost
import Derived.Deep.RegionHeld3
import Derived.Test.YtgfeadgafdijaaaGreatDoorJ01
import Derived.Test.YtgfeadgafdijaaaGreatDoorJ03
import Derived.Test.YtgfeadgafdijaaaGreatDoorJ10
import Derived.Test.YtgfeadgafdijaaaGreatDoorJ13
import Derived.Test.YtgfeadgafdijaaaGreatDoorJ14
set_option linter.unusedVariables false
set_option linter.unusedSimpArgs false
set_option maxRecDepth 100000
set_option maxHeartbeats 40000000
namespace Go.Proofs.YtgfeadgafdijaaaGreatDoor
open Go.RowKit
theorem ND (a b:ByteArray) (w:World) (ha:a.size≤1073741824) (hb:b.size≤1073741824):
  Calls Tryz.prog 167 #[.string a,.string b] w (CX (aA a) (aA b) w):=by
 rcases Nat.eq_zero_or_pos (aA b) with h0|h0
 ·exact VK a b w hb h0
 ·by_cases hs:aA a<256 ^ 7∧aA b<256 ^ 7
  ·exact Td a b w ha hb h0 hs.1 hs.2
  ·exact VL a b w ha hb h0 hs
theorem QS (n m K:Nat) (w:World) (hK:K≤1073741824) (hn:n<256 ^ K) (hm:m<256 ^ K) (h0:0<m):
  Calls Tryz.prog 167 #[.string (aB n),.string (aB m)] w fun e w'=>
   e=.returned (.tuple #[.string (aB (n / m)),.string (aB (n % m)),.bool true])∧Below w.heap.size w w':=by
 refine (ND (aB n) (aB m) w (Nat.le_trans (aV _ _ hn) hK) (Nat.le_trans (aV _ _ hm) hK)).mono ?_;rintro e w' ⟨rfl,hb⟩;rw[aX,aX];have p0:¬(m=0):=by omega
 rw[if_neg p0,if_neg p0,show (m !=0)=true from by simp[p0]];exact⟨rfl,hb⟩
theorem zn (n:Nat):0<(aB n).size↔0<n:=by
 constructor
 ·intro h;rcases Nat.eq_zero_or_pos n with h0|h0
  ·subst h0;exact absurd h (by decide)
  ·exact h0
 ·intro h;have:=EF _ (show n≠0 by omega);exact List.length_pos_iff.2 this
theorem NG (a b:ByteArray) (w:World) (ha:a.size≤1073741824) (hb:b.size≤1073741824):
  Calls Tryz.prog 126 #[.string a,.string b] w fun e w'=>e=.returned (.string (aB (Nat.gcd (aA a) (aA b))))∧Below w.heap.size w w':=by
 have hK:∃K,K≤1073741824∧aA a<256 ^ K∧aA b<256 ^ K:=⟨max a.size b.size,by omega,dB a _ (Nat.le_max_left _ _),dB b _ (Nat.le_max_right _ _)⟩
 obtain⟨K,hK0,hK1,hK2⟩:=hK;have jL:=zH hK1;have jD:=zH hK2;clear hK1 hK2;go_enter Tryz.func126,Tryz.ntmps126;go_wp2_with fail;refine (fZ a _ (by omega)).mono ?_;rintro e w' ⟨rfl,rfl⟩;go_wp2_with fail;refine (fZ b _ (by omega)).mono ?_;rintro e w' ⟨rfl,rfl⟩;go_wp2_with fail
 go_loopg [0,1] (aA b) (fun g xv yv wr=>∃n:Nat,xv=.string (aB n)∧yv=.string (aB g)∧Hid (Nat.gcd n g=Nat.gcd (aA a) (aA b))∧Hid (n<256 ^ K)∧Hid (g<256 ^ K)∧Below w.heap.size w wr)
 case atStart=>exact⟨aA a,rfl,rfl,rfl,jL,jD,Below.refl _ _⟩
 case round=>
  obtain⟨n,rfl,rfl,hg,hn,hm,hbw⟩:=hrel;have hz:=zn gk;by_cases h0:0<gk
  ·have hp:=hz.2 h0;clear hz;go_wp2_with fail;refine (QS n gk K _ hK0 hn.out hm.out h0).mono ?_;rintro e w3 ⟨rfl,hb3⟩;go_wp2_with fail
   go_roundg (n % gk)
   case measure=>exact Nat.mod_lt _ h0
   case rel=>
    refine⟨gk,rfl,rfl,?_,hm,Nat.lt_of_lt_of_le (Nat.mod_lt _ h0) (Nat.le_of_lt hm.out),ah hbw hb3⟩;show _=_;rw[←hg.out,Nat.gcd_comm n gk,Nat.gcd_rec gk n,Nat.gcd_comm]
  ·obtain rfl:gk=0:=by omega
   have hp:¬0<(aB 0).size:=by decide
   clear hz;go_wp2;go_ret;have:=hg.out;rw[Nat.gcd_zero_right] at this;exact⟨by rw[this];rfl,hbw⟩
def NH (n:Nat):List UInt8:=if n=0 then [] else Lib.decDigits n
theorem VT (n:Nat) (h:0<n):NH n=NH (n / 10)++[UInt8.ofNat (48+n % 10)]:=by
 unfold NH;rw[if_neg (by omega)];by_cases h1:n<10
 ·rw[if_pos (by omega),yL n h1,show n % 10=n from by omega];rfl
 ·rw[if_neg (by omega),EH n h1]
theorem Ih (n K:Nat) (hK:0<K) (h:n<256 ^ K):(Lib.decDigits n).length≤3*K:=by
 refine Ju (3*K) n (by omega) (Nat.lt_of_lt_of_le h ?_);rw[Nat.pow_mul];exact Nat.pow_le_pow_left (by omega) K
theorem Kz (a:ByteArray) (w:World) (ha:a.size≤1048576):
  Calls Tryz.prog 161 #[.string a] w fun e w'=>e=.returned (.string (iT (aA a)))∧Below w.heap.size w w':=by
 have hlt:=eX a;have HC:=zH (fZ a w (by omega));rcases Nat.eq_zero_or_pos (aA a) with h0|h0
 ·have hs0:(aB 0).size=0:=rfl;rw[h0] at HC⊢;clear hlt;go_enter Tryz.func161,Tryz.ntmps161;go_wp2_with fail;refine HC.out.mono ?_;rintro e w' ⟨rfl,rfl⟩;go_wp2;go_ret;exact⟨by unfold iT;rw[yL 0 (by omega)];rfl,Below.refl _ _⟩
 ·have hp:=(zn _).2 h0
  have hsz:0<a.size:=by
   have:=aV _ _ hlt;omega
  have HL:=zH (Ih _ _ hsz hlt);have HK:=zH hlt;obtain⟨K,hKe⟩:=zF a.size;rw[hKe] at HK HL;have hK0:K≤1048576:=by omega
  clear hlt;generalize aA a=n at*;go_enter Tryz.func161,Tryz.ntmps161;go_wp2_with fail;refine HC.out.mono ?_;rintro e w' ⟨rfl,rfl⟩;go_wp2_with fail;have hT:(((aB n).size:Int)==0)=false:=by simpa using (show ¬((aB n).size:Int)=0 by omega)
  simp only[hT]
  go_loopg [0,3] n (fun g xv ov wr=>∃o:ByteArray,xv=.string (aB g)∧ov=.string o∧Hid (NH g++o.data.toList=Lib.decDigits n)∧Hid (g<256 ^ K)∧Below w.heap.size w wr)
  case atStart=>exact⟨⟨#[]⟩,rfl,rfl,by show _=_;unfold NH;rw[if_neg (by omega)];simp,HK,Below.refl _ _⟩
  case round=>
   obtain⟨o,rfl,rfl,ho,hg,hbw⟩:=hrel;by_cases hg0:0<gk
   ·have hp':=(zn _).2 hg0
    have hos:o.size≤3145728:=by
     have h1:=congrArg List.length ho.out;rw[List.length_append] at h1;have h2:=HL.out;have:o.data.toList.length=o.size:=rfl;omega
    have hst:=VT gk hg0;have HST:=zH hst;clear hst
    have acJ:(10:Nat)<256 ^ (K+1):=by
     have:=Nat.pow_le_pow_right (show 0<256 by omega) (show 1≤K+1 by omega);omega
    have agl:=zH acJ;clear acJ;go_wp2_with fail;refine (pJ 10 _ (by omega) (by omega)).mono ?_;rintro e w1 ⟨rfl,hb1⟩;rw[show ((10:Int).toNat)=10 from rfl];go_wp2_with fail;refine (QS gk 10 (K+1) _ (by omega) (Nat.lt_of_lt_of_le hg.out (Nat.pow_le_pow_right (by omega) (by omega))) agl.out (by omega)).mono ?_;rintro e w2 ⟨rfl,hb2⟩;go_wp2_with fail;refine (Nj _ _ (Nat.le_trans (aV (gk % 10) 1 (by omega)) (by omega))).mono ?_;rintro e w3 ⟨rfl,rfl⟩;rw[aX,show decide (gk % 10<9223372036854775808)=true from decide_eq_true (by omega)];have lH:=ah hbw (ah hb1 hb2);obtain⟨q,hq⟩:∃q,Hid (gk / 10=q):=⟨_,rfl⟩
    obtain⟨d,hd⟩:∃d,Hid (gk % 10=d):=⟨_,rfl⟩
    have hd10:d<10:=by rw[←hd.out];omega
    rw[hq.out,hd.out] at HST⊢;have Nz:q<gk:=by rw[←hq.out];omega
    rw[if_pos rfl];clear hb1 hb2 hbw;have hown:=World.ownsRow_lit (base:=w2.heap.size) (e:=5) (size:=1) w2 #[.int .u8 (48+(d:Int))] 1 (Nat.le_refl _) (by unfold maxLen;omega) rfl
    have hu8:(#[Value.int .u8 (48+(d:Int))]:Array Value).toList=U8 [UInt8.ofNat (48+d)]:=by
     show [Value.int .u8 (48+(d:Int))]=[Value.int .u8 ((UInt8.ofNat (48+d)).toNat:Int)]
     rw[UInt8.toNat_ofNat',Nat.mod_eq_of_lt (by omega)];simp
    rw[hu8] at hown;obtain⟨A,cap,hA,hconv⟩:=FX 72 9 Tryz.underlying72 Tryz.underlying9 hown;rw[←hA] at hconv;have hba:Below w2.heap.size w2 (w2.alloc (.cells #[.int .u8 (48+(d:Int))] 5)):=(Below.refl _ _).alloc (Nat.le_refl _) _;have Dh:=ah lH hba;clear hown hu8 hA hba lH;go_wp2
    go_roundg q
    case measure=>exact Nz
    case rel=>
     refine⟨_,rfl,rfl,?_,?_,Dh⟩
     ·show _=_;rw[←ho.out,HST.out];simp
     ·exact Nat.lt_trans Nz hg.out
   ·obtain rfl:gk=0:=by omega
    have hp':¬0<(aB 0).size:=by decide
    go_wp2;go_ret;have h1:=ho.out;refine⟨?_,hbw⟩;unfold iT;rw[←h1];rfl
structure Ra where
 neg:Bool
 num:ByteArray
 den:ByteArray
deriving DecidableEq
def Ra.v (a:Ra):Value:=.agg #[.bool a.neg,.string a.num,.string a.den]
def low (neg:Bool) (n d:Nat):Ra:=⟨neg&&decide (n≠0),aB (n / Nat.gcd n d),aB (d / Nat.gcd n d)⟩
theorem EI {n m:Nat} (h:aB n=aB m):n=m:=by
 have:=congrArg aA h;rwa[aX,aX] at this
theorem AB (n:Nat):aB n=⟨#[]⟩↔n=0:=by
 rw[show (⟨#[]⟩:ByteArray)=aB 0 from rfl];exact⟨EI,fun h=>by rw[h]⟩
theorem uQ (n:Nat):(aB n).toList.isEmpty=decide (n=0):=by
 rw[Au,Bool.eq_iff_iff,List.isEmpty_iff,decide_eq_true_iff];constructor
 ·intro h;rcases Nat.eq_zero_or_pos n with h0|h0
  ·exact h0
  ·exact absurd h (EF n (by omega))
 ·intro h;subst h;rfl
theorem KA (n m K:Nat) (w:World) (hK:K≤536870912) (hn:n<256 ^ K) (hm:m<256 ^ K) (h0:0<m):
  Calls Tryz.prog 151 #[.string (aB n),.string (aB m)] w fun e w'=>
   e=.returned (.tuple #[.string (aB (n / m)),.string (aB (n % m)),.bool true])∧Below w.heap.size w w':=by
 refine (SL (aB n) (aB m) w (Nat.le_trans (aV _ _ hn) hK) (Nat.le_trans (aV _ _ hm) hK)).mono ?_;rintro e w' ⟨rfl,hb⟩;rw[aX,aX];have p0:¬(m=0):=by omega
 rw[if_neg p0,if_neg p0,show (m !=0)=true from by simp[p0]];exact⟨rfl,hb⟩
theorem VU (n m K:Nat) (w:World) (hK:K≤536870912) (hn:n<256 ^ K) (hm:m<256 ^ K):
  Calls Tryz.prog 150 #[.string (aB n),.string (aB m)] w fun e w'=>e=.returned (.string (aB (Nat.gcd n m)))∧Below w.heap.size w w':=by
 have:=Tm (aB n) (aB m) w (Nat.le_trans (aV _ _ hn) hK) (Nat.le_trans (aV _ _ hm) hK);rwa[aX,aX] at this
theorem nX (neg:Bool) (n d K:Nat) (w:World) (hK:K≤536870912) (hn:n<256 ^ K) (hd:d<256 ^ K) (h0:0<d):
  Calls Tryz.prog 112 #[.bool neg,.string (aB n),.string (aB d)] w fun e w'=>e=.returned (low neg n d).v∧Below w.heap.size w w':=by
 have hg:0<Nat.gcd n d:=Nat.gcd_pos_of_pos_right _ h0;have hgd:Nat.gcd n d≤d:=Nat.gcd_le_right _ h0;have HG:=zH (VU n d K);have ji:=zH (fun w=>KA n (Nat.gcd n d) K w hK hn (by omega) hg);have tN:=zH (fun w=>KA d (Nat.gcd n d) K w hK hd (by omega) hg);have HN:=zH hn;have HD:=zH hd
 have hdz:(n / Nat.gcd n d=0)↔n=0:=by
  constructor
  ·intro h;rcases Nat.eq_zero_or_pos n with h1|h1
   ·exact h1
   ·have h2:=Nat.gcd_le_left d h1;have:=Nat.div_pos h2 hg;omega
  ·intro h;rw[h];exact Nat.zero_div _
 have hb:(!(aB (n / Nat.gcd n d)).toList.isEmpty)=decide (n≠0):=by
  rw[uQ,decide_not,Bool.not_eq_eq_eq_not,Bool.not_not,decide_eq_decide,hdz]
 have cO:=zH hb;have Jv:Hid (low neg n d=⟨neg&&decide (n≠0),aB (n / Nat.gcd n d),aB (d / Nat.gcd n d)⟩):=rfl;generalize low neg n d=r at*;generalize Nat.gcd n d=g at*;clear hb hdz hgd hn hd;obtain⟨W,hW⟩:=zE (w.alloc (.cells #[.bool false,.string ⟨#[]⟩,.string ⟨#[]⟩] 40));have hba:Below w.heap.size w W:=by rw[hW];exact zB _ _
 have hblk:aj W w.heap.size 40 [.bool false,.string ⟨#[]⟩,.string ⟨#[]⟩]:=by rw[hW];exact aj.new w _ _
 cases neg
 all_goals
  go_enter Tryz.func112,Tryz.ntmps112;go_wp2_with fail;simp only[←hW]
  refine (HG.out _ hK HN.out HD.out).mono ?_;rintro e w1 ⟨rfl,hb1⟩;go_wp2_with fail;refine (ji.out _).mono ?_;rintro e w2 ⟨rfl,hb2⟩;go_wp2_with fail;refine (tN.out _).mono ?_;rintro e w3 ⟨rfl,hb3⟩;have Dh:=ah (ah hb1 hb2) hb3;have hk3:=hblk.below Dh hblk.lt;have hc0:=hk3.cell (i:=0) (by decide);have hc1:=hk3.cell (i:=1) (by decide);have hc2:=hk3.cell (i:=2) (by decide);have hf0:=hk3.frozen 0;have hf1:=hk3.frozen 1;have hf2:=hk3.frozen 2;simp only[List.getElem_cons_zero,List.getElem_cons_succ] at hc0 hc1 hc2;have hbw:=ah hba Dh;clear hb1 hb2 hb3 Dh hW;go_wp2
 ·refine bodyPost_ret (v:=.agg #[.bool false,.string (aB (n / g)),.string (aB (d / g))]) (by simp[results,Tryz.results112,go_sem,hc0,hc1,hc2]) rfl ⟨?_,((hbw.setCell (Nat.le_refl _) _).setCell (Nat.le_refl _) _).setCell (Nat.le_refl _) _⟩;rw[Jv.out];rfl
 ·refine bodyPost_ret (v:=.agg #[.bool (!(aB (n / g)).toList.isEmpty),.string (aB (n / g)),.string (aB (d / g))]) (by simp[results,Tryz.results112,go_sem,hc0,hc1,hc2]) rfl ⟨?_,((hbw.setCell (Nat.le_refl _) _).setCell (Nat.le_refl _) _).setCell (Nat.le_refl _) _⟩;rw[Jv.out,cO.out];rfl
theorem iO (s:ByteArray):dM s=true↔s=aB (aA s):=by
 obtain⟨⟨l⟩⟩:=s;constructor
 ·intro h
  have h1:l=nb (vb l):=by
   rw[←CB];cases l with
   |nil=>rfl
   |cons c l=>
    have hc:c≠0:=by simpa [dM] using h
    simp[oN,hc]
  show _=(⟨(nb (vb l)).toArray⟩:ByteArray)
  rw[←h1]
 ·intro h;have hr:=qN (vb l)
  have h1:l=nb (vb l):=by
   have:=congrArg (fun s:ByteArray=>s.data.toList) h;exact this
  rw[←h1] at hr;cases l with
  |nil=>rfl
  |cons c l=>have:=hr (by simp);simpa [dM] using this
def okR (a:Ra):Bool:=dM a.den&&decide (0<aA a.den)&&dM a.num&&decide (low a.neg (aA a.num) (aA a.den)=a)
theorem NI (n:ByteArray) (w:World) (hn:n.size≤1073741824):
  Calls Tryz.prog 110 #[.agg #[.string ⟨#[]⟩],.string n] w fun e w'=>e=.returned (.bool (dM n&&decide (0<aA n)))∧Below w.heap.size w w':=by
 obtain⟨W,hW⟩:=zE (w.alloc (.cells #[.string ⟨#[]⟩] 163));have hba:Below w.heap.size w W:=by rw[hW];exact zB _ _
 have hblk:aj W w.heap.size 163 [.string ⟨#[]⟩]:=by rw[hW];exact aj.new w _ _
 have hc0:=hblk.cell (i:=0) (by decide);simp only[List.getElem_cons_zero] at hc0;have HR:=zH (xK n W);have HC:=zH (SH n ⟨#[]⟩ W hn (by show 0≤_;omega))
 have hcmp:decide (0<fB (aA n) (aA ⟨#[]⟩))=decide (0<aA n):=by
  rw[decide_eq_decide,show aA ⟨#[]⟩=0 from rfl];unfold fB;split
  ·omega
  ·split<;>omega
 generalize fB (aA n) (aA ⟨#[]⟩)=z at*;cases hr:dM n
 ·rw[hr] at HR;go_enter Tryz.func110,Tryz.ntmps110;go_wp2_with fail;simp only[←hW]
  clear hW;refine HR.out.mono ?_;rintro e w' ⟨rfl,rfl⟩;go_wp2;go_ret;exact⟨rfl,hba⟩
 ·rw[hr] at HR;go_enter Tryz.func110,Tryz.ntmps110;go_wp2_with fail;simp only[←hW]
  clear hW;refine HR.out.mono ?_;rintro e w' ⟨rfl,rfl⟩;go_wp2_with fail;refine HC.out.mono ?_;rintro e w2 ⟨rfl,hb2⟩;go_wp2;go_ret;refine⟨?_,ah hba hb2⟩;rw[←hcmp];rfl
theorem toList_inj {a b:ByteArray} (h:a.toList=b.toList):a=b:=by
 rw[ByteArray.toList_eq,ByteArray.toList_eq] at h;obtain⟨⟨a⟩⟩:=a;obtain⟨⟨b⟩⟩:=b;simp at h;rw[h]
theorem Jw {α:Type} (f:Bool→α) (a b:Ra):
  (if a.neg=b.neg then if a.num.toList=b.num.toList then if a.den.toList=b.den.toList then f true else f false else f false else f false)=f (decide (a=b)):=by
 by_cases h:a=b
 ·subst h;simp
 ·rw[decide_eq_false h];split
  ·split
   ·split
    ·next h1 h2 h3=>
     exfalso;apply h;obtain⟨x,y,z⟩:=a;obtain⟨x',y',z'⟩:=b;simp only at h1 h2 h3;rw[h1,toList_inj h2,toList_inj h3]
    ·rfl
   ·rfl
  ·rfl
def Di (w:World) (b:Nat) (a:Ra):Prop:=
 w.cell? ⟨b,0,none⟩=some (.bool a.neg)∧w.cell? ⟨b,1,none⟩=some (.string a.num)∧w.cell? ⟨b,2,none⟩=some (.string a.den)
theorem Di.zQ {w:World} {b:Nat} {a:Ra} {t:TypeId} (h:aj w b t [.bool a.neg,.string a.num,.string a.den]):Di w b a:=by
 have hc0:=h.cell (i:=0) (by simp);have hc1:=h.cell (i:=1) (by simp);have hc2:=h.cell (i:=2) (by simp);exact⟨hc0,hc1,hc2⟩
theorem sF (a:Ra) (w:World) (hn:a.num.size≤536870912) (hd:a.den.size≤536870912):
  Calls Tryz.prog 66 #[a.v] w fun e w'=>e=.returned (.bool (okR a))∧Below w.heap.size w w':=by
 obtain⟨neg,num,den⟩:=a;obtain⟨W,hW⟩:=zE (w.alloc (.cells #[.bool neg,.string num,.string den] 40));have hba:Below w.heap.size w W:=by rw[hW];exact zB _ _
 have hblk:aj W w.heap.size 40 [.bool neg,.string num,.string den]:=by rw[hW];exact aj.new w _ _
 obtain⟨B,hB⟩:=zE w.heap.size;rw[←hB] at hblk;have hbs:B<W.heap.size:=hblk.lt;have hc:=Di.zQ (a:=⟨neg,num,den⟩) hblk;obtain⟨hc0,hc1,hc2⟩:=hc
 have HK:Hid (∀w' w1:World,(w'.cell? ⟨B,0,none⟩=some (.bool neg)∧w'.cell? ⟨B,1,none⟩=some (.string num)∧w'.cell? ⟨B,2,none⟩=some (.string den)∧Below W.heap.size W w')→Below w'.heap.size w' w1→
   (w1.cell? ⟨B,0,none⟩=some (.bool neg)∧w1.cell? ⟨B,1,none⟩=some (.string num)∧w1.cell? ⟨B,2,none⟩=some (.string den)∧Below W.heap.size W w1)):=by
  rintro w' w1 ⟨h0,h1,h2,hb⟩ hb1;have hlt:B<w'.heap.size:=Nat.lt_of_lt_of_le hbs hb.size;exact⟨(hb1.cell hlt).trans h0,(hb1.cell hlt).trans h1,(hb1.cell hlt).trans h2,ah hb hb1⟩
 have HS:Hid (W.drew.cell? ⟨B,0,none⟩=some (.bool neg)∧W.drew.cell? ⟨B,1,none⟩=some (.string num)∧W.drew.cell? ⟨B,2,none⟩=some (.string den)∧Below W.heap.size W W.drew):=
  ⟨hc0,hc1,hc2,below_drewN (Below.refl _ _) 1⟩
 have HP:=zH (fun w=>NI den w (by simp at hd;omega));have HR:=zH (fun w=>xK num w);simp only at hn hd;have iU:Hid (okR ⟨neg,num,den⟩=(dM den&&decide (0<aA den)&&dM num&&decide (low neg (aA num) (aA den)=⟨neg,num,den⟩))):=rfl;cases hp:(dM den&&decide (0<aA den))
 ·rw[hp] at HP iU;clear hp hblk hc0 hc1 hc2;unfold Ra.v;go_enter Tryz.func66,Tryz.ntmps66;go_wp2_with fail;simp only[←hW,←hB]
  clear hW hB;refine wp_region_noPanic ?_;refine wp_region_held_drew (S:=fun w'=>w'.cell? ⟨B,0,none⟩=some (.bool neg)∧w'.cell? ⟨B,1,none⟩=some (.string num)∧w'.cell? ⟨B,2,none⟩=some (.string den)∧Below W.heap.size W w') (by kernel_rfl) HS.out (fun hHeld=>?_);refine ay 0 ?_;refine ay 1 ?_;refine ay 2 ?_;refine bJ 3 fun K hK=>?_
  go_simp;refine (HP.out _).mono ?_;rintro e w1 ⟨rfl,hb1⟩;go_wp2_with fail;refine aT hK (HK.out _ _ (by assumption) hb1) fun hHeld=>?_
  clear hK K;refine ay 4 ?_;refine bK 5 rfl ?_
  try simp only[Act.put,tk1,tk2,tk3,tk4,aQ,aS]
  refine bK 6 rfl ?_
  try simp only[Act.put,tk1,tk2,tk3,tk4,aQ,aS]
  refine bK 7 rfl ?_
  try simp only[Act.put,tk1,tk2,tk3,tk4,aQ,aS]
  refine ay 8 ?_;refine ay 9 ?_;refine bK 10 rfl ?_
  try simp only[Act.put,tk1,tk2,tk3,tk4,aQ,aS]
  refine bK 11 rfl ?_
  try simp only[Act.put,tk1,tk2,tk3,tk4,aQ,aS]
  refine bK 12 rfl ?_
  try simp only[Act.put,tk1,tk2,tk3,tk4,aQ,aS]
  refine bK 13 rfl ?_
  try simp only[Act.put,tk1,tk2,tk3,tk4,aQ,aS]
  refine bK 14 rfl ?_
  try simp only[Act.put,tk1,tk2,tk3,tk4,aQ,aS]
  refine bK 15 rfl ?_
  try simp only[Act.put,tk1,tk2,tk3,tk4,aQ,aS]
  refine bK 16 rfl ?_
  try simp only[Act.put,tk1,tk2,tk3,tk4,aQ,aS]
  refine bK 17 rfl ?_
  try simp only[Act.put,tk1,tk2,tk3,tk4,aQ,aS]
  refine bK 18 rfl ?_
  try simp only[Act.put,tk1,tk2,tk3,tk4,aQ,aS]
  refine ay 19 ?_;refine ay 20 ?_;refine wpAnyH_done (by kernel_rfl) ?_ _;refine NoPanic.normal ?_;go_wp2;go_ret;exact⟨by rw[iU.out];rfl,ah hba hHeld.2.2.2⟩
 ·rw[hp] at HP iU;cases hr:dM num
  ·rw[hr] at HR iU;clear hr hp hblk hc0 hc1 hc2;unfold Ra.v;go_enter Tryz.func66,Tryz.ntmps66;go_wp2_with fail;simp only[←hW,←hB]
   clear hW hB;refine wp_region_noPanic ?_;refine wp_region_held_drew (S:=fun w'=>w'.cell? ⟨B,0,none⟩=some (.bool neg)∧w'.cell? ⟨B,1,none⟩=some (.string num)∧w'.cell? ⟨B,2,none⟩=some (.string den)∧Below W.heap.size W w') (by kernel_rfl) HS.out (fun hHeld=>?_);refine ay 0 ?_;refine ay 1 ?_;refine ay 2 ?_;refine bJ 3 fun K hK=>?_
   go_simp;refine (HP.out _).mono ?_;rintro e w1 ⟨rfl,hb1⟩;go_wp2_with fail;refine aT hK (HK.out _ _ (by assumption) hb1) fun hHeld=>?_
   clear hK K;refine ay 4 ?_;refine ay 5 ?_;refine ay 6 ?_;refine bJ 7 fun K hK=>?_
   go_simp;refine (HR.out _).mono ?_;rintro e w1 ⟨rfl,rfl⟩;go_wp2_with fail;refine aT hK (by assumption) fun hHeld=>?_
   clear hK K;refine ay 8 ?_;refine ay 9 ?_;refine bK 10 rfl ?_
   try simp only[Act.put,tk1,tk2,tk3,tk4,aQ,aS]
   refine bK 11 rfl ?_
   try simp only[Act.put,tk1,tk2,tk3,tk4,aQ,aS]
   refine bK 12 rfl ?_
   try simp only[Act.put,tk1,tk2,tk3,tk4,aQ,aS]
   refine bK 13 rfl ?_
   try simp only[Act.put,tk1,tk2,tk3,tk4,aQ,aS]
   refine bK 14 rfl ?_
   try simp only[Act.put,tk1,tk2,tk3,tk4,aQ,aS]
   refine bK 15 rfl ?_
   try simp only[Act.put,tk1,tk2,tk3,tk4,aQ,aS]
   refine bK 16 rfl ?_
   try simp only[Act.put,tk1,tk2,tk3,tk4,aQ,aS]
   refine bK 17 rfl ?_
   try simp only[Act.put,tk1,tk2,tk3,tk4,aQ,aS]
   refine bK 18 rfl ?_
   try simp only[Act.put,tk1,tk2,tk3,tk4,aQ,aS]
   refine ay 19 ?_;refine ay 20 ?_;refine wpAnyH_done (by kernel_rfl) ?_ _;refine NoPanic.normal ?_;go_wp2;go_ret;exact⟨by rw[iU.out];rfl,ah hba hHeld.2.2.2⟩
  ·rw[hr] at HR iU;rw[Bool.and_eq_true,decide_eq_true_eq] at hp;have en:=(iO num).1 hr;have ed:=(iO den).1 hp.1;have hvn:=eX num;have hvd:=eX den;obtain⟨K,hK⟩:=zE 536870912;have HL:=zH (fun w=>nX neg (aA num) (aA den) K w (Nat.le_of_eq hK) (dB num K (by rw[hK];exact hn)) (dB den K (by rw[hK];exact hd)) hp.2);clear hK;rw[←en,←ed] at HL;obtain⟨lw,jF⟩:=zF (low neg (aA num) (aA den));rw[jF] at HL iU;obtain⟨ln,lu,ld⟩:=lw;obtain⟨dq,qh⟩:∃d,decide ((⟨ln,lu,ld⟩:Ra)=⟨neg,num,den⟩)=d:=⟨_,rfl⟩
   rw[qh] at iU;have vk:=zH qh;clear qh;clear hr hp hblk hc0 hc1 hc2 en ed hvn hvd jF;unfold Ra.v;go_enter Tryz.func66,Tryz.ntmps66;go_wp2_with fail;simp only[←hW,←hB]
   clear hW hB;refine wp_region_noPanic ?_;refine wp_region_held_drew (S:=fun w'=>w'.cell? ⟨B,0,none⟩=some (.bool neg)∧w'.cell? ⟨B,1,none⟩=some (.string num)∧w'.cell? ⟨B,2,none⟩=some (.string den)∧Below W.heap.size W w') (by kernel_rfl) HS.out (fun hHeld=>?_);refine ay 0 ?_;refine ay 1 ?_;refine ay 2 ?_;refine bJ 3 fun K hK=>?_
   go_simp;refine (HP.out _).mono ?_;rintro e w1 ⟨rfl,hb1⟩;go_wp2_with fail;refine aT hK (HK.out _ _ (by assumption) hb1) fun hHeld=>?_
   clear hK K;refine ay 4 ?_;refine ay 5 ?_;refine ay 6 ?_;refine bJ 7 fun K hK=>?_
   go_simp;refine (HR.out _).mono ?_;rintro e w1 ⟨rfl,rfl⟩;go_wp2_with fail;refine aT hK (by assumption) fun hHeld=>?_
   clear hK K;refine ay 8 ?_;refine ay 9 ?_;refine ay 10 ?_;refine ay 11 ?_;refine ay 12 ?_;refine ay 13 ?_;refine ay 14 ?_;refine ay 15 ?_;refine ay 17 ?_;refine bJ 16 fun K hK=>?_
   go_simp;refine (HL.out _).mono ?_;rintro e w1 ⟨rfl,hb1⟩;simp only[Ra.v]
   go_wp2_with fail;refine aT hK (HK.out _ _ (by assumption) hb1) fun hHeld=>?_
   clear hK K;refine BM 18 (.bool dq) rfl ?_ ?_
   ·intro w hSw;(try dsimp only at hSw);go_simp;rw[←vk.out];exact Jw (fun t=>Result.ok (Next.value (Value.bool t)) w) ⟨ln,lu,ld⟩ ⟨neg,num,den⟩
   try simp only[Act.put,tk1,tk2,tk3,tk4,aQ,aS]
   refine ay 19 ?_;refine ay 20 ?_;refine wpAnyH_done (by kernel_rfl) ?_ _;refine NoPanic.normal ?_;go_wp2;go_ret;exact⟨by rw[iU.out];rfl,ah hba hHeld.2.2.2⟩
def aW (n:Int):Ra:=⟨decide (n<0),aB n.natAbs,aB 1⟩
theorem vw (w:World):Calls Tryz.prog 104 #[.int .i64 1] w fun e w'=>e=.returned (.string (aB 1))∧Below w.heap.size w w':=CW 1 w (by omega) (by omega)
theorem mM (n:Int) (w:World) (h0:-9223372036854775808≤n) (h1:n≤9223372036854775807):
  Calls Tryz.prog 101 #[.int .i64 n] w fun e w'=>e=.returned (aW n).v∧Below w.heap.size w w':=by
 obtain⟨W,hW⟩:=zE (w.alloc (.cells #[.bool false,.string ⟨#[]⟩,.string ⟨#[]⟩] 40));have hba:Below w.heap.size w W:=by rw[hW];exact zB _ _
 have hblk:aj W w.heap.size 40 [.bool false,.string ⟨#[]⟩,.string ⟨#[]⟩]:=by rw[hW];exact aj.new w _ _
 by_cases hn:n<0
 ·have HO:Hid (aW n=⟨true,aB (n+1).natAbs.succ,aB 1⟩):=by
   show _=_;unfold aW;rw[decide_eq_true hn,show n.natAbs=(n+1).natAbs.succ from by omega]
  have HA:=zH (fun w=>Hz (aB (n+1).natAbs) (aB 1) w (Nat.le_trans (aV _ 9 (by omega)) (by omega)) (Nat.le_trans (aV _ 9 (by omega)) (by omega)));rw[aX,aX] at HA;have hneg:IntKind.i64.wrap (-(n+1))= -(n+1):=IntWalk.i64_in _ (by omega);have BP:(-(n+1)).toNat=(n+1).natAbs:=by omega
  go_enter Tryz.func101,Tryz.ntmps101;go_wp2_with fail;simp only[←hW]
  clear hW;refine (CW _ _ (by omega) (by omega)).mono ?_;rintro e w1 ⟨rfl,hb1⟩;go_wp2_with fail;refine (vw _).mono ?_;rintro e w2 ⟨rfl,hb2⟩
  try rw[BP]
  go_wp2_with fail;refine (HA.out _).mono ?_;rintro e w3 ⟨rfl,hb3⟩;go_wp2_with fail;refine (vw _).mono ?_;rintro e w4 ⟨rfl,hb4⟩;have qO:=ah (ah (ah hb1 hb2) hb3) hb4;have hk3:=hblk.below qO hblk.lt;have hc0:=hk3.cell (i:=0) (by decide);have hc1:=hk3.cell (i:=1) (by decide);have hc2:=hk3.cell (i:=2) (by decide);have hf0:=hk3.frozen 0;have hf1:=hk3.frozen 1;have hf2:=hk3.frozen 2;simp only[List.getElem_cons_zero,List.getElem_cons_succ] at hc0 hc1 hc2;have hbw:=ah hba qO;clear hb1 hb2 hb3 hb4 qO;go_wp2;refine bodyPost_ret (v:=.agg #[.bool true,.string (aB ((n+1).natAbs+1)),.string (aB 1)]) (by simp[results,Tryz.results101,go_sem,hc0,hc1,hc2]) rfl ⟨?_,((hbw.setCell (Nat.le_refl _) _).setCell (Nat.le_refl _) _).setCell (Nat.le_refl _) _⟩;rw[HO.out];rfl
 ·have HO:Hid (aW n=⟨false,aB n.toNat,aB 1⟩):=by
   show _=_;unfold aW;rw[decide_eq_false hn,show n.natAbs=n.toNat from by omega]
  go_enter Tryz.func101,Tryz.ntmps101;go_wp2_with fail;simp only[←hW]
  clear hW;refine (CW _ _ (by omega) (by omega)).mono ?_;rintro e w1 ⟨rfl,hb1⟩;go_wp2_with fail;refine (vw _).mono ?_;rintro e w2 ⟨rfl,hb2⟩;have qO:=ah hb1 hb2;have hk3:=hblk.below qO hblk.lt;have hc0:=hk3.cell (i:=0) (by decide);have hc1:=hk3.cell (i:=1) (by decide);have hc2:=hk3.cell (i:=2) (by decide);have hf0:=hk3.frozen 0;have hf1:=hk3.frozen 1;have hf2:=hk3.frozen 2;simp only[List.getElem_cons_zero,List.getElem_cons_succ] at hc0 hc1 hc2;have hbw:=ah hba qO;clear hb1 hb2 qO;go_wp2;refine bodyPost_ret (v:=.agg #[.bool false,.string (aB n.toNat),.string (aB 1)]) (by simp[results,Tryz.results101,go_sem,hc0,hc1,hc2]) rfl ⟨?_,((hbw.setCell (Nat.le_refl _) _).setCell (Nat.le_refl _) _).setCell (Nat.le_refl _) _⟩;rw[HO.out];rfl
def dN (a:Ra):Ra:=if okR a then a else aW 0
structure Two (w:World) (t1 t2:TypeId) (l1 l2:List Value) (W:World):Prop where
 one:aj W w.heap.size t1 l1
 two:aj W (w.heap.size+1) t2 l2
 below:Below w.heap.size w W
 size:W.heap.size=w.heap.size+2
theorem Two.new (w:World) (t1 t2:TypeId) (cs1 cs2:Array Value):Two w t1 t2 cs1.toList cs2.toList ((w.alloc (.cells cs1 t1)).alloc (.cells cs2 t2)):=by
 have h1:(w.alloc (.cells cs1 t1)).heap.size=w.heap.size+1:=by show (w.heap.push _).size=_;rw[Array.size_push]
 have hb1:Below w.heap.size w (w.alloc (.cells cs1 t1)):=(Below.refl _ _).alloc (Nat.le_refl _) _;have hb2:Below (w.alloc (.cells cs1 t1)).heap.size (w.alloc (.cells cs1 t1)) ((w.alloc (.cells cs1 t1)).alloc (.cells cs2 t2)):=(Below.refl _ _).alloc (Nat.le_refl _) _;have k1:=aj.new w t1 cs1;have k2:=aj.new (w.alloc (.cells cs1 t1)) t2 cs2;rw[h1] at k2;exact⟨k1.below hb2 k1.lt,k2,ah hb1 hb2,by show ((w.alloc (.cells cs1 t1)).heap.push _).size=_;rw[Array.size_push,h1]⟩
theorem pK (a:Ra) (w:World) (hn:a.num.size≤536870912) (hd:a.den.size≤536870912):
  Calls Tryz.prog 102 #[a.v] w fun e w'=>e=.returned (dN a).v∧Below w.heap.size w w':=by
 have HR:=zH (fun w=>sF a w hn hd);have HV:Hid (dN a=if okR a then a else aW 0):=rfl;obtain⟨o,ho⟩:=zF (okR a);rw[ho] at HR HV;clear ho hn hd;generalize dN a=va at*;obtain⟨neg,num,den⟩:=a;unfold Ra.v at HR⊢;obtain⟨W,hW⟩:=zE ((w.alloc (.cells #[.bool neg,.string num,.string den] 40)).alloc (.cells #[.bool false,.string ⟨#[]⟩,.string ⟨#[]⟩] 40));have jY:=Two.new w 40 40 #[.bool neg,.string num,.string den] #[.bool false,.string ⟨#[]⟩,.string ⟨#[]⟩];rw[←hW] at jY;obtain⟨hblk1,hblk,hbw,hsz⟩:=jY;have hl1:=hblk1.lt;have hl2:=hblk.lt;obtain⟨hd0,hd1,hd2⟩:=Di.zQ (a:=⟨neg,num,den⟩) hblk1;simp only at hd0 hd1 hd2;obtain⟨B,hB⟩:=zE w.heap.size;rw[←hB] at hd0 hd1 hd2 hblk hbw hsz hl1 hl2 hblk1;have HB:=zH hB
 have hr:∀w1,Below W.heap.size W w1→w1.cell? ⟨B,0,none⟩=some (.bool neg)∧w1.cell? ⟨B,1,none⟩=some (.string num)∧w1.cell? ⟨B,2,none⟩=some (.string den):=fun w1 hb=>by
  obtain⟨h0,h1,h2⟩:=Di.zQ (a:=⟨neg,num,den⟩) (hblk1.below hb hl1);exact⟨h0,h1,h2⟩
 have qw:=zH hr;clear hr;cases o
 all_goals
  go_enter Tryz.func102,Tryz.ntmps102;go_wp2_with fail;simp only[←hW,←hB]
  clear hW hB;refine (HR.out _).mono ?_;rintro e w1 ⟨rfl,hb1⟩;obtain⟨hd0,hd1,hd2⟩:=qw.out w1 hb1;have hk1:=hblk.below hb1 hl2
 ·go_wp2_with fail;refine (mM 0 _ (by omega) (by omega)).mono ?_;rintro e w2 ⟨rfl,hb2⟩;have hk2:=hk1.below hb2 hk1.lt;have hc0:=hk2.cell (i:=0) (by decide);have hc1:=hk2.cell (i:=1) (by decide);have hc2:=hk2.cell (i:=2) (by decide);have hf0:=hk2.frozen 0;have hf1:=hk2.frozen 1;have hf2:=hk2.frozen 2;simp only[List.getElem_cons_zero,List.getElem_cons_succ] at hc0 hc1 hc2;simp only[Ra.v,aW]
  go_wp2;refine bodyPost_ret (v:=.agg #[.bool false,.string (aB 0),.string (aB 1)]) (by simp[results,Tryz.results102,go_sem,hc0,hc1,hc2]) rfl ⟨?_,?_⟩
  ·rw[HV.out];rfl
  ·have h1:Below B w w2:=hbw.trans ((ah hb1 hb2).mono (by omega));rw[←HB.out];exact ((h1.setCell (Nat.le_succ _) _).setCell (Nat.le_succ _) _).setCell (Nat.le_succ _) _
 ·have hc0:=hk1.cell (i:=0) (by decide);have hc1:=hk1.cell (i:=1) (by decide);have hc2:=hk1.cell (i:=2) (by decide);have hf0:=hk1.frozen 0;have hf1:=hk1.frozen 1;have hf2:=hk1.frozen 2;simp only[List.getElem_cons_zero,List.getElem_cons_succ] at hc0 hc1 hc2;go_wp2;refine bodyPost_ret (v:=.agg #[.bool neg,.string num,.string den]) (by simp[results,Tryz.results102,go_sem,hc0,hc1,hc2]) rfl ⟨?_,?_⟩
  ·rw[HV.out];rfl
  ·have h1:Below B w w1:=hbw.trans (hb1.mono (by omega));rw[←HB.out];exact ((h1.setCell (Nat.le_succ _) _).setCell (Nat.le_succ _) _).setCell (Nat.le_succ _) _
def Ii (neg:Bool) (num den:ByteArray):Ra × Bool:=
 if dM den&&decide (0<aA den)&&dM num then (low neg (aA num) (aA den),true) else (⟨false,⟨#[]⟩,⟨#[]⟩⟩,false)
theorem VW (neg:Bool) (num den:ByteArray) (w:World) (hn:num.size≤536870912) (hd:den.size≤536870912):
  Calls Tryz.prog 178 #[.bool neg,.string num,.string den] w fun e w'=>e=.returned (.tuple #[(Ii neg num den).1.v,.bool (Ii neg num den).2])∧Below w.heap.size w w':=by
 obtain⟨W,hW⟩:=zE (w.alloc (.cells #[.bool false,.string ⟨#[]⟩,.string ⟨#[]⟩] 40));have hba:Below w.heap.size w W:=by rw[hW];exact zB _ _
 have hblk:aj W w.heap.size 40 [.bool false,.string ⟨#[]⟩,.string ⟨#[]⟩]:=by rw[hW];exact aj.new w _ _
 have HP:=zH (fun w=>NI den w (by omega));have HR:=zH (fun w=>xK num w);have HM:Hid (Ii neg num den=if dM den&&decide (0<aA den)&&dM num then (low neg (aA num) (aA den),true) else (⟨false,⟨#[]⟩,⟨#[]⟩⟩,false)):=rfl;cases hp:(dM den&&decide (0<aA den))
 ·rw[hp] at HP HM;clear hp;go_enter Tryz.func178,Tryz.ntmps178;go_wp2_with fail;simp only[←hW]
  clear hW;refine (HP.out _).mono ?_;rintro e w1 ⟨rfl,hb1⟩;have hk3:=hblk.below hb1 hblk.lt;have hc0:=hk3.cell (i:=0) (by decide);have hc1:=hk3.cell (i:=1) (by decide);have hc2:=hk3.cell (i:=2) (by decide);have hf0:=hk3.frozen 0;have hf1:=hk3.frozen 1;have hf2:=hk3.frozen 2;simp only[List.getElem_cons_zero,List.getElem_cons_succ] at hc0 hc1 hc2;have hbw:=ah hba hb1;go_wp2;refine bodyPost_ret (v:=.tuple #[.agg #[.bool false,.string ⟨#[]⟩,.string ⟨#[]⟩],.bool false]) (by simp[results,Tryz.results178,go_sem,hc0,hc1,hc2]) rfl ⟨?_,((hbw.setCell (Nat.le_refl _) _).setCell (Nat.le_refl _) _).setCell (Nat.le_refl _) _⟩;rw[HM.out];rfl
 ·rw[hp] at HP HM;cases hr:dM num
  ·rw[hr] at HR HM;clear hp hr;go_enter Tryz.func178,Tryz.ntmps178;go_wp2_with fail;simp only[←hW]
   clear hW;refine (HP.out _).mono ?_;rintro e w1 ⟨rfl,hb1⟩;go_wp2_with fail;refine (HR.out _).mono ?_;rintro e w2 ⟨rfl,rfl⟩;have hk3:=hblk.below hb1 hblk.lt;have hc0:=hk3.cell (i:=0) (by decide);have hc1:=hk3.cell (i:=1) (by decide);have hc2:=hk3.cell (i:=2) (by decide);have hf0:=hk3.frozen 0;have hf1:=hk3.frozen 1;have hf2:=hk3.frozen 2;simp only[List.getElem_cons_zero,List.getElem_cons_succ] at hc0 hc1 hc2;have hbw:=ah hba hb1;go_wp2;refine bodyPost_ret (v:=.tuple #[.agg #[.bool false,.string ⟨#[]⟩,.string ⟨#[]⟩],.bool false]) (by simp[results,Tryz.results178,go_sem,hc0,hc1,hc2]) rfl ⟨?_,((hbw.setCell (Nat.le_refl _) _).setCell (Nat.le_refl _) _).setCell (Nat.le_refl _) _⟩;rw[HM.out];rfl
  ·rw[hr] at HR HM;rw[Bool.and_eq_true,decide_eq_true_eq] at hp;have en:=(iO num).1 hr;have ed:=(iO den).1 hp.1;have hvn:=eX num;have hvd:=eX den;obtain⟨K,hK⟩:=zE 536870912;have HL:=zH (fun w=>nX neg (aA num) (aA den) K w (Nat.le_of_eq hK) (dB num K (by rw[hK];exact hn)) (dB den K (by rw[hK];exact hd)) hp.2);clear hK;rw[←en,←ed] at HL;obtain⟨lw,jF⟩:=zF (low neg (aA num) (aA den));rw[jF] at HL HM;obtain⟨ln,lu,ld⟩:=lw;clear hr hp en ed hvn hvd jF;go_enter Tryz.func178,Tryz.ntmps178;go_wp2_with fail;simp only[←hW]
   clear hW;refine (HP.out _).mono ?_;rintro e w1 ⟨rfl,hb1⟩;go_wp2_with fail;refine (HR.out _).mono ?_;rintro e w2 ⟨rfl,rfl⟩;go_wp2_with fail;refine (HL.out _).mono ?_;rintro e w3 ⟨rfl,hb3⟩;have Dh:=ah hb1 hb3;have hk3:=hblk.below Dh hblk.lt;have hc0:=hk3.cell (i:=0) (by decide);have hc1:=hk3.cell (i:=1) (by decide);have hc2:=hk3.cell (i:=2) (by decide);have hf0:=hk3.frozen 0;have hf1:=hk3.frozen 1;have hf2:=hk3.frozen 2;simp only[List.getElem_cons_zero,List.getElem_cons_succ] at hc0 hc1 hc2;have hbw:=ah hba Dh;simp only[Ra.v]
   go_wp2;refine bodyPost_ret (v:=.tuple #[.agg #[.bool ln,.string lu,.string ld],.bool true]) (by simp[results,Tryz.results178,go_sem,hc0,hc1,hc2]) rfl ⟨?_,((hbw.setCell (Nat.le_refl _) _).setCell (Nat.le_refl _) _).setCell (Nat.le_refl _) _⟩;rw[HM.out];rfl
def dV (a:Ra):Int:=if okR a then (if a=aW 0 then 0 else if a.neg then-1 else 1) else 0
theorem vC (a:Ra) (w:World) (hn:a.num.size≤536870912) (hd:a.den.size≤536870912):
  Calls Tryz.prog 67 #[a.v] w fun e w'=>e=.returned (.int .i64 (dV a))∧Below w.heap.size w w':=by
 have HR:=zH (fun w=>sF a w hn hd);have HV:Hid (dV a=if okR a then (if a=aW 0 then 0 else if a.neg then-1 else 1) else 0):=rfl;obtain⟨o,ho⟩:=zF (okR a);rw[ho] at HR HV;clear ho hn hd;obtain⟨z,hz⟩:=zF (dV a);rw[hz] at HV⊢;clear hz;obtain⟨neg,num,den⟩:=a;obtain⟨dq,qh⟩:∃d,decide ((⟨neg,num,den⟩:Ra)=aW 0)=d:=⟨_,rfl⟩
 have vk:=zH qh;clear qh
 have HZ:Hid (z=if o then (if dq then 0 else if neg then-1 else 1) else 0):=by
  show _=_;have h:=HV.out;rw[h,←vk.out];simp
 clear HV;unfold Ra.v at HR⊢;obtain⟨W,hW⟩:=zE (w.alloc (.cells #[.bool neg,.string num,.string den] 40));have hba:Below w.heap.size w W:=by rw[hW];exact zB _ _
 have hblk:aj W w.heap.size 40 [.bool neg,.string num,.string den]:=by rw[hW];exact aj.new w _ _
 obtain⟨B,hB⟩:=zE w.heap.size;rw[←hB] at hblk;have hbs:B<W.heap.size:=hblk.lt;have hc:=Di.zQ (a:=⟨neg,num,den⟩) hblk;obtain⟨hc0,hc1,hc2⟩:=hc
 have HK:Hid (∀w' w1:World,(w'.cell? ⟨B,0,none⟩=some (.bool neg)∧w'.cell? ⟨B,1,none⟩=some (.string num)∧w'.cell? ⟨B,2,none⟩=some (.string den)∧Below W.heap.size W w')→Below w'.heap.size w' w1→
   (w1.cell? ⟨B,0,none⟩=some (.bool neg)∧w1.cell? ⟨B,1,none⟩=some (.string num)∧w1.cell? ⟨B,2,none⟩=some (.string den)∧Below W.heap.size W w1)):=by
  rintro w' w1 ⟨h0,h1,h2,hb⟩ hb1;have hlt:B<w'.heap.size:=Nat.lt_of_lt_of_le hbs hb.size;exact⟨(hb1.cell hlt).trans h0,(hb1.cell hlt).trans h1,(hb1.cell hlt).trans h2,ah hb hb1⟩
 have HS:Hid (W.drew.cell? ⟨B,0,none⟩=some (.bool neg)∧W.drew.cell? ⟨B,1,none⟩=some (.string num)∧W.drew.cell? ⟨B,2,none⟩=some (.string den)∧Below W.heap.size W W.drew):=
  ⟨hc0,hc1,hc2,below_drewN (Below.refl _ _) 1⟩
 clear hblk hc0 hc1 hc2;cases o
 ·go_enter Tryz.func67,Tryz.ntmps67;go_wp2_with fail;simp only[←hW,←hB]
  clear hW hB;refine wp_region_noPanic ?_;refine wp_region_held_drew (S:=fun w'=>w'.cell? ⟨B,0,none⟩=some (.bool neg)∧w'.cell? ⟨B,1,none⟩=some (.string num)∧w'.cell? ⟨B,2,none⟩=some (.string den)∧Below W.heap.size W w') (by kernel_rfl) HS.out (fun hHeld=>?_);refine ay 0 ?_;refine bJ 1 fun K hK=>?_
  go_simp;refine (HR.out _).mono ?_;rintro e w1 ⟨rfl,hb1⟩;go_wp2_with fail;refine aT hK (HK.out _ _ (by assumption) hb1) fun hHeld=>?_
  clear hK K;refine ay 2 ?_;refine ay 3 ?_;refine bK 4 rfl ?_
  try simp only[Act.put,tk1,tk2,tk3,tk4,aQ,aS]
  refine bK 5 rfl ?_
  try simp only[Act.put,tk1,tk2,tk3,tk4,aQ,aS]
  refine bK 6 rfl ?_
  try simp only[Act.put,tk1,tk2,tk3,tk4,aQ,aS]
  refine ay 7 ?_;refine ay 8 ?_;refine wpAnyH_done (by kernel_rfl) ?_ _;refine NoPanic.normal ?_;go_wp2;go_ret;exact⟨by rw[HZ.out];rfl,ah hba hHeld.2.2.2⟩
 ·go_enter Tryz.func67,Tryz.ntmps67;go_wp2_with fail;simp only[←hW,←hB]
  clear hW hB;refine wp_region_noPanic ?_;refine wp_region_held_drew (S:=fun w'=>w'.cell? ⟨B,0,none⟩=some (.bool neg)∧w'.cell? ⟨B,1,none⟩=some (.string num)∧w'.cell? ⟨B,2,none⟩=some (.string den)∧Below W.heap.size W w') (by kernel_rfl) HS.out (fun hHeld=>?_);refine ay 0 ?_;refine bJ 1 fun K hK=>?_
  go_simp;refine (HR.out _).mono ?_;rintro e w1 ⟨rfl,hb1⟩;go_wp2_with fail;refine aT hK (HK.out _ _ (by assumption) hb1) fun hHeld=>?_
  clear hK K;refine ay 2 ?_;refine ay 3 ?_;refine ay 4 ?_;refine bJ 5 fun K hK=>?_
  go_simp;refine (mM 0 _ (by omega) (by omega)).mono ?_;rintro e w1 ⟨rfl,hb1⟩;simp only[Ra.v]
  go_wp2_with fail;refine aT hK (HK.out _ _ (by assumption) hb1) fun hHeld=>?_
  clear hK K;refine BM 6 (.bool dq) rfl ?_ ?_
  ·intro w hSw;(try dsimp only at hSw);go_simp;rw[←vk.out];exact Jw (fun t=>Result.ok (Next.value (Value.bool t)) w) ⟨neg,num,den⟩ (aW 0)
  try simp only[Act.put,tk1,tk2,tk3,tk4,aQ,aS]
  refine ay 7 ?_;refine ay 8 ?_;refine wpAnyH_done (by kernel_rfl) ?_ _;refine NoPanic.normal ?_;obtain⟨hd0,hd1,hd2,hd3⟩:=hHeld;have HH:=zH hd3;clear hd3;cases dq
  ·cases neg
   ·go_wp2;go_ret;exact⟨by rw[HZ.out];rfl,ah hba HH.out⟩
   ·go_wp2;go_ret;exact⟨by rw[HZ.out];rfl,ah hba HH.out⟩
  ·go_wp2;go_ret;exact⟨by rw[HZ.out];rfl,ah hba HH.out⟩
def aZ (a:Ra):ByteArray:=
 let s:=if (dN a).neg then ⟨#[45]⟩++iT (aA (dN a).num) else iT (aA (dN a).num)
 if (dN a).den=aB 1 then s else s++(⟨#[47]⟩++iT (aA (dN a).den))
theorem beq_toList (a b:ByteArray):(a.toList==b.toList)=decide (a=b):=by
 rw[Bool.eq_iff_iff,beq_iff_eq,decide_eq_true_iff];exact⟨toList_inj,fun h=>by rw[h]⟩
theorem VX (n K:Nat) (hK:0<K) (h:n<256 ^ K):(iT n).size≤3*K:=Ih n K hK h
theorem pO (s:ByteArray) (h:s.size≤1048576):(iT (aA s)).size≤3145728:=by
 obtain⟨K,hK⟩:=zE 1048576;rw[←hK] at h;have:=VX (aA s) K (by omega) (dB s K h);omega
theorem Dj (a:Ra) (K:Nat) (hK:0<K) (hn:a.num.size≤K) (hd:a.den.size≤K):(dN a).num.size≤K∧(dN a).den.size≤K:=by
 unfold dN;split
 ·exact⟨hn,hd⟩
 ·exact⟨Nat.zero_le _,hK⟩
theorem jG (a:Ra) (w:World) (hL:Laid w) (hn:a.num.size≤1048576) (hd:a.den.size≤1048576):
  Calls Tryz.prog 50 #[a.v] w fun e w'=>e=.returned (.string (aZ a))∧Below w.heap.size w w':=by
 obtain⟨hvn,hvd⟩:=Dj a 1048576 (by omega) hn hd;have HR:=zH (fun w=>pK a w (by omega) (by omega))
 have HT:Hid (aZ a=(let s:=if (dN a).neg then ⟨#[45]⟩++iT (aA (dN a).num) else iT (aA (dN a).num)
  if (dN a).den=aB 1 then s else s++(⟨#[47]⟩++iT (aA (dN a).den)))):=rfl
 generalize aZ a=tx at*;obtain⟨va,hva⟩:=zF (dN a);rw[hva] at HR HT hvn hvd;clear hva hn hd;obtain⟨vn,vu,vd⟩:=va;have zS:=zH (fun w h=>Fp vu w h hvn);have QT:=zH (fun w h=>Fp vd w h hvd);have hs1:(iT (aA vu)).size≤3145728:=pO vu hvn;have hs2:(iT (aA vd)).size≤3145728:=pO vd hvd;obtain⟨tn,htn⟩:∃t,iT (aA vu)=t:=⟨_,rfl⟩
 obtain⟨td,htd⟩:∃t,iT (aA vd)=t:=⟨_,rfl⟩
 simp only at HT;rw[htn] at hs1 zS HT;rw[htd] at hs2 QT HT;clear htn htd hvn hvd;obtain⟨de,hde⟩:∃d,decide (vd=aB 1)=d:=⟨_,rfl⟩
 have Dk:=zH hde;clear hde;obtain⟨neg,num,den⟩:=a;unfold Ra.v at HR⊢;obtain⟨W,hW⟩:=zE (w.alloc (.cells #[.bool neg,.string num,.string den] 40));have hba:Below w.heap.size w W:=by rw[hW];exact zB _ _
 have hblk:aj W w.heap.size 40 [.bool neg,.string num,.string den]:=by rw[hW];exact aj.new w _ _
 obtain⟨B,hB⟩:=zE w.heap.size;have HB:=zH hB;rw[←hB] at hblk hba;have hbs:B<W.heap.size:=hblk.lt;have HL:=zH hL;clear hL;cases vn
 ·go_enter Tryz.func50,Tryz.ntmps50;go_wp2_with fail;simp only[←hW,←hB]
  clear hW hB;refine (HR.out _).mono ?_;rintro e w1 ⟨rfl,hb1⟩;have hk1:=hblk.below hb1 hbs;have hc0:=hk1.cell (i:=0) (by simp);have hc1:=hk1.cell (i:=1) (by simp);have hc2:=hk1.cell (i:=2) (by simp);have hf0:=hk1.frozen 0;have hf1:=hk1.frozen 1;have hf2:=hk1.frozen 2;simp only[List.getElem_cons_zero,List.getElem_cons_succ] at hc0 hc1 hc2;go_wp2_with fail;have hk2:=((hk1.set 0 (.bool false)).set 1 (.string vu)).set 2 (.string vd);simp only[List.set_cons_zero,List.set_cons_succ] at hk2;have hb2:=(((hba.trans (hb1.mono (by omega))).setCell (show B≤(⟨B,0,none⟩:Addr).block from Nat.le_refl _) (.bool false)).setCell (show B≤(⟨B,1,none⟩:Addr).block from Nat.le_refl _) (.string vu)).setCell (show B≤(⟨B,2,none⟩:Addr).block from Nat.le_refl _) (.string vd);generalize ((w1.setCell ⟨B,0,none⟩ (.bool false)).setCell ⟨B,1,none⟩ (.string vu)).setCell ⟨B,2,none⟩ (.string vd)=w2 at*;clear hc0 hc1 hc2 hf0 hf1 hf2 hk1 hb1;have hl2:=HL.out.below (by rw[←HB.out];exact hb2);refine (zS.out _ hl2).mono ?_;rintro e w3 ⟨rfl,hb3⟩;have hk3:=hk2.below hb3 hk2.lt;have hl3:=hl2.below hb3;have hbw3:Below B w w3:=hb2.trans (hb3.mono (Nat.le_of_lt hk2.lt));have F5:B<w3.heap.size:=hk3.lt;have Ij:=zH hl3;have bF:=zH hbw3;clear hk2 hb2 hl2 hb3 hl3 hbw3 hbs;obtain⟨hc0,hc1,hc2⟩:=Di.zQ (a:=⟨false,vu,vd⟩) hk3;simp only at hc0 hc1 hc2
  have HK:Hid (∀w' w1:World,(w'.cell? ⟨B,0,none⟩=some (.bool false)∧w'.cell? ⟨B,1,none⟩=some (.string vu)∧w'.cell? ⟨B,2,none⟩=some (.string vd)∧Below w3.heap.size w3 w')→Below w'.heap.size w' w1→
    (w1.cell? ⟨B,0,none⟩=some (.bool false)∧w1.cell? ⟨B,1,none⟩=some (.string vu)∧w1.cell? ⟨B,2,none⟩=some (.string vd)∧Below w3.heap.size w3 w1)):=by
   rintro w' w1 ⟨h0,h1,h2,hb⟩ hb1;have hlt:B<w'.heap.size:=Nat.lt_of_lt_of_le F5 hb.size;exact⟨(hb1.cell hlt).trans h0,(hb1.cell hlt).trans h1,(hb1.cell hlt).trans h2,ah hb hb1⟩
  have HS:Hid (w3.drew.cell? ⟨B,0,none⟩=some (.bool false)∧w3.drew.cell? ⟨B,1,none⟩=some (.string vu)∧w3.drew.cell? ⟨B,2,none⟩=some (.string vd)∧Below w3.heap.size w3 w3.drew):=
   ⟨hc0,hc1,hc2,below_drewN (Below.refl _ _) 1⟩
  clear hk3;go_wp2_with fail;clear hc0 hc1 hc2;refine wp_region_noPanic ?_;refine wp_region_held_drew (S:=fun w'=>w'.cell? ⟨B,0,none⟩=some (.bool false)∧w'.cell? ⟨B,1,none⟩=some (.string vu)∧w'.cell? ⟨B,2,none⟩=some (.string vd)∧Below w3.heap.size w3 w') (by kernel_rfl) HS.out (fun hHeld=>?_);refine ay 0 ?_;refine ay 1 ?_;refine bJ 2 fun K hK=>?_
  go_simp;refine (vw _).mono ?_;rintro e w1 ⟨rfl,hb1⟩;go_wp2_with fail;refine aT hK (HK.out _ _ (by assumption) hb1) fun hHeld=>?_
  clear hK K;refine BM 3 (.bool (!de)) rfl ?_ ?_
  ·intro w hSw;(try dsimp only at hSw);go_simp;rw[←Dk.out];exact beq_toList _ _
  try simp only[Act.put,tk1,tk2,tk3,tk4,aQ,aS]
  refine wpAnyH_done (by kernel_rfl) ?_ _;refine NoPanic.normal ?_;obtain⟨hd0,hd1,hd2,hd3⟩:=hHeld;have HH:=zH hd3;clear hd3;cases de
  ·go_wp2_with fail;refine (QT.out _ (Ij.out.below HH.out)).mono ?_;rintro e w5 ⟨rfl,hb5⟩;go_wp2;go_ret;refine⟨?_,?_⟩
   ·have h:=HT.out;rw[if_neg (of_decide_eq_false Dk.out)] at h;rw[h];rfl
   ·have h:=bF.out.trans ((ah HH.out hb5).mono (Nat.le_of_lt F5));rw[←HB.out];exact h
  ·go_wp2;go_ret;refine⟨?_,?_⟩
   ·have h:=HT.out;rw[if_pos (of_decide_eq_true Dk.out)] at h;rw[h];rfl
   ·have h:=bF.out.trans (HH.out.mono (Nat.le_of_lt F5));rw[←HB.out];exact h
 ·go_enter Tryz.func50,Tryz.ntmps50;go_wp2_with fail;simp only[←hW,←hB]
  clear hW hB;refine (HR.out _).mono ?_;rintro e w1 ⟨rfl,hb1⟩;have hk1:=hblk.below hb1 hbs;have hc0:=hk1.cell (i:=0) (by simp);have hc1:=hk1.cell (i:=1) (by simp);have hc2:=hk1.cell (i:=2) (by simp);have hf0:=hk1.frozen 0;have hf1:=hk1.frozen 1;have hf2:=hk1.frozen 2;simp only[List.getElem_cons_zero,List.getElem_cons_succ] at hc0 hc1 hc2;go_wp2_with fail;have hk2:=((hk1.set 0 (.bool true)).set 1 (.string vu)).set 2 (.string vd);simp only[List.set_cons_zero,List.set_cons_succ] at hk2;have hb2:=(((hba.trans (hb1.mono (by omega))).setCell (show B≤(⟨B,0,none⟩:Addr).block from Nat.le_refl _) (.bool true)).setCell (show B≤(⟨B,1,none⟩:Addr).block from Nat.le_refl _) (.string vu)).setCell (show B≤(⟨B,2,none⟩:Addr).block from Nat.le_refl _) (.string vd);generalize ((w1.setCell ⟨B,0,none⟩ (.bool true)).setCell ⟨B,1,none⟩ (.string vu)).setCell ⟨B,2,none⟩ (.string vd)=w2 at*;clear hc0 hc1 hc2 hf0 hf1 hf2 hk1 hb1;have hl2:=HL.out.below (by rw[←HB.out];exact hb2);refine (zS.out _ hl2).mono ?_;rintro e w3 ⟨rfl,hb3⟩;have hk3:=hk2.below hb3 hk2.lt;have hl3:=hl2.below hb3;have hbw3:Below B w w3:=hb2.trans (hb3.mono (Nat.le_of_lt hk2.lt));have F5:B<w3.heap.size:=hk3.lt;have Ij:=zH hl3;have bF:=zH hbw3;clear hk2 hb2 hl2 hb3 hl3 hbw3 hbs;obtain⟨hc0,hc1,hc2⟩:=Di.zQ (a:=⟨true,vu,vd⟩) hk3;simp only at hc0 hc1 hc2
  have HK:Hid (∀w' w1:World,(w'.cell? ⟨B,0,none⟩=some (.bool true)∧w'.cell? ⟨B,1,none⟩=some (.string vu)∧w'.cell? ⟨B,2,none⟩=some (.string vd)∧Below w3.heap.size w3 w')→Below w'.heap.size w' w1→
    (w1.cell? ⟨B,0,none⟩=some (.bool true)∧w1.cell? ⟨B,1,none⟩=some (.string vu)∧w1.cell? ⟨B,2,none⟩=some (.string vd)∧Below w3.heap.size w3 w1)):=by
   rintro w' w1 ⟨h0,h1,h2,hb⟩ hb1;have hlt:B<w'.heap.size:=Nat.lt_of_lt_of_le F5 hb.size;exact⟨(hb1.cell hlt).trans h0,(hb1.cell hlt).trans h1,(hb1.cell hlt).trans h2,ah hb hb1⟩
  have HS:Hid (w3.drew.cell? ⟨B,0,none⟩=some (.bool true)∧w3.drew.cell? ⟨B,1,none⟩=some (.string vu)∧w3.drew.cell? ⟨B,2,none⟩=some (.string vd)∧Below w3.heap.size w3 w3.drew):=
   ⟨hc0,hc1,hc2,below_drewN (Below.refl _ _) 1⟩
  clear hk3;go_wp2_with fail;clear hc0 hc1 hc2;refine wp_region_noPanic ?_;refine wp_region_held_drew (S:=fun w'=>w'.cell? ⟨B,0,none⟩=some (.bool true)∧w'.cell? ⟨B,1,none⟩=some (.string vu)∧w'.cell? ⟨B,2,none⟩=some (.string vd)∧Below w3.heap.size w3 w') (by kernel_rfl) HS.out (fun hHeld=>?_);refine ay 0 ?_;refine ay 1 ?_;refine bJ 2 fun K hK=>?_
  go_simp;refine (vw _).mono ?_;rintro e w1 ⟨rfl,hb1⟩;go_wp2_with fail;refine aT hK (HK.out _ _ (by assumption) hb1) fun hHeld=>?_
  clear hK K;refine BM 3 (.bool (!de)) rfl ?_ ?_
  ·intro w hSw;(try dsimp only at hSw);go_simp;rw[←Dk.out];exact beq_toList _ _
  try simp only[Act.put,tk1,tk2,tk3,tk4,aQ,aS]
  refine wpAnyH_done (by kernel_rfl) ?_ _;refine NoPanic.normal ?_;obtain⟨hd0,hd1,hd2,hd3⟩:=hHeld;have HH:=zH hd3;clear hd3;cases de
  ·go_wp2_with fail;refine (QT.out _ (Ij.out.below HH.out)).mono ?_;rintro e w5 ⟨rfl,hb5⟩;go_wp2;go_ret;refine⟨?_,?_⟩
   ·have h:=HT.out;rw[if_neg (of_decide_eq_false Dk.out)] at h;rw[h];rfl
   ·have h:=bF.out.trans ((ah HH.out hb5).mono (Nat.le_of_lt F5));rw[←HB.out];exact h
  ·go_wp2;go_ret;refine⟨?_,?_⟩
   ·have h:=HT.out;rw[if_pos (of_decide_eq_true Dk.out)] at h;rw[h];rfl
   ·have h:=bF.out.trans (HH.out.mono (Nat.le_of_lt F5));rw[←HB.out];exact h
def AL (s:List UInt8):Bool × List UInt8 × List UInt8:=
 let c:=Lib.cut (Lib.trimPrefix s [45]) [47]
 (Lib.hasPrefix s [45],c.1,if c.2.2 then c.2.1 else [49])
def fM (s:ByteArray):Ra × Bool:=
 let c:=AL s.data.toList
 let n:=gK c.2.1
 let d:=gK c.2.2
 let m:=Ii c.1 n.1 d.1
 if n.2&&d.2&&m.2&&decide (aZ m.1=s) then (m.1,true) else (⟨false,⟨#[]⟩,⟨#[]⟩⟩,false)
theorem zT (s p:List UInt8):(Lib.trimPrefix s p).length≤s.length:=by
 unfold Lib.trimPrefix;split
 ·simp
 ·exact Nat.le_refl _
theorem QU (s p:List UInt8):(Lib.cut s p).1.length≤s.length∧(Lib.cut s p).2.1.length≤s.length:=by
 unfold Lib.cut;split<;>simp<;>omega
theorem qJ (l:List UInt8):(gK l).1.size≤l.length:=by
 unfold gK;split
 ·next h=>
  simp only[uj,Bool.and_eq_true] at h;refine aV _ _ (Nat.lt_of_lt_of_le (C9 l h.2) (Nat.pow_le_pow_left (by omega) _))
 ·show 0≤_;omega
theorem xU (neg:Bool) (n d K:Nat) (hn:n<256 ^ K) (hd:d<256 ^ K):(low neg n d).num.size≤K∧(low neg n d).den.size≤K:=
 ⟨aV _ _ (Nat.lt_of_le_of_lt (Nat.div_le_self _ _) hn),aV _ _ (Nat.lt_of_le_of_lt (Nat.div_le_self _ _) hd)⟩
theorem NJ (neg:Bool) (n d:ByteArray) (K:Nat) (hn:n.size≤K) (hd:d.size≤K):(Ii neg n d).1.num.size≤K∧(Ii neg n d).1.den.size≤K:=by
 unfold Ii;split
 ·exact xU _ _ _ _ (Nat.lt_of_lt_of_le (eX n) (Nat.pow_le_pow_right (by omega) hn)) (Nat.lt_of_lt_of_le (eX d) (Nat.pow_le_pow_right (by omega) hd))
 ·exact⟨Nat.zero_le _,Nat.zero_le _⟩
theorem aj.cells {w:World} {b:Nat} {t:TypeId} {cs:List Value} (h:aj w b t cs):∀i,w.cell? ⟨b,i,none⟩=cs[i]?:=by
 intro i;unfold aj at h;simp[World.cell?,h]
theorem aj.aF {w:World} {b:Nat} {t:TypeId} {cs:List Value} (h:aj w b t cs):∀i,w.frozen? ⟨b,i,none⟩=false:=fun i=>h.frozen i
theorem iV {B:Nat} {w w':World} (h:Below B w w') (x y z:Value):Below B w (((w'.setCell ⟨B,0,none⟩ x).setCell ⟨B,1,none⟩ y).setCell ⟨B,2,none⟩ z):=
 ((h.setCell (p:=⟨B,0,none⟩) (Nat.le_refl _) _).setCell (p:=⟨B,1,none⟩) (Nat.le_refl _) _).setCell (p:=⟨B,2,none⟩) (Nat.le_refl _) _
theorem Laid.drewN {w:World} (h:Laid w) (n:Nat):Laid (w.drewN n):=h.below (ak _ _ _)
theorem Ik (s:ByteArray) (w:World) (hL:Laid w) (hs:s.size≤1048576):
  Calls Tryz.prog 138 #[.string s] w fun e w'=>e=.returned (.tuple #[(fM s).1.v,.bool (fM s).2])∧Below w.heap.size w w':=by
 have hP:∀c,AL s.data.toList=c→∀n,gK c.2.1=n→∀d,gK c.2.2=d→∀m,Ii c.1 n.1 d.1=m→
   fM s=if n.2&&d.2&&m.2&&decide (aZ m.1=s) then (m.1,true) else (⟨false,⟨#[]⟩,⟨#[]⟩⟩,false):=by
  rintro c rfl n rfl d rfl m rfl;rfl
 unfold AL at hP;have jT:∀w:World,Calls Tryz.prog 176 #[.string s,.string ⟨#[45]⟩] w fun e w'=>e=.returned (.tuple #[.string ⟨(Lib.trimPrefix s.data.toList [45]).toArray⟩,.bool (Lib.hasPrefix s.data.toList [45])])∧w'=w:=fun w=>Tryz.strings_CutPrefix s ⟨#[45]⟩ w
 have hrl:=zT s.data.toList [45];generalize Lib.hasPrefix s.data.toList [45]=neg at*;generalize Lib.trimPrefix s.data.toList [45]=rest at*;have agm:rest.length≤1048576:=Nat.le_trans hrl (by simpa using hs)
 have HC:∀(w:World) (m:Int),w.cell? ⟨2,0,none⟩=some (.int .i64 m)→Calls Tryz.prog 44 #[.string ⟨rest.toArray⟩,.string ⟨#[47]⟩] w fun e w'=>e=.returned (.tuple #[.string ⟨(Lib.cut rest [47]).1.toArray⟩,.string ⟨(Lib.cut rest [47]).2.1.toArray⟩,.bool (Lib.cut rest [47]).2.2])∧∃n,w'=w.drewN n:=
  fun w m h=>Tryz.strings_Cut ⟨rest.toArray⟩ ⟨#[47]⟩ m w (by show rest.length<_;omega) h
 obtain⟨hnl,hdl⟩:=QU rest [47];generalize Lib.cut rest [47]=ct at*;obtain⟨nu,de0,fnd⟩:=ct;simp only at hP HC hnl hdl;have jT:=zH jT;have HC:=zH HC;obtain⟨de,hde⟩:∃d,(if fnd then de0 else [49])=d:=⟨_,rfl⟩
 have hdel:de.length≤1048576:=by subst hde;cases fnd<;>simp<;>omega
 rw[hde] at hP;obtain⟨⟨pn,bn⟩,hpn⟩:∃n,gK nu=n:=⟨_,rfl⟩
 obtain⟨⟨pd,bd⟩,Il⟩:∃n,gK de=n:=⟨_,rfl⟩
 obtain⟨⟨m,bm⟩,hm⟩:∃n,Ii neg pn pd=n:=⟨_,rfl⟩
 have HP:=zH (hP _ rfl _ hpn _ Il _ hm);have NK:=qJ nu;have NM:=qJ de;have hms:=NJ neg pn pd 1048576 (by rw[hpn] at NK;simp only at NK;omega) (by rw[Il] at NM;simp only at NM;omega);rw[hpn] at NK;rw[Il] at NM;rw[hm] at hms;simp only at NK NM hms
 have HN:Hid (∀W,Calls Tryz.prog 177 #[.string ⟨nu.toArray⟩] W fun e w'=>e=.returned (.tuple #[.string pn,.bool bn])∧Below W.heap.size W w'):=fun W=>
  (Df ⟨nu.toArray⟩ W (by show nu.length≤_;omega)).mono (by
    rintro e w' ⟨rfl,hb⟩;exact⟨by show Ending.returned (.tuple #[.string (gK nu).1,.bool (gK nu).2])=_;rw[hpn],hb⟩)
 have HD:Hid (∀W,Calls Tryz.prog 177 #[.string ⟨de.toArray⟩] W fun e w'=>e=.returned (.tuple #[.string pd,.bool bd])∧Below W.heap.size W w'):=fun W=>
  (Df ⟨de.toArray⟩ W (by show de.length≤_;omega)).mono (by
    rintro e w' ⟨rfl,hb⟩;exact⟨by show Ending.returned (.tuple #[.string (gK de).1,.bool (gK de).2])=_;rw[Il],hb⟩)
 have HM:=zH (fun W=>VW neg pn pd W (by omega) (by omega));rw[hm] at HM;have HT:=zH (fun W hL=>jG m W hL hms.1 hms.2);obtain⟨d,hd⟩:=zF (decide (aZ m=s));generalize aZ m=tx at*;rw[hd] at HP;have e1:(tx.toList==s.toList)=d:=by rw[beq_toList,hd]
 have e2:(tx.toList !=s.toList)= !d:=by rw[←e1];rfl
 clear hP hpn Il hm NK NM hms hrl agm hnl hdl hdel hs hd;obtain⟨mn,mu,md⟩:=m;unfold Ra.v at HM HT;simp only at HM HT HP;obtain⟨W,hW⟩:=zE (w.alloc (.cells #[.bool false,.string ⟨#[]⟩,.string ⟨#[]⟩] 40));have hba:Below w.heap.size w W:=by rw[hW];exact zB _ _
 have hblk:aj W w.heap.size 40 [.bool false,.string ⟨#[]⟩,.string ⟨#[]⟩]:=by rw[hW];exact aj.new w _ _
 obtain⟨B,hB⟩:=zE w.heap.size;rw[←hB] at hblk;have HB:=zH hB;have mJ:=hL.below hba;obtain⟨ml,hml⟩:=mJ.cut.2;have fP:=zH mJ;have HML:=zH hml;have aK:=zH hba;have Ny:=zH hblk;clear hL mJ hml hba hblk;cases fnd
 all_goals
  simp only[if_true,if_false,Bool.false_eq_true] at hde;subst hde;go_enter Tryz.func138,Tryz.ntmps138;go_wp2_with fail;simp only[←hW,←hB]
  clear hW hB;refine (jT.out _).mono ?_;rintro e w1 ⟨rfl,rfl⟩;go_wp2_with fail;refine (HC.out _ ml HML.out).mono ?_;rintro e w2 ⟨rfl,nn,rfl⟩;go_wp2_with fail;refine (HN.out _).mono ?_;rintro e w3 ⟨rfl,hb3⟩;go_wp2_with fail;refine (HD.out _).mono ?_;rintro e w4 ⟨rfl,hb4⟩;go_wp2_with fail;refine (HM.out _).mono ?_;rintro e w5 ⟨rfl,hb5⟩;have hbw:=ah (ah (ah (ak _ w1 nn) hb3) hb4) hb5;have hk5:=Ny.out.below hbw Ny.out.lt;have hl5:=fP.out.below hbw;have hkB:=hk5.alloc (.cells #[.bool mn,.string mu,.string md] 40);have hc:=hkB.cells;have hf:=hkB.aF;have hl6:=hl5.below ((Below.refl _ _).alloc (Nat.le_refl _) (.cells #[.bool mn,.string mu,.string md] 40));have VY:=aj.new w5 40 #[.bool mn,.string mu,.string md];have QV:Below B w (w5.alloc (.cells #[.bool mn,.string mu,.string md] 40)):=by rw[HB.out];exact (ah aK.out hbw).alloc (by have:=aK.out.size;have:=hbw.size;omega) _
  have cO:=zH QV;have HAA:=zH VY;have HKB:=zH hkB;clear hbw hb3 hb4 hb5 hk5 VY QV hkB hl5;cases bn<;>cases bd<;>cases bm
  all_goals
   go_wp2_with fail
   first
   |(refine bodyPost_ret (v:=.tuple #[.agg #[.bool false,.string ⟨#[]⟩,.string ⟨#[]⟩],.bool false]) (by simp[results,Tryz.results138,go_sem,hc]) rfl ⟨?_,?_⟩
     ·rw[HP.out];rfl
     ·rw[←HB.out];exact iV cO.out _ _ _)
   |(refine (HT.out _ hl6).mono ?_
     rintro e w7 ⟨rfl,hb7⟩;clear hc hf;have hkB:=HKB.out.below hb7 HKB.out.lt;have VY:=HAA.out.below hb7 HAA.out.lt;have hbw:=cO.out.trans (hb7.mono (Nat.le_of_lt HKB.out.lt));have hc:=hkB.cells;have hf:=hkB.aF;have hcA:=VY.cells;have cO:=zH hbw;clear VY hkB hb7 hbw hl6;cases d
     all_goals
      go_wp2_with fail;refine bodyPost_ret (v:=.tuple #[(fM s).1.v,.bool (fM s).2]) (by rw[HP.out];simp[results,Tryz.results138,go_sem,hc,Ra.v]) rfl ⟨rfl,?_⟩;rw[←HB.out];exact iV cO.out _ _ _)
end Go.Proofs.YtgfeadgafdijaaaGreatDoor
