/- A part of the proof: E2 E3 K1 E4 E5 E6 E7 G1 G2 G3 G4 G5 G6 E8 G7. -/
import Derived.Test.YtimokmplkpbmdaaGreatDoorQ15
import Derived.Test.YtimokmplkpbmdaaGreatDoorQ17
set_option linter.all false
set_option maxRecDepth 100000
set_option maxHeartbeats 0
namespace Go.Proofs.YtimokmplkpbmdaaGreatDoor
open Go.RowKit
theorem dropWhile_nil {α:Type} (p:α->Bool) (l:List α):l.dropWhile p=[]↔∀x∈l,p x=true:=by
 induction l with
 |nil=>simp
 |cons a l ih=>
  rw[List.dropWhile_cons];split
  ·next h=>rw[ih];simp[h]
  ·next h=>simp[h]
theorem KO (l cs:List UInt8):(Lib.trimS l cs).isEmpty=l.all (cs.contains ·):=by
 unfold Lib.trimS Lib.trimLeftS Lib.trimRightS;rw[Bool.eq_iff_iff,List.isEmpty_iff,dropWhile_nil,List.all_eq_true];constructor
 ·intro h
  have h2:l.reverse.dropWhile (cs.contains ·)=[]:=by
   rcases hd:l.reverse.dropWhile (cs.contains ·) with _|⟨a,t⟩
   ·rfl
   ·exfalso;have h3:=h a (by rw[hd];simp);have h4:=List.head_dropWhile_not (cs.contains ·) (l:=l.reverse) (by rw[hd];simp);simp only[hd,List.head_cons] at h4;rw[h4] at h3;cases h3
  rw[dropWhile_nil] at h2;exact fun x hx=>h2 x (by simpa using hx)
 ·intro h x hx;rw[List.mem_reverse] at hx;exact h x (by have:=(List.dropWhile_sublist _).mem hx;simpa using this)
def bD:List UInt8:=[97,98,99,100,101,102,103,104,105,106,107,108,109,110,111,112,113,114,115,116,117,118,119,120,121,122]
def fG:List UInt8:=bD++[48,49,50,51,52,53,54,55,56,57,95]
theorem qH (p q:UInt8->Bool) (h:(List.range 256).all (fun n=>p (UInt8.ofNat n)==q (UInt8.ofNat n))=true) (c:UInt8):p c=q c:=by
 rw[List.all_eq_true] at h;have:=h c.toNat (List.mem_range.2 c.toNat_lt);rw[UInt8.ofNat_toNat] at this;exact eq_of_beq this
theorem Ph (c:UInt8):bD.contains c=nK c:=qH (bD.contains ·) nK (by decide+kernel) c
theorem JF (c:UInt8):fG.contains c=GK c:=qH (fG.contains ·) GK (by decide+kernel) c
theorem Tz (s:ByteArray) (w:World):
  Calls Tryz.prog 143 #[.string s] w fun e w'=>e=.returned (.bool (nameB s.data.toList))/\Below w.heap.size w w':=by
 have HN:Hid (nameB s.data.toList=((match s.data.toList with|[]=>false|c::_=>nK c)&&decide (s.data.toList.length<=20)&&s.data.toList.all GK)):=rfl;rcases Nat.eq_zero_or_pos s.size with h0|h0
 ·have hs:s=⟨#[]⟩:=by
   obtain⟨⟨l⟩⟩:=s;have h:l.length=0:=h0;rw[List.eq_nil_of_length_eq_zero h]
  subst hs;clear h0;go_enter Tryz.func143,Tryz.ntmps143;go_wp2;go_ret;exact⟨rfl,Below.refl _ _⟩
 ·have he:=zS s h0;have hlen:s.data.toList.length=s.size:=by simp
  have hh:∃t,s.data.toList=s[0]::t:=by
   obtain⟨⟨l⟩⟩:=s;cases l with
   |nil=>exact absurd h0 (by show ¬0<0;omega)
   |cons c l=>exact⟨l,rfl⟩
  obtain⟨t,ht⟩:=hh;rw[hlen] at HN;by_cases h1:s.size<=20
  ·have hc:(nK s[0]=true/\97<=(s[0].toNat:Int)/\(s[0].toNat:Int)<=122)∨(nK s[0]=false/\(s[0].toNat:Int)<97)∨(nK s[0]=false/\97<=(s[0].toNat:Int)/\122<(s[0].toNat:Int)):=by
    unfold nK;by_cases a:97<=s[0].toNat
    ·by_cases b:s[0].toNat<=122
     ·exact .inl ⟨by simp[a,b],by omega,by omega⟩
     ·exact .inr (.inr ⟨by simp[b],by omega,by omega⟩)
    ·exact .inr (.inl ⟨by simp[a],by omega⟩)
   rcases hc with⟨hc,ha,hb⟩|⟨hc,ha⟩|⟨hc,ha,hb⟩
   ·have HT:∀W:World,Calls Tryz.prog 179 #[.string s,.string ⟨fG.toArray⟩] W fun e w'=>e=.returned (.string ⟨(Lib.trimS s.data.toList fG).toArray⟩)/\Below W.heap.size W w':=
     fun W=>Any.strings_Trim_laid Tryz.lays160 (by kernel_rfl) s ⟨fG.toArray⟩ W (by omega) (by decide) (Go.Proofs.ascii_of_all (by decide))
    have HR:Hid ((Lib.trimS s.data.toList fG).isEmpty=nameB s.data.toList):=by
     show _=_;rw[HN.out,KO,ht];simp only[hc,Bool.true_and,decide_eq_true h1]
     congr 1
     funext c;exact JF c
    obtain⟨tr,htr⟩:∃x,Lib.trimS s.data.toList fG=x:=⟨_,rfl⟩
    rw[htr] at HR;simp only[htr] at HT;have HT:=zH HT;clear HN hlen ht hc htr;go_enter Tryz.func143,Tryz.ntmps143;go_wp2_with fail;refine (HT.out _).mono ?_;rintro e w1 ⟨rfl,hb1⟩;go_wp2;go_ret;refine⟨?_,hb1⟩;rw[<-HR.out]
    first|rfl|(simp;done)
   all_goals
    have HR:Hid (nameB s.data.toList=false):=by
     show _=_;rw[HN.out,ht];simp[hc]
    clear HN hlen ht hc;go_enter Tryz.func143,Tryz.ntmps143;go_wp2;go_ret;exact⟨by rw[HR.out];rfl,Below.refl _ _⟩
  ·have HR:Hid (nameB s.data.toList=false):=by
    show _=_;rw[HN.out];simp[h1]
   clear HN hlen ht;go_enter Tryz.func143,Tryz.ntmps143;go_wp2;go_ret;exact⟨by rw[HR.out];rfl,Below.refl _ _⟩
def Sh.cells (s:Sh):List Value:=[.string ⟨s.word.toArray⟩,.int .i64 (s.ops:Int),.bool s.lit,.bool s.dF,.bool s.dJ]
def Sh.v (s:Sh):Value:=.agg #[.string ⟨s.word.toArray⟩,.int .i64 (s.ops:Int),.bool s.lit,.bool s.dF,.bool s.dJ]
def Fb:List Value:=iQ.flatMap Sh.cells
structure dK (w:World):Prop where
 base:Laid w
 glob:1<w.heap.size
 tab:∀i v,Fb[i]?=some v->w.cell? ⟨1,i,none⟩=some v
theorem dK.below {w w':World} (h:dK w) (hb:Below w.heap.size w w'):dK w':=
 ⟨h.base.below hb,Nat.lt_of_lt_of_le h.glob hb.size,fun i v hv=>(hb.cell h.glob).trans (h.tab i v hv)⟩
theorem dK.alloc {w:World} (h:dK w) (o:Obj):dK (w.alloc o):=h.below (zB _ _)
theorem dK.drewN {w:World} (h:dK w) (n:Nat):dK (w.drewN n):=h.below (ak _ _ _)
theorem uf {α β:Type} (f:α->List β) (m:Nat) (hf:∀a,(f a).length=m) (l:List α) (k i:Nat) (hi:i<m):(l.flatMap f)[k*m+i]?=(l[k]?).bind (fun a=>(f a)[i]?):=by
 induction l generalizing k with
 |nil=>simp
 |cons a l ih=>
  rw[List.flatMap_cons];cases k with
  |zero=>
   rw[List.getElem?_append_left (by rw[hf];omega)];simp
  |succ k=>
   rw[List.getElem?_append_right (by rw[hf,Nat.succ_mul];omega),hf,show (k+1)*m+i-m=k*m+i from by rw[Nat.succ_mul];omega,ih];rfl
theorem IQ (k:Nat) (hk:k<25):iQ[k]?=some (aB (k:Int)):=by
 unfold aB;rw[Int.toNat_natCast,List.getD_eq_getElem?_getD,List.getElem?_eq_getElem (by simpa [iQ] using hk)];rfl
theorem dK.cell {w:World} (h:dK w) (k i:Nat) (hk:k<25) (hi:i<5):w.cell? ⟨1,k*5+i,none⟩=(aB (k:Int)).cells[i]?:=by
 have h1:=uf Sh.cells 5 (fun _=>rfl) iQ k i hi;rw[IQ k hk] at h1;have hv:((aB (k:Int)).cells)[i]?=some ((aB (k:Int)).cells[i]'(by show i<5;exact hi)):=List.getElem?_eq_getElem _;rw[hv];exact h.tab _ _ (h1.trans hv)
theorem ad9 (k:Nat) (w:World) (hL:dK w) (h0:1<=k) (h1:k<=24):
  Calls Tryz.prog 142 #[.int .i64 (k:Int)] w fun e w'=>e=.returned (.tuple #[(aB (k:Int)).v,.bool true])/\Below w.heap.size w w':=by
 have hl:=hL.alloc (.cells #[.string ⟨#[]⟩,.int .i64 0,.bool false,.bool false,.bool false] 168);have c0:=hl.cell k 0 (by omega) (by omega);have c1:=hl.cell k 1 (by omega) (by omega);have c2:=hl.cell k 2 (by omega) (by omega);have c3:=hl.cell k 3 (by omega) (by omega);have c4:=hl.cell k 4 (by omega) (by omega);have HV:Hid ((aB (k:Int)).v=.agg #[.string ⟨(aB (k:Int)).word.toArray⟩,.int .i64 ((aB (k:Int)).ops:Int),.bool (aB (k:Int)).lit,.bool (aB (k:Int)).dF,.bool (aB (k:Int)).dJ]):=rfl;generalize aB (k:Int)=s at*;simp only[Sh.cells,List.getElem?_cons_zero,List.getElem?_cons_succ,Nat.add_zero] at c0 c1 c2 c3 c4;clear hl hL;go_enter Tryz.func142,Tryz.ntmps142;go_wp2;refine bodyPost_ret (v:=.tuple #[s.v,.bool true]) (by rw[HV.out];simp[results,Tryz.results142,go_sem]) rfl ⟨rfl,?_⟩;exact zB _ _
theorem af8 (n:Int) (w:World) (h:n<1∨24<n):
  Calls Tryz.prog 142 #[.int .i64 n] w fun e w'=>e=.returned (.tuple #[vF.v,.bool false])/\Below w.heap.size w w':=by
 have hn:(n<1/\n<1)∨(1<=n/\24<n):=by omega
 clear h;rcases hn with⟨h,h'⟩|⟨h,h'⟩
 all_goals
  go_enter Tryz.func142,Tryz.ntmps142;go_wp2;refine bodyPost_ret (v:=.tuple #[vF.v,.bool false]) (by simp[results,Tryz.results142,go_sem,Sh.v,vF]) rfl ⟨rfl,?_⟩;exact zB _ _
theorem zZ (d:Nat) (a b:Ra) (w:World):(Op.equalIn (d+2) 43 a.v b.v).run Tryz.prog w=.ok (decide (a=b)) w:=by
 have u1:=Tryz.underlying4;have u2:=Tryz.underlying41;have hS:Tryz.prog.underlying 43=some (.struct (Tryz.prog.fieldsOf 43)):=by kernel_rfl
 have hp:Tryz.prog.stoodInHeld 43=false:=by kernel_rfl
 rw[<-II (fun b=>Result.ok b w) a b];simp only[Ra.v]
 rw[run_equalIn_agg w (d+1) 43 _ _ hS hp];simp only[Program.fieldsOf,Tryz.underlying43]
 go_simp
theorem TD (d:Nat) (a b:Nd) (w:World):(Op.equalIn (d+3) 49 a.v b.v).run Tryz.prog w=.ok (decide (a=b)) w:=by
 have u1:=Tryz.underlying4;have u2:=Tryz.underlying41;have u3:=Tryz.underlying3;have u4:=Tryz.underlying9;have hS:Tryz.prog.underlying 49=some (.struct (Tryz.prog.fieldsOf 49)):=by kernel_rfl
 have hp:Tryz.prog.stoodInHeld 49=false:=by kernel_rfl
 have hR:=fun (n1 n2:Bool) (u1 u2 d1 d2:ByteArray) (w:World)=>zZ d ⟨n1,u1,d1⟩ ⟨n2,u2,d2⟩ w
 simp only[Ra.v] at hR;simp only[Nd.v]
 rw[run_equalIn_agg w (d+2) 49 _ _ hS hp];simp only[Program.fieldsOf,Tryz.underlying49]
 go_simp;by_cases h:a=b
 ·subst h;simp
 ·rw[decide_eq_false h];split
  ·next h1=>
   split
   ·rfl
   ·next h2=>
    split
    ·next h3=>
     exfalso;apply h;obtain⟨o,⟨n,u,e⟩,nm⟩:=a;obtain⟨o',⟨n',u',e'⟩,nm'⟩:=b;simp only at h1 h2 h3
     have h4:n=n'/\u=u'/\e=e':=by
      refine Classical.byContradiction fun hc=>h2 fun g1 g2 g3=>hc ⟨g1,g2,g3⟩
     rw[h1,h4.1,h4.2.1,h4.2.2,toList_inj h3]
    ·rfl
  ·rfl
theorem wO (a b:Ra) (w:World):(binOp .eql 43 a.v b.v).run Tryz.prog w=.ok (.bool (decide (a=b))) w:=by
 have h:=zZ 9998 a b w;simp only[Ra.v] at h⊢;rw[run_eql_struct,show (10000:Nat)=9998+2 from rfl,h];rfl
theorem Wp (a b:Nd) (w:World):(binOp .neq 49 a.v b.v).run Tryz.prog w=.ok (.bool (!decide (a=b))) w:=by
 have h:=TD 9997 a b w;simp only[Nd.v] at h⊢;rw[run_neq_struct,show (10000:Nat)=9997+3 from rfl,h];rfl
structure Ty where
 truth:Bool
 aN:Int
 days:Int
deriving DecidableEq,Inhabited
def Ty.cells (t:Ty):List Value:=[.bool t.truth,.int .i64 t.aN,.int .i64 t.days]
def Ty.v (t:Ty):Value:=.agg #[.bool t.truth,.int .i64 t.aN,.int .i64 t.days]
def bG:Ty:=⟨true,0,0⟩
def bT:Ty:=⟨false,1,0⟩
def ug:Ty:=⟨false,0,1⟩
def bV:Ty:=⟨false,0,0⟩
def gu (m d:Int):Bool:=decide (max m d<=3)&&decide (-3<=min m d)
def bH (t:Ty):Bool:=if t.truth then decide (t=bG) else gu t.aN t.days
structure cZ (w:World):Prop where
 e:dK w
 lt:0<w.heap.size/\3<w.heap.size/\4<w.heap.size/\5<w.heap.size/\6<w.heap.size
 TG:∀i v,bT.cells[i]?=some v->w.cell? ⟨0,i,none⟩=some v
 cash:∀i v,bT.cells[i]?=some v->w.cell? ⟨3,i,none⟩=some v
 days:∀i v,ug.cells[i]?=some v->w.cell? ⟨4,i,none⟩=some v
 plain:∀i v,bV.cells[i]?=some v->w.cell? ⟨5,i,none⟩=some v
 truth:∀i v,bG.cells[i]?=some v->w.cell? ⟨6,i,none⟩=some v
theorem cZ.below {w w':World} (h:cZ w) (hb:Below w.heap.size w w'):cZ w':=by
 obtain⟨he,⟨h1,h2,h3,h4,h5⟩,a,b,c,d,e⟩:=h;have hs:=hb.size
 exact⟨he.below hb,⟨by omega,by omega,by omega,by omega,by omega⟩,fun i v hv=>(hb.cell h1).trans (a i v hv),fun i v hv=>(hb.cell h2).trans (b i v hv),
  fun i v hv=>(hb.cell h3).trans (c i v hv),fun i v hv=>(hb.cell h4).trans (d i v hv),fun i v hv=>(hb.cell h5).trans (e i v hv)⟩
theorem cZ.alloc {w:World} (h:cZ w) (o:Obj):cZ (w.alloc o):=h.below (zB _ _)
theorem cZ.drewN {w:World} (h:cZ w) (n:Nat):cZ (w.drewN n):=h.below (ak _ _ _)
theorem xM (m d:Int) (w:World):Calls Tryz.prog 71 #[.agg #[.int .i64 m,.int .i64 d]] w fun e w'=>e=.returned (.bool (gu m d))/\Below w.heap.size w w':=by
 have hb:Below w.heap.size w (w.alloc (.cells #[.int .i64 m,.int .i64 d] 32)):=(Below.refl _ _).alloc (Nat.le_refl _) _;have HV:Hid (gu m d=(decide (max m d<=3)&&decide (-3<=min m d))):=rfl;have HB:=zH hb;clear hb;by_cases h1:max m d<=3
 ·by_cases h2:-3<=min m d
  ·have HW:Hid (gu m d=true):=by show _=_;rw[HV.out,decide_eq_true h1,decide_eq_true h2];rfl
   clear HV;go_enter Tryz.func71,Tryz.ntmps71;go_wp2;go_ret;exact⟨by rw[HW.out];rfl,HB.out⟩
  ·have HW:Hid (gu m d=false):=by show _=_;rw[HV.out,decide_eq_false h2,Bool.and_false]
   clear HV;go_enter Tryz.func71,Tryz.ntmps71;go_wp2;go_ret;exact⟨by rw[HW.out];rfl,HB.out⟩
 ·have HW:Hid (gu m d=false):=by show _=_;rw[HV.out,decide_eq_false h1,Bool.false_and]
  clear HV;go_enter Tryz.func71,Tryz.ntmps71;go_wp2;go_ret;exact⟨by rw[HW.out];rfl,HB.out⟩
theorem GR (m d:Int):bH ⟨false,m,d⟩=gu m d:=rfl
theorem JG (m d:Int):bH ⟨true,m,d⟩=(decide (m=0)&&decide (d=0)):=by
 unfold bH bG;simp only[if_true,Ty.mk.injEq,true_and]
 rw[Bool.eq_iff_iff];simp
theorem TI (t:Ty) (w:World) (hL:cZ w):Calls Tryz.prog 200 #[t.v] w fun e w'=>e=.returned (.bool (bH t))/\Below w.heap.size w w':=by
 obtain⟨tr,m,d⟩:=t;have hb:Below w.heap.size w (w.alloc (.cells #[.bool tr,.int .i64 m,.int .i64 d] 34)):=(Below.refl _ _).alloc (Nat.le_refl _) _;have HB:=zH hb;have g0:=(hL.alloc (.cells #[.bool tr,.int .i64 m,.int .i64 d] 34)).truth 0 _ rfl;have g1:=(hL.alloc (.cells #[.bool tr,.int .i64 m,.int .i64 d] 34)).truth 1 _ rfl;have g2:=(hL.alloc (.cells #[.bool tr,.int .i64 m,.int .i64 d] 34)).truth 2 _ rfl;unfold Ty.v;simp only
 cases tr
 ·have HU:=zH (fun W=>xM m d W);clear hb hL g0 g1 g2;rw[GR];go_enter Tryz.func200,Tryz.ntmps200;go_wp2_with fail;refine (HU.out _).mono ?_;rintro e w1 ⟨rfl,hb1⟩;have HB1:=zH (ah HB.out hb1);clear hb1;go_wp2;go_ret;exact⟨rfl,HB1.out⟩
 ·rw[JG];obtain⟨dq,jY⟩:=zF ((decide (m=0)&&decide (d=0)));rw[jY];have qG:=zH jY;clear hb hL jY;by_cases hm:m=0
  ·by_cases hd:d=0
   ·have hq:dq=true:=by rw[<-qG.out,decide_eq_true hm,decide_eq_true hd];rfl
    subst hm hd hq;go_enter Tryz.func200,Tryz.ntmps200;go_wp2;go_ret;exact⟨rfl,HB.out⟩
   ·have hq:dq=false:=by rw[<-qG.out,decide_eq_false hd,Bool.and_false]
    subst hm hq;have hd2:(d==0)=false:=beq_eq_false_iff_ne.2 hd;go_enter Tryz.func200,Tryz.ntmps200;go_wp2;go_ret;exact⟨rfl,HB.out⟩
  ·have hq:dq=false:=by rw[<-qG.out,decide_eq_false hm,Bool.false_and]
   subst hq;have hm2:(m==0)=false:=beq_eq_false_iff_ne.2 hm;go_enter Tryz.func200,Tryz.ntmps200;go_wp2;go_ret;exact⟨rfl,HB.out⟩
theorem Et (t:Ty) (w:World):Calls Tryz.prog 66 #[t.v] w fun e w'=>e=.returned (.bool (bH t))/\Below w.heap.size w w':=by
 obtain⟨tr,m,d⟩:=t;have hb:Below w.heap.size w (w.alloc (.cells #[.bool tr,.int .i64 m,.int .i64 d] 34)):=(Below.refl _ _).alloc (Nat.le_refl _) _;have HB:=zH hb;unfold Ty.v;simp only
 cases tr
 ·have HU:=zH (fun W=>xM m d W);clear hb;rw[GR];go_enter Tryz.func66,Tryz.ntmps66;go_wp2_with fail;refine (HU.out _).mono ?_;rintro e w1 ⟨rfl,hb1⟩;have HB1:=zH (ah HB.out hb1);clear hb1;go_wp2;go_ret;exact⟨rfl,HB1.out⟩
 ·rw[JG];obtain⟨dq,jY⟩:=zF ((decide (m=0)&&decide (d=0)));rw[jY];have qG:=zH jY;clear hb jY;by_cases hm:m=0
  ·by_cases hd:d=0
   ·have hq:dq=true:=by rw[<-qG.out,decide_eq_true hm,decide_eq_true hd];rfl
    subst hm hd hq;go_enter Tryz.func66,Tryz.ntmps66;go_wp2;go_ret;exact⟨rfl,HB.out⟩
   ·have hq:dq=false:=by rw[<-qG.out,decide_eq_false hd,Bool.and_false]
    subst hm hq;have hd2:(d==0)=false:=beq_eq_false_iff_ne.2 hd;go_enter Tryz.func66,Tryz.ntmps66;go_wp2;go_ret;exact⟨rfl,HB.out⟩
  ·have hq:dq=false:=by rw[<-qG.out,decide_eq_false hm,Bool.false_and]
   subst hq;have hm2:(m==0)=false:=beq_eq_false_iff_ne.2 hm;go_enter Tryz.func66,Tryz.ntmps66;go_wp2;go_ret;exact⟨rfl,HB.out⟩
theorem Ac (d:Nat) (m n m' n':Int) (w:World):(Op.equalIn (d+2) 32 (.agg #[.int .i64 m,.int .i64 n]) (.agg #[.int .i64 m',.int .i64 n'])).run Tryz.prog w=.ok (decide (m=m')&&decide (n=n')) w:=by
 have u3:=Tryz.underlying3;have hS:Tryz.prog.underlying 32=some (.struct (Tryz.prog.fieldsOf 32)):=by kernel_rfl
 have hp:Tryz.prog.stoodInHeld 32=false:=by kernel_rfl
 rw[run_equalIn_agg w (d+1) 32 _ _ hS hp];simp only[Program.fieldsOf,Tryz.underlying32]
 go_simp;by_cases h:m=m'
 ·by_cases h2:n=n'
  ·simp[h,h2]
  ·simp[h,h2]
 ·simp[h]
theorem Ad (d:Nat) (a b:Ty) (w:World):(Op.equalIn (d+3) 34 a.v b.v).run Tryz.prog w=.ok (decide (a=b)) w:=by
 have u1:=Tryz.underlying4;have u3:=Tryz.underlying3;have hS:Tryz.prog.underlying 34=some (.struct (Tryz.prog.fieldsOf 34)):=by kernel_rfl
 have hp:Tryz.prog.stoodInHeld 34=false:=by kernel_rfl
 have hR:=fun (m n m' n':Int) (w:World)=>Ac d m n m' n' w
 simp only[Ty.v]
 rw[run_equalIn_agg w (d+2) 34 _ _ hS hp];simp only[Program.fieldsOf,Tryz.underlying34]
 go_simp;obtain⟨t,m,n⟩:=a;obtain⟨t',m',n'⟩:=b;by_cases h:t=t'
 ·by_cases h2:m=m'
  ·by_cases h3:n=n'
   ·simp[h,h2,h3]
   ·simp[h,h2,h3]
  ·simp[h,h2]
 ·simp[h]
theorem uI (a b:Ty) (w:World):(binOp .eql 34 a.v b.v).run Tryz.prog w=.ok (.bool (decide (a=b))) w:=by
 have h:=Ad 9997 a b w;simp only[Ty.v] at h⊢;rw[run_eql_struct,show (10000:Nat)=9997+3 from rfl,h];rfl
theorem yU (a b:Ty) (w:World):(binOp .neq 34 a.v b.v).run Tryz.prog w=.ok (.bool (!decide (a=b))) w:=by
 have h:=Ad 9997 a b w;simp only[Ty.v] at h⊢;rw[run_neq_struct,show (10000:Nat)=9997+3 from rfl,h];rfl
theorem uJ (a:Ra) (w:World) (hn:a.num.size<=536870912) (hd:a.den.size<=536870912):
  Calls Tryz.prog 77 #[a.v] w fun e w'=>e=.returned (.bool (aV a))/\Below w.heap.size w w':=by
 have HR:=zH (fun w=>qX a w hn hd);have HN:=zH (fun w=>Ej a.num w (by omega));have HD:=zH (fun w=>Ej a.den w (by omega));have HF:Hid (aV a=(okR a&&decide (nO (ay a.num)<=400)&&decide (nO (ay a.den)<=400))):=rfl;generalize nO (ay a.num)=bn at*;generalize nO (ay a.den)=bd at*;clear hn hd;obtain⟨o,ho⟩:=zF (okR a);rw[ho] at HR HF;clear ho;obtain⟨f,hf⟩:=zF (aV a);rw[hf] at HF⊢;clear hf;obtain⟨neg,num,den⟩:=a;unfold Ra.v at HR⊢;simp only at HN HD;obtain⟨W,hW⟩:=zE (w.alloc (.cells #[.bool neg,.string num,.string den] 43));have hba:Below w.heap.size w W:=by rw[hW];exact zB _ _
 have hblk:aj W w.heap.size 43 [.bool neg,.string num,.string den]:=by rw[hW];exact aj.new w _ _
 obtain⟨B,hB⟩:=zE w.heap.size;have HB:=zH hB;rw[<-hB] at hblk hba;have hc:=hblk.cells;cases o
 ·go_enter Tryz.func77,Tryz.ntmps77;go_wp2_with fail;simp only[<-hW,<-hB]
  clear hW hB;refine (HR.out _).mono ?_;rintro e w1 ⟨rfl,hb1⟩;go_wp2;go_ret;exact⟨by rw[HF.out];rfl,by rw[<-HB.out];exact hba.trans (hb1.mono (Nat.le_of_lt hblk.lt))⟩
 ·by_cases h1:bn<=400
  ·go_enter Tryz.func77,Tryz.ntmps77;go_wp2_with fail;simp only[<-hW,<-hB]
   clear hW hB;refine (HR.out _).mono ?_;rintro e w1 ⟨rfl,hb1⟩;have hk1:=hblk.below hb1 hblk.lt;have hc1:=hk1.cells;go_wp2_with fail;refine (HN.out _).mono ?_;rintro e w2 ⟨rfl,hb2⟩;have hk2:=hk1.below hb2 hk1.lt;have hc2:=hk2.cells;have h1':decide ((bn:Int)<=400)=true:=by rw[decide_eq_true_eq];omega
   go_wp2_with fail;refine (HD.out _).mono ?_;rintro e w3 ⟨rfl,hb3⟩;go_wp2
   all_goals
    go_ret;refine⟨?_,by rw[<-HB.out];exact hba.trans ((ah (ah hb1 hb2) hb3).mono (Nat.le_of_lt hblk.lt))⟩;rw[HF.out,decide_eq_true h1];simp;omega
  ·have h1':decide ((bn:Int)<=400)=false:=by rw[decide_eq_false_iff_not];omega
   go_enter Tryz.func77,Tryz.ntmps77;go_wp2_with fail;simp only[<-hW,<-hB]
   clear hW hB;refine (HR.out _).mono ?_;rintro e w1 ⟨rfl,hb1⟩;have hk1:=hblk.below hb1 hblk.lt;have hc1:=hk1.cells;go_wp2_with fail;refine (HN.out _).mono ?_;rintro e w2 ⟨rfl,hb2⟩;go_wp2;go_ret;refine⟨?_,by rw[<-HB.out];exact hba.trans ((ah hb1 hb2).mono (Nat.le_of_lt hblk.lt))⟩;rw[HF.out,decide_eq_false h1];rfl
theorem Wq (k:Nat) (h1:k<=24):((aB (k:Int)).lit=true↔1<=k/\k<=4)/\((aB (k:Int)).dJ=true↔21<=k/\k<=23)/\((aB (k:Int)).dF=true↔(5<=k/\k<=8)∨k=24):=by
 have h:∀k∈List.range 25,((aB (k:Int)).lit=true↔1<=k/\k<=4)/\((aB (k:Int)).dJ=true↔21<=k/\k<=23)/\((aB (k:Int)).dF=true↔(5<=k/\k<=8)∨k=24):=by decide
 exact h k (List.mem_range.2 (by omega))
def Fe (z:Int) (w:World) (e:Ending) (w':World):Prop:=e=.returned (.int .i64 z)/\Below w.heap.size w w'
theorem Ws (n:Nd) (w:World) (h:n.op<1∨24<n.op):Calls Tryz.prog 101 #[n.v] w (Fe 11 w):=by
 have HO:=zH (fun w=>af8 n.op w h);obtain⟨op,⟨neg,num,den⟩,nm⟩:=n;unfold Nd.v;simp only at HO⊢;clear h;obtain⟨W,hW⟩:=zE (w.alloc (.cells #[.int .i64 op,.bool neg,.string num,.string den,.string nm] 49));have hba:Below w.heap.size w W:=by rw[hW];exact zB _ _
 have hblk:aj W w.heap.size 49 [.int .i64 op,.bool neg,.string num,.string den,.string nm]:=by rw[hW];exact aj.new w _ _
 obtain⟨B,hB⟩:=zE w.heap.size;have HB:=zH hB;rw[<-hB] at hblk hba;have hc:=hblk.cells;go_enter Tryz.func101,Tryz.ntmps101;go_wp2_with fail;simp only[<-hW,<-hB]
 clear hW hB;refine (HO.out _).mono ?_;rintro e w1 ⟨rfl,hb1⟩;simp only[Sh.v,vF]
 go_wp2;go_ret;refine⟨rfl,?_⟩;rw[<-HB.out];exact (hba.trans (hb1.mono (Nat.le_of_lt hblk.lt))).alloc (by have:=hb1.size;have:=hblk.lt;omega) _
structure Wr (k:Nat) (neg:Bool) (num den nm:ByteArray) (B B2:Nat) (w W:World):Prop where
 own:w.heap.size<=B
 node:aj W B 49 [.int .i64 (k:Int),.bool neg,.string num,.string den,.string nm]
 shape:aj W B2 168 (aB (k:Int)).cells
 below:Below w.heap.size w W
theorem Wr.step {k:Nat} {neg:Bool} {num den nm:ByteArray} {B B2:Nat} {w W W':World} (h:Wr k neg num den nm B B2 w W) (hb:Below W.heap.size W W'):Wr k neg num den nm B B2 w W':=
 ⟨h.own,h.node.below hb h.node.lt,h.shape.below hb h.shape.lt,ah h.below hb⟩
theorem MF (k ops:Nat) (wd:List UInt8) (L S neg:Bool) (num den nm:ByteArray) (w:World) (z:Int) (hL:dK w)
  (hO:∀w,dK w->Calls Tryz.prog 142 #[.int .i64 (k:Int)] w fun e w'=>e=.returned (.tuple #[.agg #[.string ⟨wd.toArray⟩,.int .i64 (ops:Int),.bool L,.bool false,.bool S],.bool true])/\Below w.heap.size w w')
  (hnm:(!nm.toList.isEmpty)=true) (hz:z=11):Calls Tryz.prog 101 #[.agg #[.int .i64 (k:Int),.bool neg,.string num,.string den,.string nm]] w (Fe z w):=by
 have HO:=zH hO;clear hO;obtain⟨W,hW⟩:=zE (w.alloc (.cells #[.int .i64 (k:Int),.bool neg,.string num,.string den,.string nm] 49));have hba:Below w.heap.size w W:=by rw[hW];exact zB _ _
 have hblk:aj W w.heap.size 49 [.int .i64 (k:Int),.bool neg,.string num,.string den,.string nm]:=by rw[hW];exact aj.new w _ _
 have eG:=zH (hL.below hba);clear hL;obtain⟨B,hB⟩:=zE w.heap.size;have HB:=zH hB;rw[<-hB] at hblk hba;have hc:=hblk.cells;have ahU:nm.toList.isEmpty=false:=by simpa using hnm
 have HW:=zH hz;clear hz;go_enter Tryz.func101,Tryz.ntmps101;go_wp2_with fail;simp only[<-hW,<-hB]
 clear hW hB;refine (HO.out _ eG.out).mono ?_;rintro e w1 ⟨rfl,hb1⟩;have hk1:=hblk.below hb1 hblk.lt;have hn2:=hk1.alloc (.cells #[.string ⟨wd.toArray⟩,.int .i64 (ops:Int),.bool L,.bool false,.bool S] 168);have hs2:=aj.new w1 168 #[.string ⟨wd.toArray⟩,.int .i64 (ops:Int),.bool L,.bool false,.bool S];have hb2:Below B w (w1.alloc (.cells #[.string ⟨wd.toArray⟩,.int .i64 (ops:Int),.bool L,.bool false,.bool S] 168)):=(hba.trans (hb1.mono (Nat.le_of_lt hblk.lt))).alloc (by have:=hb1.size;have:=hblk.lt;omega) _;have hc2:=hn2.cells;clear hk1 hb1 hc;go_wp2;go_ret;exact⟨by rw[HW.out];rfl,by rw[<-HB.out];exact hb2⟩
theorem Wu (k ops:Nat) (wd:List UInt8) (neg:Bool) (num den nm:ByteArray) (w:World) (z:Int) (hL:dK w)
  (hO:∀w,dK w->Calls Tryz.prog 142 #[.int .i64 (k:Int)] w fun e w'=>e=.returned (.tuple #[.agg #[.string ⟨wd.toArray⟩,.int .i64 (ops:Int),.bool true,.bool false,.bool false],.bool true])/\Below w.heap.size w w')
  (h4:((k:Int)==4)=false) (hnm:nm.toList.isEmpty=true) (f:Bool) (hF:∀W,Calls Tryz.prog 77 #[.agg #[.bool neg,.string num,.string den]] W fun e w'=>e=.returned (.bool f)/\Below W.heap.size W w') (hz:z=if f then 0 else 11):Calls Tryz.prog 101 #[.agg #[.int .i64 (k:Int),.bool neg,.string num,.string den,.string nm]] w (Fe z w):=by
 have HO:=zH hO;clear hO;obtain⟨W,hW⟩:=zE (w.alloc (.cells #[.int .i64 (k:Int),.bool neg,.string num,.string den,.string nm] 49));have hba:Below w.heap.size w W:=by rw[hW];exact zB _ _
 have hblk:aj W w.heap.size 49 [.int .i64 (k:Int),.bool neg,.string num,.string den,.string nm]:=by rw[hW];exact aj.new w _ _
 have eG:=zH (hL.below hba);clear hL;obtain⟨B,hB⟩:=zE w.heap.size;have HB:=zH hB;rw[<-hB] at hblk hba;have hc:=hblk.cells;have HF:=zH hF;have HW:=zH hz;clear hF hz;cases f
 all_goals
  go_enter Tryz.func101,Tryz.ntmps101;go_wp2_with fail;simp only[<-hW,<-hB]
  clear hW hB;refine (HO.out _ eG.out).mono ?_;rintro e w1 ⟨rfl,hb1⟩;have hk1:=hblk.below hb1 hblk.lt;have hn2:=hk1.alloc (.cells #[.string ⟨wd.toArray⟩,.int .i64 (ops:Int),.bool true,.bool false,.bool false] 168);have hs2:=aj.new w1 168 #[.string ⟨wd.toArray⟩,.int .i64 (ops:Int),.bool true,.bool false,.bool false];have hb2:Below B w (w1.alloc (.cells #[.string ⟨wd.toArray⟩,.int .i64 (ops:Int),.bool true,.bool false,.bool false] 168)):=(hba.trans (hb1.mono (Nat.le_of_lt hblk.lt))).alloc (by have:=hb1.size;have:=hblk.lt;omega) _;have hc2:=hn2.cells;clear hk1 hb1 hc;go_wp2_with fail;obtain⟨w2,hw2⟩:∃x,x=w1.alloc (.cells #[.string ⟨wd.toArray⟩,.int .i64 (ops:Int),.bool true,.bool false,.bool false] 168):=⟨_,rfl⟩
  obtain⟨C,hC⟩:∃x,x=w1.heap.size:=⟨_,rfl⟩
  simp only[<-hw2,<-hC]
  rw[<-hw2] at hn2 hs2 hb2;rw[<-hC] at hs2;clear hw2 hC hc2;refine (HF.out _).mono ?_;rintro e w3 ⟨rfl,mP⟩;have hn3:=hn2.below mP hn2.lt;have hs3:=hs2.below mP hs2.lt;have hb3:Below B w w3:=hb2.trans (mP.mono (Nat.le_of_lt hn2.lt));have hc3:=hn3.cells;have hd3:=hs3.cells;clear hn2 hs2 hb2 mP;go_wp2;go_ret;exact⟨by rw[HW.out];rfl,by rw[<-HB.out];exact hb3⟩
theorem Wv (k ops:Nat) (wd:List UInt8) (neg:Bool) (num den nm:ByteArray) (w:World) (z:Int) (hL:dK w)
  (hO:∀w,dK w->Calls Tryz.prog 142 #[.int .i64 (k:Int)] w fun e w'=>e=.returned (.tuple #[.agg #[.string ⟨wd.toArray⟩,.int .i64 (ops:Int),.bool false,.bool false,.bool true],.bool true])/\Below w.heap.size w w')
  (h4:((k:Int)==4)=false) (hnm:nm.toList.isEmpty=true) (f:Bool) (s:Int) (hF:∀W,Calls Tryz.prog 77 #[.agg #[.bool neg,.string num,.string den]] W fun e w'=>e=.returned (.bool f)/\Below W.heap.size W w') (hS:∀W,Calls Tryz.prog 73 #[.agg #[.bool neg,.string num,.string den]] W fun e w'=>e=.returned (.int .i64 s)/\Below W.heap.size W w') (hz:z=if f&&decide (0<s) then 0 else 11):Calls Tryz.prog 101 #[.agg #[.int .i64 (k:Int),.bool neg,.string num,.string den,.string nm]] w (Fe z w):=by
 have HO:=zH hO;clear hO;obtain⟨W,hW⟩:=zE (w.alloc (.cells #[.int .i64 (k:Int),.bool neg,.string num,.string den,.string nm] 49));have hba:Below w.heap.size w W:=by rw[hW];exact zB _ _
 have hblk:aj W w.heap.size 49 [.int .i64 (k:Int),.bool neg,.string num,.string den,.string nm]:=by rw[hW];exact aj.new w _ _
 have eG:=zH (hL.below hba);clear hL;obtain⟨B,hB⟩:=zE w.heap.size;have HB:=zH hB;rw[<-hB] at hblk hba;have hc:=hblk.cells;have HF:=zH hF;have HS:=zH hS;have HW:=zH hz;clear hF hS hz;cases f
 ·go_enter Tryz.func101,Tryz.ntmps101;go_wp2_with fail;simp only[<-hW,<-hB]
  clear hW hB;refine (HO.out _ eG.out).mono ?_;rintro e w1 ⟨rfl,hb1⟩;have hk1:=hblk.below hb1 hblk.lt;have hn2:=hk1.alloc (.cells #[.string ⟨wd.toArray⟩,.int .i64 (ops:Int),.bool false,.bool false,.bool true] 168);have hs2:=aj.new w1 168 #[.string ⟨wd.toArray⟩,.int .i64 (ops:Int),.bool false,.bool false,.bool true];have hb2:Below B w (w1.alloc (.cells #[.string ⟨wd.toArray⟩,.int .i64 (ops:Int),.bool false,.bool false,.bool true] 168)):=(hba.trans (hb1.mono (Nat.le_of_lt hblk.lt))).alloc (by have:=hb1.size;have:=hblk.lt;omega) _;have hc2:=hn2.cells;clear hk1 hb1 hc;go_wp2_with fail;obtain⟨w2,hw2⟩:∃x,x=w1.alloc (.cells #[.string ⟨wd.toArray⟩,.int .i64 (ops:Int),.bool false,.bool false,.bool true] 168):=⟨_,rfl⟩
  obtain⟨C,hC⟩:∃x,x=w1.heap.size:=⟨_,rfl⟩
  simp only[<-hw2,<-hC]
  rw[<-hw2] at hn2 hs2 hb2;rw[<-hC] at hs2;clear hw2 hC hc2;refine (HF.out _).mono ?_;rintro e w3 ⟨rfl,mP⟩;have hn3:=hn2.below mP hn2.lt;have hs3:=hs2.below mP hs2.lt;have hb3:Below B w w3:=hb2.trans (mP.mono (Nat.le_of_lt hn2.lt));have hc3:=hn3.cells;have hd3:=hs3.cells;clear hn2 hs2 hb2 mP;go_wp2;go_ret;exact⟨by rw[HW.out];rfl,by rw[<-HB.out];exact hb3⟩
 ·obtain⟨b,hb⟩:=zF (decide (0<s));rw[hb] at HW;cases b
  all_goals
   go_enter Tryz.func101,Tryz.ntmps101;go_wp2_with fail;simp only[<-hW,<-hB]
   clear hW hB;refine (HO.out _ eG.out).mono ?_;rintro e w1 ⟨rfl,hb1⟩;have hk1:=hblk.below hb1 hblk.lt;have hn2:=hk1.alloc (.cells #[.string ⟨wd.toArray⟩,.int .i64 (ops:Int),.bool false,.bool false,.bool true] 168);have hs2:=aj.new w1 168 #[.string ⟨wd.toArray⟩,.int .i64 (ops:Int),.bool false,.bool false,.bool true];have hb2:Below B w (w1.alloc (.cells #[.string ⟨wd.toArray⟩,.int .i64 (ops:Int),.bool false,.bool false,.bool true] 168)):=(hba.trans (hb1.mono (Nat.le_of_lt hblk.lt))).alloc (by have:=hb1.size;have:=hblk.lt;omega) _;have hc2:=hn2.cells;clear hk1 hb1 hc;go_wp2_with fail;obtain⟨w2,hw2⟩:∃x,x=w1.alloc (.cells #[.string ⟨wd.toArray⟩,.int .i64 (ops:Int),.bool false,.bool false,.bool true] 168):=⟨_,rfl⟩
   obtain⟨C,hC⟩:∃x,x=w1.heap.size:=⟨_,rfl⟩
   simp only[<-hw2,<-hC]
   rw[<-hw2] at hn2 hs2 hb2;rw[<-hC] at hs2;clear hw2 hC hc2;refine (HF.out _).mono ?_;rintro e w3 ⟨rfl,mP⟩;have hn3:=hn2.below mP hn2.lt;have hs3:=hs2.below mP hs2.lt;have hb3:Below B w w3:=hb2.trans (mP.mono (Nat.le_of_lt hn2.lt));have hc3:=hn3.cells;have hd3:=hs3.cells;clear hn2 hs2 hb2 mP;go_wp2_with fail;refine (HS.out _).mono ?_;rintro e w4 ⟨rfl,TJ⟩;have hn4:=hn3.below TJ hn3.lt;have hs4:=hs3.below TJ hs3.lt;have hb4:Below B w w4:=hb3.trans (TJ.mono (Nat.le_of_lt hn3.lt));have hc4:=hn4.cells;have hd4:=hs4.cells;clear hn3 hs3 hb3 TJ;go_wp2;go_ret;exact⟨by rw[HW.out];rfl,by rw[<-HB.out];exact hb4⟩
theorem Wx (k ops:Nat) (wd:List UInt8) (neg:Bool) (num den nm:ByteArray) (w:World) (z:Int) (hL:dK w) (N:Bool)
  (hO:∀w,dK w->Calls Tryz.prog 142 #[.int .i64 (k:Int)] w fun e w'=>e=.returned (.tuple #[.agg #[.string ⟨wd.toArray⟩,.int .i64 (ops:Int),.bool false,.bool N,.bool false],.bool true])/\Below w.heap.size w w')
  (h4:((k:Int)==4)=false) (hnm:N=true∨nm.toList.isEmpty=true) (d b:Bool) (hd:∀w:World,(binOp .eql 43 (.agg #[.bool neg,.string num,.string den]) (.agg #[.bool false,.string ⟨#[]⟩,.string ⟨#[]⟩])).run Tryz.prog w=.ok (.bool d) w) (hI:∀W,Calls Tryz.prog 143 #[.string nm] W fun e w'=>e=.returned (.bool b)/\Below W.heap.size W w') (hz:z=if d then (if N&& !b then 12 else 0) else 11):Calls Tryz.prog 101 #[.agg #[.int .i64 (k:Int),.bool neg,.string num,.string den,.string nm]] w (Fe z w):=by
 have HO:=zH hO;clear hO;obtain⟨W,hW⟩:=zE (w.alloc (.cells #[.int .i64 (k:Int),.bool neg,.string num,.string den,.string nm] 49));have hba:Below w.heap.size w W:=by rw[hW];exact zB _ _
 have hblk:aj W w.heap.size 49 [.int .i64 (k:Int),.bool neg,.string num,.string den,.string nm]:=by rw[hW];exact aj.new w _ _
 have eG:=zH (hL.below hba);clear hL;obtain⟨B,hB⟩:=zE w.heap.size;have HB:=zH hB;rw[<-hB] at hblk hba;have hc:=hblk.cells;have HI:=zH hI;have HW:=zH hz;clear hI hz;cases N
 ·have akI:nm.toList.isEmpty=true:=by simpa using hnm
  clear hnm;cases d
  all_goals
   go_enter Tryz.func101,Tryz.ntmps101;go_wp2_with fail;simp only[<-hW,<-hB]
   clear hW hB;refine (HO.out _ eG.out).mono ?_;rintro e w1 ⟨rfl,hb1⟩;have hk1:=hblk.below hb1 hblk.lt;have hn2:=hk1.alloc (.cells #[.string ⟨wd.toArray⟩,.int .i64 (ops:Int),.bool false,.bool false,.bool false] 168);have hs2:=aj.new w1 168 #[.string ⟨wd.toArray⟩,.int .i64 (ops:Int),.bool false,.bool false,.bool false];have hb2:Below B w (w1.alloc (.cells #[.string ⟨wd.toArray⟩,.int .i64 (ops:Int),.bool false,.bool false,.bool false] 168)):=(hba.trans (hb1.mono (Nat.le_of_lt hblk.lt))).alloc (by have:=hb1.size;have:=hblk.lt;omega) _;have hc2:=hn2.cells;clear hk1 hb1 hc;go_wp2;go_ret;exact⟨by rw[HW.out];rfl,by rw[<-HB.out];exact hb2⟩
 ·clear hnm;cases d
  ·go_enter Tryz.func101,Tryz.ntmps101;go_wp2_with fail;simp only[<-hW,<-hB]
   clear hW hB;refine (HO.out _ eG.out).mono ?_;rintro e w1 ⟨rfl,hb1⟩;have hk1:=hblk.below hb1 hblk.lt;have hn2:=hk1.alloc (.cells #[.string ⟨wd.toArray⟩,.int .i64 (ops:Int),.bool false,.bool true,.bool false] 168);have hs2:=aj.new w1 168 #[.string ⟨wd.toArray⟩,.int .i64 (ops:Int),.bool false,.bool true,.bool false];have hb2:Below B w (w1.alloc (.cells #[.string ⟨wd.toArray⟩,.int .i64 (ops:Int),.bool false,.bool true,.bool false] 168)):=(hba.trans (hb1.mono (Nat.le_of_lt hblk.lt))).alloc (by have:=hb1.size;have:=hblk.lt;omega) _;have hc2:=hn2.cells;clear hk1 hb1 hc;go_wp2;go_ret;exact⟨by rw[HW.out];rfl,by rw[<-HB.out];exact hb2⟩
  ·cases b
   all_goals
    go_enter Tryz.func101,Tryz.ntmps101;go_wp2_with fail;simp only[<-hW,<-hB]
    clear hW hB;refine (HO.out _ eG.out).mono ?_;rintro e w1 ⟨rfl,hb1⟩;have hk1:=hblk.below hb1 hblk.lt;have hn2:=hk1.alloc (.cells #[.string ⟨wd.toArray⟩,.int .i64 (ops:Int),.bool false,.bool true,.bool false] 168);have hs2:=aj.new w1 168 #[.string ⟨wd.toArray⟩,.int .i64 (ops:Int),.bool false,.bool true,.bool false];have hb2:Below B w (w1.alloc (.cells #[.string ⟨wd.toArray⟩,.int .i64 (ops:Int),.bool false,.bool true,.bool false] 168)):=(hba.trans (hb1.mono (Nat.le_of_lt hblk.lt))).alloc (by have:=hb1.size;have:=hblk.lt;omega) _;have hc2:=hn2.cells;clear hk1 hb1 hc;go_wp2_with fail;obtain⟨w2,hw2⟩:∃x,x=w1.alloc (.cells #[.string ⟨wd.toArray⟩,.int .i64 (ops:Int),.bool false,.bool true,.bool false] 168):=⟨_,rfl⟩
    obtain⟨C,hC⟩:∃x,x=w1.heap.size:=⟨_,rfl⟩
    simp only[<-hw2,<-hC]
    rw[<-hw2] at hn2 hs2 hb2;rw[<-hC] at hs2;clear hw2 hC hc2;refine (HI.out _).mono ?_;rintro e w3 ⟨rfl,mP⟩;have hn3:=hn2.below mP hn2.lt;have hs3:=hs2.below mP hs2.lt;have hb3:Below B w w3:=hb2.trans (mP.mono (Nat.le_of_lt hn2.lt));have hc3:=hn3.cells;have hd3:=hs3.cells;clear hn2 hs2 hb2 mP;go_wp2;go_ret;exact⟨by rw[HW.out];rfl,by rw[<-HB.out];exact hb3⟩
theorem Wy (k ops:Nat) (wd:List UInt8) (neg:Bool) (num den nm:ByteArray) (w:World) (z:Int) (hL:dK w)
  (hO:∀w,dK w->Calls Tryz.prog 142 #[.int .i64 (k:Int)] w fun e w'=>e=.returned (.tuple #[.agg #[.string ⟨wd.toArray⟩,.int .i64 (ops:Int),.bool true,.bool false,.bool false],.bool true])/\Below w.heap.size w w')
  (h4:((k:Int)==4)=true) (hnm:nm.toList.isEmpty=true) (d0 d1:Bool) (hq0:∀w:World,(binOp .eql 43 (.agg #[.bool neg,.string num,.string den]) (.agg #[.bool (aS 0).neg,.string (aS 0).num,.string (aS 0).den])).run Tryz.prog w=.ok (.bool d0) w) (hq1:∀w:World,(binOp .eql 43 (.agg #[.bool neg,.string num,.string den]) (.agg #[.bool (aS 1).neg,.string (aS 1).num,.string (aS 1).den])).run Tryz.prog w=.ok (.bool d1) w) (hz:z=if d0||d1 then 0 else 11):Calls Tryz.prog 101 #[.agg #[.int .i64 (k:Int),.bool neg,.string num,.string den,.string nm]] w (Fe z w):=by
 have HO:=zH hO;have HW:=zH hz;have MG:=zH (fun w=>lY 0 w (by omega) (by omega));have rU:=zH (fun w=>lY 1 w (by omega) (by omega));unfold Ra.v at MG rU;have ahU:(!nm.toList.isEmpty)=false:=by rw[hnm];rfl
 clear hO hz;go_enter Tryz.func101,Tryz.ntmps101
 go_upto_region 1 with fail
 generalize hX:w.alloc _=W;obtain⟨hk,hb⟩:=zA hX;have HL:=zH (hL.below hb);have hc:=hk.cells;clear hX hL;go_wp2_with fail;refine (HO.out _ HL.out).mono ?_;rintro e w1 ⟨rfl,hb1⟩;replace hk:=hk.below hb1 hk.lt;replace hb:=hb.trans (hb1.mono hb.size);clear hc HL;have hc:=hk.cells
 go_upto_region 2 with fail
 generalize hX:World.alloc w1 _=W2;obtain⟨hk2,hb2⟩:=zA hX;replace hk:=hk.below hb2 hk.lt;replace hb:=hb.trans (hb2.mono hb.size);clear hX hc hb1 hb2;have hcc:=fun X (h:Below W2.heap.size W2 X)=>And.intro (hk.below h hk.lt).cells (hk2.below h hk2.lt).cells
 have hl:=hcc _ (Below.refl _ _);clear hk hk2
 go_upto_region 6 with fail
 clear hl;refine dN (Below W2.heap.size W2) 99 (ak _ _ 1) (fun v hv hS=>?_)
 iterate 2 refine aW ?_
 refine cO 2 (MG.out v) ?_;rintro e v1 ⟨rfl,hb3⟩;refine⟨_,rfl,hS.trans (hb3.mono hS.size),fun hS=>?_⟩
 iterate 2 refine aW ?_
 cases d0
 ·iterate 2 refine aW ?_
  refine cO 7 (rU.out v1) ?_;rintro e v2 ⟨rfl,hb4⟩;refine⟨_,rfl,hS.trans (hb4.mono hS.size),fun hS=>?_⟩
  iterate 3 refine aW ?_
  refine dH ?_;have hl:=hcc _ hS;cases d1
  all_goals
   go_wp2;go_ret;exact⟨by rw[HW.out];rfl,hb.trans (hS.mono hb.size)⟩
 ·refine oh 5 ?_;refine oh 6 ?_;refine oh 7 ?_;refine oh 8 ?_
  iterate 2 refine aW ?_
  refine dH ?_;have hl:=hcc _ hS;go_wp2;go_ret;exact⟨by rw[HW.out];rfl,hb.trans (hS.mono hb.size)⟩
def Fine (n:Nd):Prop:=n.num.num.size<=1048576/\n.num.den.size<=1048576
theorem WC (n:Nd) (w:World) (hL:dK w) (hf:Fine n):Calls Tryz.prog 101 #[n.v] w (Fe (aQ n) w):=by
 obtain⟨hn,hd⟩:=hf;by_cases h:n.op<1∨24<n.op
 ·have e:aQ n=11:=by
   unfold aQ;rw[if_pos (by rcases h with h|h;exact .inl h;exact .inr (.inl h))]
  rw[e];exact Ws n w h
 ·obtain⟨k,hk⟩:∃k:Nat,n.op=k:=⟨n.op.toNat,by omega⟩
  have hk0:1<=k:=by omega
  have hk1:k<=24:=by omega
  have HO:=fun w hL=>ad9 k w hL hk0 hk1
  obtain⟨f1,f2,f3⟩:=Wq k hk1
  have hW:aQ n=if ((aB (k:Int)).dF=false/\n.name≠⟨#[]⟩)∨gX n=false then 11 else if (aB (k:Int)).dF&& !nameB n.name.data.toList then 12 else 0:=by
   unfold aQ;rw[hk];have a1:¬((k:Int)<1):=by omega
   have a2:¬(24<(k:Int)):=by omega
   simp only[a1,a2,false_or]
  have hU:gX n=if (k:Int)=4 then decide (n.num=aS 0)||decide (n.num=aS 1) else if (aB (k:Int)).lit then aV n.num else if (aB (k:Int)).dJ then aV n.num&&decide (0<eH n.num) else decide (n.num=zR):=by
   unfold gX;rw[hk]
  have HF:=fun W=>uJ n.num W (by omega) (by omega)
  have HS:=fun W=>uH n.num W (by omega) (by omega)
  have HI:=fun W=>Tz n.name W
  have MG:=fun W=>wO n.num (aS 0) W
  have rU:=fun W=>wO n.num (aS 1) W
  have Qx:=fun W=>wO n.num zR W
  obtain⟨op,num,nm⟩:=n;simp only at hk;subst hk
  have hem:(nm.toList.isEmpty=true)↔nm=⟨#[]⟩:=by
   have e0:(⟨#[]⟩:ByteArray).toList=[]:=by rw[ByteArray.toList_eq]
   rw[List.isEmpty_iff];exact⟨fun h=>toList_inj (by rw[h,e0]),fun h=>by rw[h,e0]⟩
  generalize aB (k:Int)=s at*;obtain⟨wd,ops,lit,dF,dJ⟩:=s;obtain⟨neg,nu,de⟩:=num;simp only at*;simp only[Sh.v] at HO;simp only[Ra.v] at HF HS MG rU Qx;show Calls _ _ #[.agg #[.int .i64 (k:Int),.bool neg,.string nu,.string de,.string nm]] _ _;by_cases hno:dF=false/\nm≠⟨#[]⟩
  ·obtain⟨rfl,hne⟩:=hno;refine MF k ops wd lit dJ neg nu de nm w _ hL HO ?_ ?_
   ·cases he:nm.toList.isEmpty
    ·rfl
    ·exact absurd (hem.1 he) hne
   ·rw[hW,if_pos (.inl ⟨rfl,hne⟩)]
  ·have hnm:dF=true∨nm.toList.isEmpty=true:=by
    cases dF
    ·refine .inr (hem.2 (Classical.byContradiction fun hc=>hno ⟨rfl,hc⟩))
    ·exact .inl rfl
   have hW2:aQ ⟨(k:Int),⟨neg,nu,de⟩,nm⟩=if gX ⟨(k:Int),⟨neg,nu,de⟩,nm⟩ then (if dF&& !nameB nm.data.toList then 12 else 0) else 11:=by
    rw[hW];cases gX ⟨(k:Int),⟨neg,nu,de⟩,nm⟩
    ·rw[if_pos (.inr rfl)];rfl
    ·rw[if_neg (by rintro (h|h);exact hno h;cases h)];rfl
   by_cases h4:k=4
   ·have hl:lit=true:=f1.2 (by omega)
    have hs:dJ=false:=by
     cases dJ
     ·rfl
     ·have:=f2.1 rfl;omega
    have hn:dF=false:=by
     cases dF
     ·rfl
     ·have:=f3.1 rfl;omega
    subst hl hs hn;refine Wy k ops wd neg nu de nm w _ hL HO (by rw[beq_iff_eq];omega) (by simpa using hnm) _ _ MG rU ?_;have h4':(k:Int)=4:=by omega
    rw[hW2,hU,if_pos h4'];simp only[Bool.false_and,Bool.false_eq_true,if_false]
   ·have h4':((k:Int)==4)=false:=by rw[beq_eq_false_iff_ne];omega
    have Zi:¬((k:Int)=4):=by omega
    cases lit
    ·cases dJ
     ·refine Wx k ops wd neg nu de nm w _ hL dF HO h4' hnm _ _ Qx HI ?_;rw[hW2,hU,if_neg Zi];simp
     ·have hn:dF=false:=by
       cases dF
       ·rfl
       ·have:=f3.1 rfl;have:=f2.1 rfl;omega
      subst hn;refine Wv k ops wd neg nu de nm w _ hL HO h4' (by simpa using hnm) _ _ HF HS ?_;rw[hW2,hU,if_neg Zi];simp
    ·have hs:dJ=false:=by
      cases dJ
      ·rfl
      ·have:=f2.1 rfl;have:=f1.1 rfl;omega
     have hn:dF=false:=by
      cases dF
      ·rfl
      ·have:=f3.1 rfl;have:=f1.1 rfl;omega
     subst hs hn;refine Wu k ops wd neg nu de nm w _ hL HO h4' (by simpa using hnm) _ HF ?_;rw[hW2,hU,if_neg Zi];simp
def eP (es:List Nd):List Value:=es.flatMap Nd.cells
def ahV (w:World) (b o:Nat) (n:Nd):Prop:=
 w.cell? ⟨b,o,none⟩=some (.int .i64 n.op)/\w.cell? ⟨b,o+1,none⟩=some (.bool n.num.neg)/\w.cell? ⟨b,o+2,none⟩=some (.string n.num.num)/\w.cell? ⟨b,o+3,none⟩=some (.string n.num.den)/\w.cell? ⟨b,o+4,none⟩=some (.string n.name)
theorem Ae (es:List Nd):(eP es).length=es.length*5:=by
 induction es with
 |nil=>rfl
 |cons n es ih=>show (n.cells++eP es).length=_;rw[List.length_append,ih,List.length_cons];show 5+_=_;omega
theorem acG (es:List Nd) (k i:Nat) (hk:k<es.length) (hi:i<5):(eP es)[k*5+i]?=es[k].cells[i]?:=by
 have h:=uf Nd.cells 5 (fun _=>rfl) es k i hi;rw[List.getElem?_eq_getElem hk] at h;exact h
theorem Rd.nd {w:World} {A:Option Addr} {es:List Nd} (h:Rd w A (eP es)) {k:Nat} (hk:k<es.length):
  ∃b off,A=some ⟨b,off,none⟩/\b<w.heap.size/\ahV w b (off+k*5) es[k]:=by
 obtain⟨b,off,e,hb,hc⟩:=h.at_ (k:=k*5) (by rw[Ae];omega)
 have key:∀i (hi:i<5),w.cell? ⟨b,off+(k*5+i),none⟩=(es[k].cells)[i]?:=fun i hi=>by
  have hl:k*5+i<(eP es).length:=by rw[Ae];omega
  rw[hc _ hl,<-acG es k i hk hi,List.getElem?_eq_getElem hl]
 exact⟨b,off,e,hb,key 0 (by omega),key 1 (by omega),key 2 (by omega),key 3 (by omega),key 4 (by omega)⟩
theorem JH {n:Nd} (h:aQ n=0):1<=n.op/\n.op<=24:=by
 unfold aQ at h;split at h
 ·cases h
 ·next hc=>
  exact⟨Classical.byContradiction fun hh=>hc (.inl (by omega)),Classical.byContradiction fun hh=>hc (.inr (.inl (by omega)))⟩
theorem Pj (n:Nd):aQ n=0∨aQ n=11∨aQ n=12:=by
 unfold aQ;split
 ·exact .inr (.inl rfl)
 ·split
  ·exact .inr (.inr rfl)
  ·exact .inl rfl
theorem Af (n:Int):(aB n).ops<=3:=by
 have h:∀s∈iQ,s.ops<=3:=by decide
 unfold aB;rw[List.getD_eq_getElem?_getD];cases hg:iQ[n.toNat]? with
 |none=>show 0<=3;omega
 |some s=>exact h s (List.mem_of_getElem? hg)
theorem check_any (es:List Nd) (A:Option Addr) (len cap:Nat) (w:World) (hL:dK w) (hlen:len=es.length) (hcap:len<=cap) (hm:cap<=maxLen) (hr:Rd w A (eP es)) (hf:∀n∈es,Fine n):
  Calls Tryz.prog 50 #[.slice A len cap] w fun e w'=>e=.returned (.int .i64 (bQ es))/\Below w.heap.size w w':=by
 unfold maxLen at hm;by_cases h60:60<len
 ·have HV:Hid (bQ es=2):=by show _=_;unfold bQ;rw[if_pos (by omega)]
  have ahW:(60:Int)<len:=by omega
  clear hlen hL hr hf;go_enter Tryz.func50,Tryz.ntmps50;go_wp2;go_ret;exact⟨by rw[HV.out];rfl,Below.refl _ _⟩
 ·have HV:Hid (bQ es=chk es 0):=by show _=_;unfold bQ;rw[if_neg (by omega)]
  have ahW:¬(60:Int)<len:=by omega
  have HL:=zH hL;have HR:=zH hr;have HF:=zH hf;have HLEN:=zH hlen;have hle:len<=60:=by omega
  clear hlen hL hr hf h60;go_enter Tryz.func50,Tryz.ntmps50;go_wp2
  go_loopg [3,12] len (fun g dv iv wr=>∃k d:Nat,k+g=len/\d<=k/\dv=.int .i64 d/\iv=.int .i64 k/\Hid (chk es 0=chk (es.drop k) d)/\Below w.heap.size w wr)
  case atStart=>exact⟨0,0,by omega,by omega,rfl,rfl,rfl,Below.refl _ _⟩
  case round=>
   obtain⟨k,d,hk,hd,rfl,rfl,hch,hbw⟩:=hrel;by_cases hlt:k<len
   ·have hke:k<es.length:=by rw[<-HLEN.out];exact hlt
    obtain⟨b,off,rfl,hb,hc0,hc1,hc2,hc3,hc4⟩:=(HR.out.below hbw).nd hke;have hfin:=HF.out _ (List.getElem_mem hke);have HD:Hid (chk (es.drop k) d=chk (es[k]::es.drop (k+1)) d):=by show _=_;rw[List.drop_eq_getElem_cons hke]
    have JI:=zH (fun w hL=>WC es[k] w hL hfin);generalize es[k]=n at*;obtain⟨op,⟨neg,num,den⟩,nm⟩:=n;simp only at hc0 hc1 hc2 hc3 hc4;have hll:=HL.out.below hbw;have hla:=hll.alloc (.cells #[.int .i64 op,.bool neg,.string num,.string den,.string nm] 49);have lU:=zH hla;have hba:Below w.heap.size w (wr.alloc (.cells #[.int .i64 op,.bool neg,.string num,.string den,.string nm] 49)):=hbw.alloc hbw.size _;have hka:=aj.new wr 49 #[.int .i64 op,.bool neg,.string num,.string den,.string nm];have hv:=Pj ⟨op,⟨neg,num,den⟩,nm⟩;have hop:aQ ⟨op,⟨neg,num,den⟩,nm⟩=0->1<=op/\op<=24:=JH
    have Eu:Hid (∀z,aQ ⟨op,⟨neg,num,den⟩,nm⟩=z->chk es 0=if z≠0 then z else if d<(aB op).ops then 11 else chk (es.drop (k+1)) (d-(aB op).ops+1)):=by
     rintro z rfl;rw[hch.out,HD.out,chk]
    clear hla hll hfin;obtain⟨z,hz⟩:=zF (aQ ⟨op,⟨neg,num,den⟩,nm⟩);have Eu:=zH (Eu.out z hz);rw[hz] at JI hv hop;clear hz HD hch;by_cases hz0:z=0
    ·subst hz0;obtain⟨o1,o2⟩:=hop rfl;obtain⟨p,rfl⟩:∃p:Nat,op=p:=⟨op.toNat,by omega⟩
     have hol:=Af (p:Int);clear hv;go_wp2_with fail;refine (JI.out _ lU.out).mono ?_;rintro e w2 ⟨rfl,hb2⟩;have hk2:=hka.below hb2 hka.lt;have hcB:=hk2.cells;have ht:=(lU.out.below hb2).cell p 1 (by omega) (by omega)
     have HC:Hid (chk es 0=if d<(aB (p:Int)).ops then 11 else chk (es.drop (k+1)) (d-(aB (p:Int)).ops+1)):=by
      have:=Eu.out;rwa[if_neg (by simp)] at this
     simp only[Sh.cells,List.getElem?_cons_succ,List.getElem?_cons_zero] at ht;generalize aB (p:Int)=s at*;obtain⟨wd,o,l1,l2,l3⟩:=s;simp only at ht hol HC;have HB:=zH (ah hba hb2);clear Eu hk2 hka hb2 hba JI;by_cases hdo:d<o
     ·have e1:(d:Int)-o<0:=by omega
      go_wp2;go_ret;exact⟨by rw[HV.out,HC.out,if_pos hdo];rfl,HB.out⟩
     ·have e1:0<=(d:Int)-o:=by omega
      go_wp2
      go_roundg (len-(k+1))
      case measure=>omega
      case rel=>
       refine⟨k+1,d-o+1,by omega,by omega,by go_num,by go_num,?_,HB.out⟩;show _=_;rw[HC.out,if_neg hdo]
    ·have e1:(z==0)=false:=by simp[hz0]
     have e2:(z !=0)=true:=by simp[hz0]
     go_wp2_with fail;refine (JI.out _ lU.out).mono ?_;rintro e w2 ⟨rfl,hb2⟩;go_wp2;go_ret;exact⟨by rw[HV.out,Eu.out,if_pos hz0];rfl,ah hba hb2⟩
   ·have hkl:k=len:=by omega
    have hg0:gk=0:=by omega
    have HD:Hid (es.drop k=[]):=by show _=_;rw[hkl,HLEN.out,List.drop_length]
    by_cases h1:d=1
    ·have e1:((d:Int) !=1)=false:=by rw[h1];rfl
     go_wp2;go_ret;refine⟨?_,hbw⟩;rw[HV.out,hch.out,HD.out,h1];rfl
    ·have e1:((d:Int) !=1)=true:=by rw[bne_iff_ne];omega
     go_wp2;go_ret;refine⟨?_,hbw⟩;rw[HV.out,hch.out,HD.out,chk,if_neg h1];rfl
theorem acH (n:Int) (h:n<1∨24<n):aB n=vF:=by
 unfold aB;rcases h with h|h
 ·rw[show n.toNat=0 from by omega];rfl
 ·rw[List.getD_eq_getElem?_getD,List.getElem?_eq_none (by show 25<=_;omega)];rfl
theorem yV (P:Int->Sh->Prop) (h:∀k∈List.range 25,P (k:Int) (aB (k:Int))) (ho:∀n:Int,(n<1∨24<n)->P n vF) (n:Int):P n (aB n):=by
 by_cases hh:n<1∨24<n
 ·rw[acH n hh];exact ho n hh
 ·have:=h n.toNat (List.mem_range.2 (by omega));rwa[show ((n.toNat:Nat):Int)=n from by omega] at this
theorem IU (n:Int):((aB n).ops:Int)=if n=15 then 3 else if (9<=n/\n<=14)∨(16<=n/\n<=19) then 2 else if 20<=n/\n<=24 then 1 else 0:=by
 refine yV (fun n s=>(s.ops:Int)=if n=15 then 3 else if (9<=n/\n<=14)∨(16<=n/\n<=19) then 2 else if 20<=n/\n<=24 then 1 else 0) (by decide) ?_ n;intro n h;rw[if_neg (by omega),if_neg (by omega),if_neg (by omega)];rfl
theorem Qy (n:Int):(aB n).dF=decide ((5<=n/\n<=8)∨n=24):=by
 refine yV (fun n s=>s.dF=decide ((5<=n/\n<=8)∨n=24)) (by decide) ?_ n;intro n h;rw[decide_eq_false (by omega)];rfl
theorem Qz (n:Int):(aB n).dJ=decide (21<=n/\n<=23):=by
 refine yV (fun n s=>s.dJ=decide (21<=n/\n<=23)) (by decide) ?_ n;intro n h;rw[decide_eq_false (by omega)];rfl
theorem yX (n:Int):(aB n).lit=decide (1<=n/\n<=4):=by
 refine yV (fun n s=>s.lit=decide (1<=n/\n<=4)) (by decide) ?_ n;intro n h;rw[decide_eq_false (by omega)];rfl
theorem Ew (n:Nd):(n.op<1/\aQ n=11)∨(1<=n.op/\24<n.op/\aQ n=11)∨(1<=n.op/\n.op<=24/\gX n=false/\aQ n=11)∨
  (1<=n.op/\n.op<=24/\gX n=true/\(aB n.op).dF=false/\n.name.toList.isEmpty=false/\aQ n=11)∨
  (1<=n.op/\n.op<=24/\gX n=true/\(aB n.op).dF=false/\n.name.toList.isEmpty=true/\aQ n=0)∨
  (1<=n.op/\n.op<=24/\gX n=true/\(aB n.op).dF=true/\nameB n.name.data.toList=false/\aQ n=12)∨
  (1<=n.op/\n.op<=24/\gX n=true/\(aB n.op).dF=true/\nameB n.name.data.toList=true/\aQ n=0):=by
 by_cases h1:n.op<1
 ·exact .inl ⟨h1,by unfold aQ;rw[if_pos (.inl h1)]⟩
 by_cases h2:24<n.op
 ·exact .inr (.inl ⟨by omega,h2,by unfold aQ;rw[if_pos (.inr (.inl h2))]⟩)
 refine .inr (.inr ?_);have a1:1<=n.op:=by omega
 have a2:n.op<=24:=by omega
 cases h3:gX n
 ·exact .inl ⟨a1,a2,rfl,by unfold aQ;rw[if_pos (.inr (.inr (.inr h3)))]⟩
 refine .inr ?_;cases h4:(aB n.op).dF
 ·cases h5:n.name.toList.isEmpty
  ·exact .inl ⟨a1,a2,rfl,rfl,rfl,by unfold aQ;rw[if_pos (.inr (.inr (.inl ⟨h4,fun h=>by rw[(DI _).2 h] at h5;cases h5⟩)))]⟩
  ·refine .inr (.inl ⟨a1,a2,rfl,rfl,rfl,?_⟩);unfold aQ;rw[if_neg (by rintro (h|h|h|h);exact h1 h;exact h2 h;exact h.2 ((DI _).1 h5);rw[h3] at h;cases h),h4];rfl
 ·have hw:aQ n=if !nameB n.name.data.toList then 12 else 0:=by
   unfold aQ;rw[if_neg (by rintro (h|h|h|h);exact h1 h;exact h2 h;rw[h4] at h;cases h.1;rw[h3] at h;cases h),h4,Bool.true_and]
  refine .inr (.inr ?_);cases h5:nameB n.name.data.toList
  ·exact .inl ⟨a1,a2,rfl,rfl,rfl,by rw[hw,h5];rfl⟩
  ·exact .inr ⟨a1,a2,rfl,rfl,rfl,by rw[hw,h5];rfl⟩
theorem JJ (w:World) (n m:Nat):(w.drewN n).drewN m=w.drewN (n+m):=World.drewN_drewN _ _ _
theorem TL (es fs:List Nd) (A1 A2:Option Addr) (l1 c1 l2 c2:Nat) (w:World) (h1:l1=es.length) (h2:l2=fs.length) (hm1:l1<=maxLen) (hm2:l2<=maxLen) (hr1:Rd w A1 (eP es)) (hr2:Rd w A2 (eP fs)):
  Calls Tryz.prog 94 #[.slice A1 l1 c1,.slice A2 l2 c2] w fun e w'=>e=.returned (.bool (decide (es=fs)))/\∃n,w'=w.drewN n:=by
 unfold maxLen at hm1 hm2;by_cases hl:l1=l2
 ·subst hl;have HR1:=zH hr1;have HR2:=zH hr2;have WE:=zH h1;have HL2:=zH h2;clear hr1 hr2 h1 h2;go_enter Tryz.func94,Tryz.ntmps94;go_wp2
  go_loopg [13] l1 (fun g iv wr=>∃k:Nat,k+g=l1/\iv=.int .i64 k/\Hid (decide (es=fs)=decide (es.drop k=fs.drop k))/\Hid (∃n,wr=w.drewN n))
  case atStart=>exact⟨0,by omega,rfl,rfl,0,rfl⟩
  case round=>
   obtain⟨k,hk,rfl,hd,hw⟩:=hrel;by_cases hlt:k<l1
   ·have hk1:k<es.length:=by rw[<-WE.out];exact hlt
    have hk2:k<fs.length:=by rw[<-HL2.out];exact hlt
    obtain⟨n,rfl⟩:=hw.out;obtain⟨b1,off1,rfl,hb1,x0,x1,x2,x3,x4⟩:=HR1.out.nd hk1;obtain⟨b2,off2,rfl,hb2,y0,y1,y2,y3,y4⟩:=HR2.out.nd hk2
    have HD:Hid (decide (es=fs)=decide (es[k]::es.drop (k+1)=fs[k]::fs.drop (k+1))):=by
     show _=_;rw[hd.out,List.drop_eq_getElem_cons hk1,List.drop_eq_getElem_cons hk2]
    have hq:=fun W=>Wp es[k] fs[k] W
    generalize es[k]=x at*;generalize fs[k]=y at*
    have HD1:Hid (x≠y->decide (es=fs)=false):=by
     intro h;rw[HD.out];exact decide_eq_false (fun hh=>h (by injection hh))
    have HD2:Hid (x=y->decide (es=fs)=decide (es.drop (k+1)=fs.drop (k+1))):=by
     intro h;rw[HD.out,decide_eq_decide,h];exact⟨fun hh=>by injection hh,fun hh=>by rw[hh]⟩
    clear HD hd hb1 hb2 hw;obtain⟨d,hdd⟩:=zF (decide (x=y));rw[hdd] at hq;have GU:=zH hdd;clear hdd;obtain⟨op,⟨neg,num,den⟩,nm⟩:=x;obtain⟨op',⟨neg',num',bZ⟩,nm'⟩:=y;unfold Nd.v at hq;simp only at x0 x1 x2 x3 x4 y0 y1 y2 y3 y4 hq;cases d
    ·go_wp2;go_quiet (fail);go_wp2;go_ret;exact⟨by rw[HD1.out (of_decide_eq_false GU.out)];rfl,_,JJ _ _ _⟩
    ·go_wp2;go_quiet (fail);go_wp2
     go_roundg (l1-(k+1))
     case measure=>omega
     case rel=>exact⟨k+1,by omega,by go_num,HD2.out (of_decide_eq_true GU.out),_,rfl⟩
   ·obtain⟨n,rfl⟩:=hw.out;go_wp2;go_ret;refine⟨?_,n,rfl⟩;rw[hd.out,List.drop_eq_nil_of_le (by have:=WE.out;omega),List.drop_eq_nil_of_le (by have:=HL2.out;omega)];rfl
 ·have HV:Hid (decide (es=fs)=false):=decide_eq_false (fun h=>hl (by rw[h1,h2,h]));have e1:((l1:Int) !=l2)=true:=by rw[bne_iff_ne];omega
  clear hr1 hr2 h1 h2;go_enter Tryz.func94,Tryz.ntmps94;go_wp2;go_ret;exact⟨by rw[HV.out];rfl,0,rfl⟩
theorem WG (es fs:List Nd) (A1 A2:Option Addr) (l1 c1 l2 c2:Nat) (w:World) (h1:l1=es.length) (h2:l2=fs.length) (hm1:l1<=maxLen) (hm2:l2<=maxLen) (hr1:Rd w A1 (eP es)) (hr2:Rd w A2 (eP fs)):
  Calls Tryz.prog 95 #[.slice A1 l1 c1,.slice A2 l2 c2] w fun e w'=>e=.returned (.bool (decide (es=fs)))/\∃n,w'=w.drewN n:=by
 unfold maxLen at hm1 hm2;by_cases hl:l1=l2
 ·subst hl;have HR1:=zH hr1;have HR2:=zH hr2;have WE:=zH h1;have HL2:=zH h2;clear hr1 hr2 h1 h2;go_enter Tryz.func95,Tryz.ntmps95;go_wp2
  go_loopg [5] l1 (fun g iv wr=>∃k:Nat,k+g=l1/\iv=.int .i64 k/\Hid (decide (es=fs)=decide (es.drop k=fs.drop k))/\Hid (∃n,wr=w.drewN n))
  case atStart=>exact⟨0,by omega,rfl,rfl,0,rfl⟩
  case round=>
   obtain⟨k,hk,rfl,hd,hw⟩:=hrel;by_cases hlt:k<l1
   ·have hk1:k<es.length:=by rw[<-WE.out];exact hlt
    have hk2:k<fs.length:=by rw[<-HL2.out];exact hlt
    obtain⟨n,rfl⟩:=hw.out;obtain⟨b1,off1,rfl,hb1,x0,x1,x2,x3,x4⟩:=HR1.out.nd hk1;obtain⟨b2,off2,rfl,hb2,y0,y1,y2,y3,y4⟩:=HR2.out.nd hk2
    have HD:Hid (decide (es=fs)=decide (es[k]::es.drop (k+1)=fs[k]::fs.drop (k+1))):=by
     show _=_;rw[hd.out,List.drop_eq_getElem_cons hk1,List.drop_eq_getElem_cons hk2]
    have hq:=fun W=>Wp es[k] fs[k] W
    generalize es[k]=x at*;generalize fs[k]=y at*
    have HD1:Hid (x≠y->decide (es=fs)=false):=by
     intro h;rw[HD.out];exact decide_eq_false (fun hh=>h (by injection hh))
    have HD2:Hid (x=y->decide (es=fs)=decide (es.drop (k+1)=fs.drop (k+1))):=by
     intro h;rw[HD.out,decide_eq_decide,h];exact⟨fun hh=>by injection hh,fun hh=>by rw[hh]⟩
    clear HD hd hb1 hb2 hw;obtain⟨d,hdd⟩:=zF (decide (x=y));rw[hdd] at hq;have GU:=zH hdd;clear hdd;obtain⟨op,⟨neg,num,den⟩,nm⟩:=x;obtain⟨op',⟨neg',num',bZ⟩,nm'⟩:=y;unfold Nd.v at hq;simp only at x0 x1 x2 x3 x4 y0 y1 y2 y3 y4 hq;cases d
    ·go_wp2;go_quiet (fail);go_wp2;go_ret;exact⟨by rw[HD1.out (of_decide_eq_false GU.out)];rfl,_,JJ _ _ _⟩
    ·go_wp2;go_quiet (fail);go_wp2
     go_roundg (l1-(k+1))
     case measure=>omega
     case rel=>exact⟨k+1,by omega,by go_num,HD2.out (of_decide_eq_true GU.out),_,rfl⟩
   ·obtain⟨n,rfl⟩:=hw.out;go_wp2;go_ret;refine⟨?_,n,rfl⟩;rw[hd.out,List.drop_eq_nil_of_le (by have:=WE.out;omega),List.drop_eq_nil_of_le (by have:=HL2.out;omega)];rfl
 ·have HV:Hid (decide (es=fs)=false):=decide_eq_false (fun h=>hl (by rw[h1,h2,h]));have e1:((l1:Int) !=l2)=true:=by rw[bne_iff_ne];omega
  clear hr1 hr2 h1 h2;go_enter Tryz.func95,Tryz.ntmps95;go_wp2;go_ret;exact⟨by rw[HV.out];rfl,0,rfl⟩
theorem WH (es fs:List Nd) (A1 A2:Option Addr) (l1 c1 l2 c2:Nat) (w:World) (h1:l1=es.length) (h2:l2=fs.length) (hm1:l1<=maxLen) (hm2:l2<=maxLen) (hr1:Rd w A1 (eP es)) (hr2:Rd w A2 (eP fs)):
  Calls Tryz.prog 41 #[.slice A1 l1 c1,.slice A2 l2 c2] w fun e w'=>e=.returned (.bool (decide (es=fs)))/\∃n,w'=w.drewN n:=by
 have HE:=zH (TL es fs A1 A2 l1 c1 l2 c2 w h1 h2 hm1 hm2 hr1 hr2);generalize decide (es=fs)=d at*;clear h1 h2 hm1 hm2 hr1 hr2;go_enter Tryz.func41,Tryz.ntmps41;go_wp2_with fail;refine HE.out.mono ?_;rintro e w1 ⟨rfl,n,rfl⟩;go_wp2;go_ret;exact⟨rfl,n,rfl⟩
structure Es (w:World) (es:List Nd) (A:Option Addr) (n c:Nat):Prop where
 len:n=es.length
 cap:n<=c
 max:c<=maxLen
 rd:Rd w A (eP es)
theorem Es.below {w w':World} {es:List Nd} {A:Option Addr} {n c:Nat} (h:Es w es A n c) (hb:Below w.heap.size w w'):Es w' es A n c:=⟨h.len,h.cap,h.max,h.rd.below hb⟩
theorem Es.nil (w:World):Es w [] none 0 0:=⟨rfl,Nat.le_refl _,by unfold maxLen;omega,.inl rfl⟩
theorem jZ:(Tryz.prog.info? 49).map (fun i=>(i.zero,i.size,i.bytes))=some (some (.agg #[.int .i64 0,.bool false,.string ⟨#[]⟩,.string ⟨#[]⟩,.string ⟨#[]⟩]),5,64):=by kernel_rfl
theorem acI (es:List Nd):∀u∈eP es,u.oneCell'=true:=by
 intro u hu;obtain⟨n,_,h⟩:=List.mem_flatMap.1 hu;simp only[Nd.cells,List.mem_cons,List.not_mem_nil,or_false] at h;rcases h with rfl|rfl|rfl|rfl|rfl<;>rfl
theorem mQ (a b:List Nd):eP (a++b)=eP a++eP b:=List.flatMap_append
def abw (r:List Nd × Int) (w:World) (e:Ending) (w':World):Prop:=∃A n c,e=.returned (.tuple #[.slice A n c,.int .i64 r.2])/\Es w' r.1 A n c/\Below w.heap.size w w'
theorem abw.bad {r:List Nd × Int} {z:Int} {w w':World} (h:r=([],z)) (hb:Below w.heap.size w w'):abw r w (.returned (.tuple #[.slice none 0 0,.int .i64 z])) w':=
 ⟨none,0,0,by rw[h],by rw[h];exact Es.nil _,hb⟩
theorem wP {w:World} {base:Nat} {e:TypeId} {size:Nat} {v:Value} {n:Nat} {xs:List Value} (h:w.ownsRow base e size v n xs) (hn:0<n):∃g cap,v=.slice (some ⟨g,0,none⟩) n cap/\base<=g:=by
 rcases h.2 with⟨_,h0⟩|⟨g,cap,cur,hv,hb,_⟩
 ·omega
 ·exact⟨g,cap,hv,hb⟩
theorem aea (e:List Nd):∀d,chk e d=0->∀n∈e,aQ n=0:=by
 induction e with
 |nil=>intro d _ n hn;cases hn
 |cons m r ih=>
  intro d h n hn;rw[chk] at h;split at h
  ·next h1=>exact absurd h h1
  ·next h1=>
   split at h
   ·cases h
   ·rcases List.mem_cons.1 hn with rfl|hn
    ·simpa using h1
    ·exact ih _ h n hn
theorem xO {es:List Nd} (h:bQ es=0):∀n∈es,aQ n=0:=by
 unfold bQ at h;split at h
 ·cases h
 ·exact aea es 0 h
end Go.Proofs.YtimokmplkpbmdaaGreatDoor
