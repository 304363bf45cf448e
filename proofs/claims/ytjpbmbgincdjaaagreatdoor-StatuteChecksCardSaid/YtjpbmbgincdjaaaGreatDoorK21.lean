/- Part: E2 E3 K1 E4 E5 E6 E7 G1 G2 G3 G4 G5 G6 E8 G7. -/
import Derived.Test.YtjpbmbgincdjaaaGreatDoorK19
import Derived.Test.YtjpbmbgincdjaaaGreatDoorK20
set_option linter.all false
set_option maxRecDepth 100000
set_option maxHeartbeats 0
namespace Go.Proofs.YtjpbmbgincdjaaaGreatDoor
open Go.RowKit List Tryz
theorem dropWhile_nil {α:Type} (p:α->Bool) (l:List α):l.dropWhile p=[]↔∀x∈l,p x=true:=by
 induction l with
 |nil=>simp
 |cons a l ih=>
  rw[dropWhile_cons];split
  ·next h=>rw[ih];simp[h]
  ·next h=>simp[h]
theorem Lj (l cs:List UInt8):(Lib.trimS l cs).isEmpty=l.all (cs.contains ·):=by
 unfold Lib.trimS Lib.trimLeftS Lib.trimRightS;rw[Bool.eq_iff_iff,isEmpty_iff,dropWhile_nil,all_eq_true];constructor
 ·intro h
  have h2:l.reverse.dropWhile (cs.contains ·)=[]:=by
   rcases hd:l.reverse.dropWhile (cs.contains ·) with _|⟨a,t⟩
   ·rfl
   ·exfalso;have h3:=h a (by rw[hd];simp);have h4:=head_dropWhile_not (cs.contains ·) (l:=l.reverse) (by rw[hd];simp);simp only[hd,head_cons] at h4;rw[h4] at h3;cases h3
  rw[dropWhile_nil] at h2;exact fun x hx=>h2 x (by simpa using hx)
 ·intro h x hx;rw[mem_reverse] at hx;exact h x (by have:=(dropWhile_sublist _).mem hx;simpa using this)
def dF:List UInt8:=[97,98,99,100,101,102,103,104,105,106,107,108,109,110,111,112,113,114,115,116,117,118,119,120,121,122]
def jm:List UInt8:=dF++[48,49,50,51,52,53,54,55,56,57,95]
theorem XZ (p q:UInt8->Bool) (h:(List.range 256).all (fun n=>p (UInt8.ofNat n)==q (UInt8.ofNat n))=true) (c:UInt8):p c=q c:=by
 rw[all_eq_true] at h;have:=h c.toNat (mem_range.2 c.toNat_lt);rw[UInt8.ofNat_toNat] at this;exact eq_of_beq this
theorem X0 (c:UInt8):jm.contains c=ou c:=XZ (jm.contains ·) ou (by decide+kernel) c
theorem U4 (s:ByteArray) (w:World):
  Calls prog 161 #[.string s] w fun e w'=>e=.returned (.bool (nameB s.data.toList))/\Below w.heap.size w w':=by
 have HN:Hid (nameB s.data.toList=((match s.data.toList with|[]=>false|c::_=>jI c)&&decide (s.data.toList.length<=20)&&s.data.toList.all ou)):=rfl;rcases Nat.eq_zero_or_pos s.size with h0|h0
 ·have hs:s=⟨#[]⟩:=by
   obtain⟨⟨l⟩⟩:=s;have h:l.length=0:=h0;rw[eq_nil_of_length_eq_zero h]
  subst hs;clear h0;go_enter func161,ntmps161;go_wp2;go_ret;exact⟨rfl,Below.refl _ _⟩
 ·have he:=yU s h0;have hlen:s.data.toList.length=s.size:=by simp
  have hh:∃t,s.data.toList=s[0]::t:=by
   obtain⟨⟨l⟩⟩:=s;cases l with
   |nil=>exact absurd h0 (by show ¬0<0;omega)
   |cons c l=>exact⟨l,rfl⟩
  obtain⟨t,ht⟩:=hh;rw[hlen] at HN;by_cases h1:s.size<=20
  ·have hc:(jI s[0]=true/\97<=(s[0].toNat:Int)/\(s[0].toNat:Int)<=122)∨(jI s[0]=false/\(s[0].toNat:Int)<97)∨(jI s[0]=false/\97<=(s[0].toNat:Int)/\122<(s[0].toNat:Int)):=by
    unfold jI;by_cases a:97<=s[0].toNat
    ·by_cases b:s[0].toNat<=122
     ·exact .inl ⟨by simp[a,b],by omega,by omega⟩
     ·exact .inr (.inr ⟨by simp[b],by omega,by omega⟩)
    ·exact .inr (.inl ⟨by simp[a],by omega⟩)
   rcases hc with⟨hc,ha,hb⟩|⟨hc,ha⟩|⟨hc,ha,hb⟩
   ·have HT:∀W:World,Calls prog 211 #[.string s,.string ⟨jm.toArray⟩] W fun e w'=>e=.returned (.string ⟨(Lib.trimS s.data.toList jm).toArray⟩)/\Below W.heap.size W w':=
     fun W=>Any.strings_Trim_laid Tryz.lays160 (by kernel_rfl) s ⟨jm.toArray⟩ W (by omega) (by decide) (Go.Proofs.ascii_of_all (by decide))
    have HR:Hid ((Lib.trimS s.data.toList jm).isEmpty=nameB s.data.toList):=by
     show _=_;rw[HN.out,Lj,ht];simp only[hc,Bool.true_and,decide_eq_true h1]
     congr 1
     funext c;exact X0 c
    obtain⟨tr,htr⟩:∃x,Lib.trimS s.data.toList jm=x:=⟨_,rfl⟩
    rw[htr] at HR;simp only[htr] at HT;have HT:=zH HT;clear HN hlen ht hc htr;go_enter func161,ntmps161;go_wp2_with fail;refine (HT.out _).mono ?_;rintro e w1 ⟨rfl,hb1⟩;go_wp2;go_ret;refine⟨?_,hb1⟩;rw[<-HR.out]
    first|rfl|(simp;done)
   all_goals
    have HR:Hid (nameB s.data.toList=false):=by
     show _=_;rw[HN.out,ht];simp[hc]
    clear HN hlen ht hc;go_enter func161,ntmps161;go_wp2;go_ret;exact⟨by rw[HR.out];rfl,Below.refl _ _⟩
  ·have HR:Hid (nameB s.data.toList=false):=by
    show _=_;rw[HN.out];simp[h1]
   clear HN hlen ht;go_enter func161,ntmps161;go_wp2;go_ret;exact⟨by rw[HR.out];rfl,Below.refl _ _⟩
def Sh.cells (s:Sh):List Value:=[.string ⟨s.word.toArray⟩,.int .i64 (s.ops:Int),.bool s.lit,.bool s.eH,.bool s.fQ]
def Sh.v (s:Sh):Value:=.agg #[.string ⟨s.word.toArray⟩,.int .i64 (s.ops:Int),.bool s.lit,.bool s.eH,.bool s.fQ]
def EF:List Value:=iV.flatMap Sh.cells
structure eX (w:World):Prop where
 base:Laid w
 glob:1<w.heap.size
 tab:∀i v,EF[i]?=some v->w.cell? ⟨1,i,none⟩=some v
theorem eX.below {w w':World} (h:eX w) (hb:Below w.heap.size w w'):eX w':=
 ⟨h.base.below hb,Nat.lt_of_lt_of_le h.glob hb.size,fun i v hv=>(hb.cell h.glob).trans (h.tab i v hv)⟩
theorem eX.alloc {w:World} (h:eX w) (o:Obj):eX (w.alloc o):=h.below (zB _ _)
theorem eX.drewN {w:World} (h:eX w) (n:Nat):eX (w.drewN n):=h.below (aI _ _ _)
theorem sS {α β:Type} (f:α->List β) (m:Nat) (hf:∀a,(f a).length=m) (l:List α) (k i:Nat) (hi:i<m):(l.flatMap f)[k*m+i]?=(l[k]?).bind (fun a=>(f a)[i]?):=by
 induction l generalizing k with
 |nil=>simp
 |cons a l ih=>
  rw[flatMap_cons];cases k with
  |zero=>
   rw[getElem?_append_left (by rw[hf];omega)];simp
  |succ k=>
   rw[getElem?_append_right (by rw[hf,Nat.succ_mul];omega),hf,show (k+1)*m+i-m=k*m+i from by rw[Nat.succ_mul];omega,ih];rfl
theorem Dh (k:Nat) (hk:k<25):iV[k]?=some (aG (k:Int)):=by
 unfold aG;rw[Int.toNat_natCast,getD_eq_getElem?_getD,getElem?_eq_getElem (by simpa [iV] using hk)];rfl
theorem eX.cell {w:World} (h:eX w) (k i:Nat) (hk:k<25) (hi:i<5):w.cell? ⟨1,k*5+i,none⟩=(aG (k:Int)).cells[i]?:=by
 have h1:=sS Sh.cells 5 (fun _=>rfl) iV k i hi;rw[Dh k hk] at h1;have hv:((aG (k:Int)).cells)[i]?=some ((aG (k:Int)).cells[i]'(by show i<5;exact hi)):=getElem?_eq_getElem _;rw[hv];exact h.tab _ _ (h1.trans hv)
theorem agc (k:Nat) (w:World) (hL:eX w) (h0:1<=k) (h1:k<=24):
  Calls prog 160 #[.int .i64 (k:Int)] w fun e w'=>e=.returned (.tuple #[(aG (k:Int)).v,.bool true])/\Below w.heap.size w w':=by
 have hl:=hL.alloc (.cells #[.string ⟨#[]⟩,.int .i64 0,.bool false,.bool false,.bool false] 176);have c0:=hl.cell k 0 (by omega) (by omega);have c1:=hl.cell k 1 (by omega) (by omega);have c2:=hl.cell k 2 (by omega) (by omega);have c3:=hl.cell k 3 (by omega) (by omega);have c4:=hl.cell k 4 (by omega) (by omega);have HV:Hid ((aG (k:Int)).v=.agg #[.string ⟨(aG (k:Int)).word.toArray⟩,.int .i64 ((aG (k:Int)).ops:Int),.bool (aG (k:Int)).lit,.bool (aG (k:Int)).eH,.bool (aG (k:Int)).fQ]):=rfl;generalize aG (k:Int)=s at*;simp only[Sh.cells,getElem?_cons_zero,getElem?_cons_succ,Nat.add_zero] at c0 c1 c2 c3 c4;clear hl hL;go_enter func160,ntmps160;go_wp2;refine bodyPost_ret (v:=.tuple #[s.v,.bool true]) (by rw[HV.out];simp[results,results160,go_sem]) rfl ⟨rfl,?_⟩;exact zB _ _
theorem aiG (n:Int) (w:World) (h:n<1∨24<n):
  Calls prog 160 #[.int .i64 n] w fun e w'=>e=.returned (.tuple #[uU.v,.bool false])/\Below w.heap.size w w':=by
 have hn:(n<1/\n<1)∨(1<=n/\24<n):=by omega
 clear h;rcases hn with⟨h,h'⟩|⟨h,h'⟩
 all_goals
  go_enter func160,ntmps160;go_wp2;refine bodyPost_ret (v:=.tuple #[uU.v,.bool false]) (by simp[results,results160,go_sem,Sh.v,uU]) rfl ⟨rfl,?_⟩;exact zB _ _
structure Ty where
 truth:Bool
 aA:Int
 days:Int
deriving DecidableEq,Inhabited
def Ty.cells (t:Ty):List Value:=[.bool t.truth,.int .i64 t.aA,.int .i64 t.days]
def Ty.v (t:Ty):Value:=.agg #[.bool t.truth,.int .i64 t.aA,.int .i64 t.days]
def aB:Ty:=⟨true,0,0⟩
def aV:Ty:=⟨false,1,0⟩
def jy:Ty:=⟨false,0,1⟩
def aJ:Ty:=⟨false,0,0⟩
def dU (m d:Int):Bool:=decide (max m d<=3)&&decide (-3<=min m d)
def aN (t:Ty):Bool:=if t.truth then decide (t=aB) else dU t.aA t.days
structure bT (w:World):Prop where
 e:eX w
 lt:0<w.heap.size/\3<w.heap.size/\4<w.heap.size/\5<w.heap.size/\6<w.heap.size
 U5:∀i v,aV.cells[i]?=some v->w.cell? ⟨0,i,none⟩=some v
 cash:∀i v,aV.cells[i]?=some v->w.cell? ⟨3,i,none⟩=some v
 days:∀i v,jy.cells[i]?=some v->w.cell? ⟨4,i,none⟩=some v
 plain:∀i v,aJ.cells[i]?=some v->w.cell? ⟨5,i,none⟩=some v
 truth:∀i v,aB.cells[i]?=some v->w.cell? ⟨6,i,none⟩=some v
theorem bT.below {w w':World} (h:bT w) (hb:Below w.heap.size w w'):bT w':=by
 obtain⟨he,⟨h1,h2,h3,h4,h5⟩,a,b,c,d,e⟩:=h;have hs:=hb.size
 exact⟨he.below hb,⟨by omega,by omega,by omega,by omega,by omega⟩,fun i v hv=>(hb.cell h1).trans (a i v hv),fun i v hv=>(hb.cell h2).trans (b i v hv),
  fun i v hv=>(hb.cell h3).trans (c i v hv),fun i v hv=>(hb.cell h4).trans (d i v hv),fun i v hv=>(hb.cell h5).trans (e i v hv)⟩
theorem bT.alloc {w:World} (h:bT w) (o:Obj):bT (w.alloc o):=h.below (zB _ _)
theorem bT.drewN {w:World} (h:bT w) (n:Nat):bT (w.drewN n):=h.below (aI _ _ _)
theorem wZ (m d:Int) (w:World):Calls prog 70 #[.agg #[.int .i64 m,.int .i64 d]] w fun e w'=>e=.returned (.bool (dU m d))/\Below w.heap.size w w':=by
 have hb:Below w.heap.size w (w.alloc (.cells #[.int .i64 m,.int .i64 d] 49)):=(Below.refl _ _).alloc (Nat.le_refl _) _;have HV:Hid (dU m d=(decide (max m d<=3)&&decide (-3<=min m d))):=rfl;have HB:=zH hb;clear hb;by_cases h1:max m d<=3
 ·by_cases h2:-3<=min m d
  ·have HW:Hid (dU m d=true):=by show _=_;rw[HV.out,decide_eq_true h1,decide_eq_true h2];rfl
   clear HV;go_enter func70,ntmps70;go_wp2;go_ret;exact⟨by rw[HW.out];rfl,HB.out⟩
  ·have HW:Hid (dU m d=false):=by show _=_;rw[HV.out,decide_eq_false h2,Bool.and_false]
   clear HV;go_enter func70,ntmps70;go_wp2;go_ret;exact⟨by rw[HW.out];rfl,HB.out⟩
 ·have HW:Hid (dU m d=false):=by show _=_;rw[HV.out,decide_eq_false h1,Bool.false_and]
  clear HV;go_enter func70,ntmps70;go_wp2;go_ret;exact⟨by rw[HW.out];rfl,HB.out⟩
theorem Gy (m d:Int):aN ⟨false,m,d⟩=dU m d:=rfl
theorem JR (m d:Int):aN ⟨true,m,d⟩=(decide (m=0)&&decide (d=0)):=by
 unfold aN aB;simp only[if_true,Ty.mk.injEq,true_and]
 rw[Bool.eq_iff_iff];simp
theorem U6 (t:Ty) (w:World) (hL:bT w):Calls prog 239 #[t.v] w fun e w'=>e=.returned (.bool (aN t))/\Below w.heap.size w w':=by
 obtain⟨tr,m,d⟩:=t;have hb:Below w.heap.size w (w.alloc (.cells #[.bool tr,.int .i64 m,.int .i64 d] 51)):=(Below.refl _ _).alloc (Nat.le_refl _) _;have HB:=zH hb;have g0:=(hL.alloc (.cells #[.bool tr,.int .i64 m,.int .i64 d] 51)).truth 0 _ rfl;have g1:=(hL.alloc (.cells #[.bool tr,.int .i64 m,.int .i64 d] 51)).truth 1 _ rfl;have g2:=(hL.alloc (.cells #[.bool tr,.int .i64 m,.int .i64 d] 51)).truth 2 _ rfl;unfold Ty.v;simp only
 cases tr
 ·have HU:=zH (fun W=>wZ m d W);clear hb hL g0 g1 g2;rw[Gy];go_enter func239,ntmps239;go_wp2_with fail;refine (HU.out _).mono ?_;rintro e w1 ⟨rfl,hb1⟩;have HB1:=zH (ah HB.out hb1);clear hb1;go_wp2;go_ret;exact⟨rfl,HB1.out⟩
 ·rw[JR];obtain⟨dq,tZ⟩:=zF ((decide (m=0)&&decide (d=0)));rw[tZ];have Gp:=zH tZ;clear hb hL tZ;by_cases hm:m=0
  ·by_cases hd:d=0
   ·have hq:dq=true:=by rw[<-Gp.out,decide_eq_true hm,decide_eq_true hd];rfl
    subst hm hd hq;go_enter func239,ntmps239;go_wp2;go_ret;exact⟨rfl,HB.out⟩
   ·have hq:dq=false:=by rw[<-Gp.out,decide_eq_false hd,Bool.and_false]
    subst hm hq;have hd2:(d==0)=false:=beq_eq_false_iff_ne.2 hd;go_enter func239,ntmps239;go_wp2;go_ret;exact⟨rfl,HB.out⟩
  ·have hq:dq=false:=by rw[<-Gp.out,decide_eq_false hm,Bool.false_and]
   subst hq;have hm2:(m==0)=false:=beq_eq_false_iff_ne.2 hm;go_enter func239,ntmps239;go_wp2;go_ret;exact⟨rfl,HB.out⟩
theorem D5 (t:Ty) (w:World):Calls prog 65 #[t.v] w fun e w'=>e=.returned (.bool (aN t))/\Below w.heap.size w w':=by
 obtain⟨tr,m,d⟩:=t;have hb:Below w.heap.size w (w.alloc (.cells #[.bool tr,.int .i64 m,.int .i64 d] 51)):=(Below.refl _ _).alloc (Nat.le_refl _) _;have HB:=zH hb;unfold Ty.v;simp only
 cases tr
 ·have HU:=zH (fun W=>wZ m d W);clear hb;rw[Gy];go_enter func65,ntmps65;go_wp2_with fail;refine (HU.out _).mono ?_;rintro e w1 ⟨rfl,hb1⟩;have HB1:=zH (ah HB.out hb1);clear hb1;go_wp2;go_ret;exact⟨rfl,HB1.out⟩
 ·rw[JR];obtain⟨dq,tZ⟩:=zF ((decide (m=0)&&decide (d=0)));rw[tZ];have Gp:=zH tZ;clear hb tZ;by_cases hm:m=0
  ·by_cases hd:d=0
   ·have hq:dq=true:=by rw[<-Gp.out,decide_eq_true hm,decide_eq_true hd];rfl
    subst hm hd hq;go_enter func65,ntmps65;go_wp2;go_ret;exact⟨rfl,HB.out⟩
   ·have hq:dq=false:=by rw[<-Gp.out,decide_eq_false hd,Bool.and_false]
    subst hm hq;have hd2:(d==0)=false:=beq_eq_false_iff_ne.2 hd;go_enter func65,ntmps65;go_wp2;go_ret;exact⟨rfl,HB.out⟩
  ·have hq:dq=false:=by rw[<-Gp.out,decide_eq_false hm,Bool.false_and]
   subst hq;have hm2:(m==0)=false:=beq_eq_false_iff_ne.2 hm;go_enter func65,ntmps65;go_wp2;go_ret;exact⟨rfl,HB.out⟩
theorem U7 (d:Nat) (m n m' n':Int) (w:World):(Op.equalIn (d+2) 49 (.agg #[.int .i64 m,.int .i64 n]) (.agg #[.int .i64 m',.int .i64 n'])).run prog w=.ok (decide (m=m')&&decide (n=n')) w:=by
 have u3:=underlying3;have hS:prog.underlying 49=some (.struct (prog.fieldsOf 49)):=by kernel_rfl
 have hp:prog.stoodInHeld 49=false:=by kernel_rfl
 rw[run_equalIn_agg w (d+1) 49 _ _ hS hp];simp only[Program.fieldsOf,underlying49]
 go_simp;by_cases h:m=m'
 ·by_cases h2:n=n'
  ·simp[h,h2]
  ·simp[h,h2]
 ·simp[h]
theorem Gz (d:Nat) (a b:Ty) (w:World):(Op.equalIn (d+3) 51 a.v b.v).run prog w=.ok (decide (a=b)) w:=by
 have u1:=underlying4;have u3:=underlying3;have hS:prog.underlying 51=some (.struct (prog.fieldsOf 51)):=by kernel_rfl
 have hp:prog.stoodInHeld 51=false:=by kernel_rfl
 have hR:=fun (m n m' n':Int) (w:World)=>U7 d m n m' n' w
 simp only[Ty.v]
 rw[run_equalIn_agg w (d+2) 51 _ _ hS hp];simp only[Program.fieldsOf,underlying51]
 go_simp;obtain⟨t,m,n⟩:=a;obtain⟨t',m',n'⟩:=b;by_cases h:t=t'
 ·by_cases h2:m=m'
  ·by_cases h3:n=n'
   ·simp[h,h2,h3]
   ·simp[h,h2,h3]
  ·simp[h,h2]
 ·simp[h]
theorem qW (a b:Ty) (w:World):(binOp .eql 51 a.v b.v).run prog w=.ok (.bool (decide (a=b))) w:=by
 have h:=Gz 9997 a b w;simp only[Ty.v] at h⊢;rw[run_eql_struct,show (10000:Nat)=9997+3 from rfl,h];rfl
theorem Bj (a b:Ty) (w:World):(binOp .neq 51 a.v b.v).run prog w=.ok (.bool (!decide (a=b))) w:=by
 have h:=Gz 9997 a b w;simp only[Ty.v] at h⊢;rw[run_neq_struct,show (10000:Nat)=9997+3 from rfl,h];rfl
section
set_option maxRecDepth 100000
theorem uh (a:Ra) (w:World) (hn:a.num.size<=536870912) (hd:a.den.size<=536870912):
  Calls prog 76 #[a.v] w fun e w'=>e=.returned (.bool (bQ a))/\Below w.heap.size w w':=by
 have c1:=cu (Ld:=bG) fun w _=>qV a w hn hd
 have c2:=cu (Ld:=bG) fun w _=>DV a.num w (by omega)
 have c3:=cu (Ld:=bG) fun w _=>DV a.den w (by omega)
 have hV:bQ a=(okR a&&decide ((gQ (ak a.num):Int)<=400)&&decide ((gQ (ak a.den):Int)<=400)):=by unfold bQ;congr 1;congr 1;exact decide_eq_decide.2 (by omega);exact decide_eq_decide.2 (by omega)
 rw[hV];clear hV;refine iF (Ld:=bG) (us:=[a.v]) ?_ w trivial;refine dh func76 fun X=>?_
 refine run ?_;refine dH [(.s 2,.s (.v (bP (okR a&&decide ((gQ (ak a.num):Int)<=400)&&decide ((gQ (ak a.den):Int)<=400)))))] ?_;refine run ?_;exact aF
end
def alN (z:Int) (w:World) (e:Ending) (w':World):Prop:=e=.returned (.int .i64 z)/\Below w.heap.size w w'
structure Wr (k:Nat) (neg:Bool) (num den nm:ByteArray) (B B2:Nat) (w W:World):Prop where
 own:w.heap.size<=B
 node:aj W B 104 [.int .i64 (k:Int),.bool neg,.string num,.string den,.string nm]
 shape:aj W B2 176 (aG (k:Int)).cells
 below:Below w.heap.size w W
theorem Wr.step {k:Nat} {neg:Bool} {num den nm:ByteArray} {B B2:Nat} {w W W':World} (h:Wr k neg num den nm B B2 w W) (hb:Below W.heap.size W W'):Wr k neg num den nm B B2 w W':=
 ⟨h.own,h.node.below hb h.node.lt,h.shape.below hb h.shape.lt,ah h.below hb⟩
section
set_option maxRecDepth 100000
def Fine (n:Nd):Prop:=n.num.num.size<=1048576/\n.num.den.size<=1048576
abbrev JU:bU:=⟨eX,fun hb h=>h.below hb⟩
theorem X4 (n:Nd) (w:World) (hL:eX w) (hf:Fine n):Calls prog 106 #[n.v] w (alN (aQ n) w):=by
 obtain⟨hn,hd⟩:=hf;have c1:=cu (Ld:=JU) fun W _=>uh n.num W (by omega) (by omega)
 have c2:=cu (Ld:=JU) fun W _=>ug n.num W (by omega) (by omega)
 have c3:=cu (Ld:=JU) fun W _=>U4 n.name W
 have c4:=cu (Ld:=JU) fun W _=>mV 0 W (by omega) (by omega)
 have c5:=cu (Ld:=JU) fun W _=>mV 1 W (by omega) (by omega)
 have e0:=nM n.num (aK 0);have e1:=nM n.num (aK 1);have e2:=nM n.num zR;unfold Ra.v at e0 e1;simp only[Ra.v,zR] at e2;refine iF (Ld:=JU) (us:=[n.v]) ?_ w hL (hs:=.ag (ws:=[_,_,_,_,_]) (by repeat constructor) .nil);by_cases h:n.op<1∨24<n.op
 ·have e:aQ n=11:=by
   unfold aQ;rw[if_pos (by rcases h with h|h;exact .inl h;exact .inr (.inl h))]
  have c6:=mQ (Ld:=JU) (.sc .nil) (.ag (ws:=[_,_,_,_,_]) (by repeat constructor) (.sc .nil)) rfl fun W _=>aiG n.op W h
  rw[e];refine dh func106 fun X=>?_
  refine run ?_;refine dH [(.s 22,.s (.v (bP true)))] ?_;refine run ?_;exact aF
 have hW:aQ n=if (!(aG n.op).eH&& !decide (n.name=⟨#[]⟩))|| !iC n then 11 else if (aG n.op).eH&& !nameB n.name.data.toList then 12 else 0:=by
  unfold aQ;simp only[show ¬n.op<1 by omega,show ¬24<n.op by omega,false_or]
  cases (aG n.op).eH<;>cases iC n<;>simp
 have hU:iC n=if n.op=4 then decide (n.num=aK 0)||decide (n.num=aK 1) else if (aG n.op).lit then bQ n.num else if (aG n.op).fQ then bQ n.num&&decide (0<dD n.num) else decide (n.num=zR):=rfl
 obtain⟨k,hk⟩:∃k:Nat,n.op=k:=⟨n.op.toNat,by omega⟩
 have c6:=mQ (Ld:=JU) (.sc .nil) (.ag (ws:=[_,_,_,_,_]) (by repeat constructor) (.sc .nil)) rfl fun W h=>agc k W h (by omega) (by omega)
 rw[<-hk] at c6;clear hk h hn hd;rw[hW];clear hW;generalize aG n.op=s at*;generalize iC n=q at*;generalize aK 0=o0 at*;generalize aK 1=o1 at*;generalize nameB n.name.data.toList=nb at*;refine dh func106 fun X=>?_
 refine run ?_;refine dH [(.s 22,.s (.v (bP (!s.eH&& !decide (n.name=⟨#[]⟩)))))] ?_;refine run ?_;refine bM (fun h=>?_) fun h=>?_
 ·refine run ?_;exact aF (hr:=by rw[h];rfl)
 rw[h,Bool.false_or];refine run ?_;refine qx [(.s 4,.s (.v (bP q)))] ?_ ?_
 ·refine aZ (fun h=>?_) fun h=>?_
  ·rw[if_pos h] at hU;refine run ?_;refine dH [(.s 4,.s (.v (bP (decide (n.num=o0)||decide (n.num=o1)))))] ?_;refine run ?_;exact fA (by rw[hU];exact eP)
  rw[if_neg h] at hU;refine run ?_;refine bM (fun h=>?_) fun h=>?_
  ·rw[h,if_pos rfl] at hU;refine run ?_;exact fA (by rw[hU];exact eP)
  rw[h,if_neg (by simp)] at hU;refine run ?_;refine bM (fun h=>?_) fun h=>?_
  ·rw[h,if_pos rfl] at hU;refine run ?_;refine dH [(.s 4,.s (.v (bP (bQ n.num&&decide (0<dD n.num)))))] ?_;refine run ?_;exact fA (by rw[hU];exact eP)
  ·rw[h,if_neg (by simp)] at hU;refine run ?_;exact fA (by rw[hU];exact eP)
 clear hU;refine run ?_;refine bM (fun h=>?_) fun h=>?_
 ·refine run ?_;exact aF (hr:=by rw[h];rfl)
 rw[h];refine run ?_;refine dH [(.s 68,.s (.v (bP (s.eH&& !nb))))] ?_;refine run ?_;refine bM (fun h=>?_) fun h=>?_
 all_goals
  refine run ?_;exact aF (hr:=by rw[h];rfl)
def mW (es:List Nd):List Value:=es.flatMap Nd.cells
def alO (w:World) (b o:Nat) (n:Nd):Prop:=
 w.cell? ⟨b,o,none⟩=some (.int .i64 n.op)/\w.cell? ⟨b,o+1,none⟩=some (.bool n.num.neg)/\w.cell? ⟨b,o+2,none⟩=some (.string n.num.num)/\w.cell? ⟨b,o+3,none⟩=some (.string n.num.den)/\w.cell? ⟨b,o+4,none⟩=some (.string n.name)
theorem GH (es:List Nd):(mW es).length=es.length*5:=by
 induction es with
 |nil=>rfl
 |cons n es ih=>show (n.cells++mW es).length=_;rw[length_append,ih,length_cons];show 5+_=_;omega
theorem adY (es:List Nd) (k i:Nat) (hk:k<es.length) (hi:i<5):(mW es)[k*5+i]?=es[k].cells[i]?:=by
 have h:=sS Nd.cells 5 (fun _=>rfl) es k i hi;rw[getElem?_eq_getElem hk] at h;exact h
theorem Rd.nd {w:World} {A:Option Addr} {es:List Nd} (h:Rd w A (mW es)) {k:Nat} (hk:k<es.length):
  ∃b off,A=some ⟨b,off,none⟩/\b<w.heap.size/\alO w b (off+k*5) es[k]:=by
 obtain⟨b,off,e,hb,hc⟩:=h.at_ (k:=k*5) (by rw[GH];omega)
 have key:∀i (hi:i<5),w.cell? ⟨b,off+(k*5+i),none⟩=(es[k].cells)[i]?:=fun i hi=>by
  have hl:k*5+i<(mW es).length:=by rw[GH];omega
  rw[hc _ hl,<-adY es k i hk hi,getElem?_eq_getElem hl]
 exact⟨b,off,e,hb,key 0 (by omega),key 1 (by omega),key 2 (by omega),key 3 (by omega),key 4 (by omega)⟩
end
theorem Bl {n:Nd} (h:aQ n=0):1<=n.op/\n.op<=24:=by
 unfold aQ at h;split at h
 ·cases h
 ·next hc=>
  exact⟨Classical.byContradiction fun hh=>hc (.inl (by omega)),Classical.byContradiction fun hh=>hc (.inr (.inl (by omega)))⟩
theorem Qv (n:Nd):aQ n=0∨aQ n=11∨aQ n=12:=by
 unfold aQ;split
 ·exact .inr (.inl rfl)
 ·split
  ·exact .inr (.inr rfl)
  ·exact .inl rfl
theorem y5 (n:Int):(aG n).ops<=3:=by
 have h:∀s∈iV,s.ops<=3:=by decide
 unfold aG;rw[getD_eq_getElem?_getD];cases hg:iV[n.toNat]? with
 |none=>show 0<=3;omega
 |some s=>exact h s (mem_of_getElem? hg)
theorem check_any (es:List Nd) (A:Option Addr) (len cap:Nat) (w:World) (hL:eX w) (hlen:len=es.length) (hcap:len<=cap) (hm:cap<=maxLen) (hr:Rd w A (mW es)) (hf:∀n∈es,Fine n):
  Calls prog 47 #[.slice A len cap] w fun e w'=>e=.returned (.int .i64 (aX es))/\Below w.heap.size w w':=by
 unfold maxLen at hm;by_cases h60:60<len
 ·have HV:Hid (aX es=2):=by show _=_;unfold aX;rw[if_pos (by omega)]
  have alP:(60:Int)<len:=by omega
  clear hlen hL hr hf;go_enter func47,ntmps47;go_wp2;go_ret;exact⟨by rw[HV.out];rfl,Below.refl _ _⟩
 ·have HV:Hid (aX es=chk es 0):=by show _=_;unfold aX;rw[if_neg (by omega)]
  have alP:¬(60:Int)<len:=by omega
  have HL:=zH hL;have HR:=zH hr;have HF:=zH hf;have HLEN:=zH hlen;have hle:len<=60:=by omega
  clear hlen hL hr hf h60;go_enter func47,ntmps47;go_wp2
  go_loopg [3,12] len (fun g dv iv wr=>∃k d:Nat,k+g=len/\d<=k/\dv=.int .i64 d/\iv=.int .i64 k/\Hid (chk es 0=chk (es.drop k) d)/\Below w.heap.size w wr)
  case atStart=>exact⟨0,0,by omega,by omega,rfl,rfl,rfl,Below.refl _ _⟩
  case round=>
   obtain⟨k,d,hk,hd,rfl,rfl,hch,hbw⟩:=hrel;by_cases hlt:k<len
   ·have hke:k<es.length:=by rw[<-HLEN.out];exact hlt
    obtain⟨b,off,rfl,hb,hc0,hc1,hc2,hc3,hc4⟩:=(HR.out.below hbw).nd hke;have hfin:=HF.out _ (getElem_mem hke);have HD:Hid (chk (es.drop k) d=chk (es[k]::es.drop (k+1)) d):=by show _=_;rw[drop_eq_getElem_cons hke]
    have JV:=zH (fun w hL=>X4 es[k] w hL hfin);generalize es[k]=n at*;obtain⟨op,⟨neg,num,den⟩,nm⟩:=n;simp only at hc0 hc1 hc2 hc3 hc4;have hll:=HL.out.below hbw;have hla:=hll.alloc (.cells #[.int .i64 op,.bool neg,.string num,.string den,.string nm] 104);have rO:=zH hla;have hba:Below w.heap.size w (wr.alloc (.cells #[.int .i64 op,.bool neg,.string num,.string den,.string nm] 104)):=hbw.alloc hbw.size _;have hka:=aj.new wr 104 #[.int .i64 op,.bool neg,.string num,.string den,.string nm];have hv:=Qv ⟨op,⟨neg,num,den⟩,nm⟩;have hop:aQ ⟨op,⟨neg,num,den⟩,nm⟩=0->1<=op/\op<=24:=Bl
    have NK:Hid (∀z,aQ ⟨op,⟨neg,num,den⟩,nm⟩=z->chk es 0=if z≠0 then z else if d<(aG op).ops then 11 else chk (es.drop (k+1)) (d-(aG op).ops+1)):=by
     rintro z rfl;rw[hch.out,HD.out,chk]
    clear hla hll hfin;obtain⟨z,hz⟩:=zF (aQ ⟨op,⟨neg,num,den⟩,nm⟩);have NK:=zH (NK.out z hz);rw[hz] at JV hv hop;clear hz HD hch;by_cases hz0:z=0
    ·subst hz0;obtain⟨o1,o2⟩:=hop rfl;obtain⟨p,rfl⟩:∃p:Nat,op=p:=⟨op.toNat,by omega⟩
     have hol:=y5 (p:Int);clear hv;go_wp2_with fail;refine (JV.out _ rO.out).mono ?_;rintro e w2 ⟨rfl,hb2⟩;have hk2:=hka.below hb2 hka.lt;have hcB:=hk2.cells;have ht:=(rO.out.below hb2).cell p 1 (by omega) (by omega)
     have HC:Hid (chk es 0=if d<(aG (p:Int)).ops then 11 else chk (es.drop (k+1)) (d-(aG (p:Int)).ops+1)):=by
      have:=NK.out;rwa[if_neg (by simp)] at this
     simp only[Sh.cells,getElem?_cons_succ,getElem?_cons_zero] at ht;generalize aG (p:Int)=s at*;obtain⟨wd,o,l1,l2,l3⟩:=s;simp only at ht hol HC;have HB:=zH (ah hba hb2);clear NK hk2 hka hb2 hba JV;by_cases hdo:d<o
     ·have e1:(d:Int)-o<0:=by omega
      go_wp2;go_ret;exact⟨by rw[HV.out,HC.out,if_pos hdo];rfl,HB.out⟩
     ·have e1:0<=(d:Int)-o:=by omega
      go_wp2
      go_roundg (len-(k+1))
      case measure=>omega
      case rel=>
       refine⟨k+1,d-o+1,by omega,by omega,by go_num,by go_num,?_,HB.out⟩;show _=_;rw[HC.out,if_neg hdo]
    ·have e1:(z==0)=false:=by simp[hz0]
     have e2:(z !=0)=true:=by simp[hz0]
     go_wp2_with fail;refine (JV.out _ rO.out).mono ?_;rintro e w2 ⟨rfl,hb2⟩;go_wp2;go_ret;exact⟨by rw[HV.out,NK.out,if_pos hz0];rfl,ah hba hb2⟩
   ·have hkl:k=len:=by omega
    have hg0:gk=0:=by omega
    have HD:Hid (es.drop k=[]):=by show _=_;rw[hkl,HLEN.out,drop_length]
    by_cases h1:d=1
    ·have e1:((d:Int) !=1)=false:=by rw[h1];rfl
     go_wp2;go_ret;refine⟨?_,hbw⟩;rw[HV.out,hch.out,HD.out,h1];rfl
    ·have e1:((d:Int) !=1)=true:=by rw[bne_iff_ne];omega
     go_wp2;go_ret;refine⟨?_,hbw⟩;rw[HV.out,hch.out,HD.out,chk,if_neg h1];rfl
theorem IK (n:Int) (h:n<1∨24<n):aG n=uU:=by
 unfold aG;rcases h with h|h
 ·rw[show n.toNat=0 from by omega];rfl
 ·rw[getD_eq_getElem?_getD,getElem?_eq_none (by show 25<=_;omega)];rfl
theorem yC (P:Int->Sh->Prop) (h:∀k∈List.range 25,P (k:Int) (aG (k:Int))) (ho:∀n:Int,(n<1∨24<n)->P n uU) (n:Int):P n (aG n):=by
 by_cases hh:n<1∨24<n
 ·rw[IK n hh];exact ho n hh
 ·have:=h n.toNat (mem_range.2 (by omega));rwa[show ((n.toNat:Nat):Int)=n from by omega] at this
theorem RQ (n:Int):((aG n).ops:Int)=if n=15 then 3 else if (9<=n/\n<=14)∨(16<=n/\n<=19) then 2 else if 20<=n/\n<=24 then 1 else 0:=by
 refine yC (fun n s=>(s.ops:Int)=if n=15 then 3 else if (9<=n/\n<=14)∨(16<=n/\n<=19) then 2 else if 20<=n/\n<=24 then 1 else 0) (by decide) ?_ n;intro n h;rw[if_neg (by omega),if_neg (by omega),if_neg (by omega)];rfl
theorem adZ (n:Int):(aG n).eH=decide ((5<=n/\n<=8)∨n=24):=by
 refine yC (fun n s=>s.eH=decide ((5<=n/\n<=8)∨n=24)) (by decide) ?_ n;intro n h;rw[decide_eq_false (by omega)];rfl
theorem Di (n:Int):(aG n).fQ=decide (21<=n/\n<=23):=by
 refine yC (fun n s=>s.fQ=decide (21<=n/\n<=23)) (by decide) ?_ n;intro n h;rw[decide_eq_false (by omega)];rfl
theorem yD (n:Int):(aG n).lit=decide (1<=n/\n<=4):=by
 refine yC (fun n s=>s.lit=decide (1<=n/\n<=4)) (by decide) ?_ n;intro n h;rw[decide_eq_false (by omega)];rfl
def Bq:List Value:=iV.map fun s=>.string ⟨s.word.toArray⟩
theorem U9 (n:Int) (w:World):Calls prog 189 #[.int .i64 n] w fun e w'=>e=.returned (.string ⟨(aG n).word.toArray⟩)/\Below w.heap.size w w':=by
 by_cases h0:n<0
 ·have HW:Hid ((aG n).word=[]):=by show _=_;rw[IK n (by omega)];rfl
  go_enter func189,ntmps189;go_wp2;go_ret;exact⟨by rw[HW.out];rfl,(Below.refl _ _).alloc (Nat.le_refl _) _⟩
 ·obtain⟨k,rfl⟩:∃k:Nat,n=k:=⟨n.toNat,by omega⟩
  clear h0;by_cases h1:25<=k
  ·have HW:Hid ((aG (k:Int)).word=[]):=by show _=_;rw[IK _ (by omega)];rfl
   have h2:(25:Int)<=k:=by omega
   clear h1;go_enter func189,ntmps189;go_wp2;go_ret;exact⟨by rw[HW.out];rfl,(Below.refl _ _).alloc (Nat.le_refl _) _⟩
  ·have h2:(k:Int)<25:=by omega
   have h3:k<25:=by omega
   have hk:Bq[k]?=some (.string ⟨(aG (k:Int)).word.toArray⟩):=by
    unfold Bq;rw[getElem?_map,Dh k h3];rfl
   have hcell:∀W:World,(W.alloc (.cells Bq.toArray 9)).cell? ⟨W.heap.size,k,none⟩=some (.string ⟨(aG (k:Int)).word.toArray⟩):=fun W=>by
    have:=(aj.new W 9 Bq.toArray).cells k;rw[this];simpa using hk
   generalize (aG (k:Int)).word=wd at*;unfold Bq at hcell;simp only[iV,uU,map_cons,map_nil] at hcell;clear hk h1 h3;go_enter func189,ntmps189;go_wp2;go_ret;exact⟨rfl,(Below.refl _ _).alloc (Nat.le_refl _) _⟩
theorem X5 (s:ByteArray) (w:World):
  Calls prog 148 #[.string s] w fun e w'=>e=.returned (.bool (nameB s.data.toList))/\w=w':=by
 have HN:Hid (nameB s.data.toList=((match s.data.toList with|[]=>false|c::_=>jI c)&&decide (s.data.toList.length<=20)&&s.data.toList.all ou)):=rfl;rcases Nat.eq_zero_or_pos s.size with h0|h0
 ·have hs:s=⟨#[]⟩:=by
   obtain⟨⟨l⟩⟩:=s;have h:l.length=0:=h0;rw[eq_nil_of_length_eq_zero h]
  subst hs;clear h0;go_enter func148,ntmps148;go_wp2;go_ret;exact⟨rfl,rfl⟩
 ·have hlen:s.data.toList.length=s.size:=by simp
  have h0':((s.size:Int)<1)=False:=by rw[eq_iff_iff,iff_false];omega
  have hh:∃t,s.data.toList=s[0]::t:=by
   obtain⟨⟨l⟩⟩:=s;cases l with
   |nil=>exact absurd h0 (by show ¬0<0;omega)
   |cons c l=>exact⟨l,rfl⟩
  obtain⟨t,ht⟩:=hh;rw[hlen] at HN;by_cases h1:s.size<=20
  ·have h1':decide (20<(s.size:Int))=false:=by rw[decide_eq_false_iff_not];omega
   have hc:(jI s[0]=true/\97<=(s[0].toNat:Int)/\(s[0].toNat:Int)<=122)∨(jI s[0]=false/\(s[0].toNat:Int)<97)∨(jI s[0]=false/\97<=(s[0].toNat:Int)/\122<(s[0].toNat:Int)):=by
    unfold jI;by_cases a:97<=s[0].toNat
    ·by_cases b:s[0].toNat<=122
     ·exact .inl ⟨by simp[a,b],by omega,by omega⟩
     ·exact .inr (.inr ⟨by simp[b],by omega,by omega⟩)
    ·exact .inr (.inl ⟨by simp[a],by omega⟩)
   rcases hc with⟨hc,ha,hb⟩|⟨hc,ha⟩|⟨hc,ha,hb⟩
   ·have HR:Hid (nameB s.data.toList=s.data.toList.all ou):=by
     show _=_;rw[HN.out,ht];simp only[hc,Bool.true_and,decide_eq_true h1]
    clear HN ht hc;go_enter func148,ntmps148;go_wp2
    go_loopg [3] s.size (fun g iv wr=>∃k:Nat,k+g=s.size/\iv=.int .i64 k/\Hid (nameB s.data.toList=(s.data.toList.drop k).all ou)/\w=wr)
    case atStart=>exact⟨0,by omega,rfl,by show _=_;rw[HR.out];rfl,rfl⟩
    case round=>
     obtain⟨k,hk,rfl,hR,rfl⟩:=hrel;clear ha hb;by_cases hlt:k<s.size
     ·have hd:Hid (s.data.toList.drop k=s[k]::s.data.toList.drop (k+1)):=by
       show _=_;rw[drop_eq_getElem_cons (by rw[hlen];exact hlt)];rfl
      have hR2:Hid (nameB s.data.toList=(ou s[k]&&(s.data.toList.drop (k+1)).all ou)):=by
       show _=_;rw[hR.out,hd.out,all_cons]
      clear hd hR;by_cases hn:ou s[k]=true
      ·have X6:Hid (nameB s.data.toList=(s.data.toList.drop (k+1)).all ou):=by show _=_;rw[hR2.out,hn,Bool.true_and]
       have hc3:(97<=(s[k].toNat:Int)/\(s[k].toNat:Int)<=122)∨((s[k].toNat:Int)<97/\48<=(s[k].toNat:Int)/\(s[k].toNat:Int)<=57)∨((s[k].toNat:Int)<97/\48<=(s[k].toNat:Int)/\57<(s[k].toNat:Int)/\(((s[k].toNat:Nat):Int) !=95)=false):=by
        simp only[ou,jI,NI,Bool.or_eq_true,Bool.and_eq_true,decide_eq_true_eq] at hn;rcases hn with (h|h)|h
        ·exact .inl (by omega)
        ·exact .inr (.inl (by omega))
        ·exact .inr (.inr ⟨by omega,by omega,by omega,by rw[h];rfl⟩)
       clear hR2 hn;rcases hc3 with⟨g1,g2⟩|⟨g1,g2,g3⟩|⟨g1,g2,g3,g4⟩
       all_goals
        go_wp2
        go_roundg (s.size-(k+1))
        case measure=>omega
        case rel=>exact⟨k+1,by omega,by go_num,X6,rfl⟩
      ·have hn':ou s[k]=false:=by simpa using hn
       have X6:Hid (nameB s.data.toList=false):=by show _=_;rw[hR2.out,hn',Bool.false_and]
       have hc3:((s[k].toNat:Int)<97/\(s[k].toNat:Int)<48/\(((s[k].toNat:Nat):Int) !=95)=true)∨((s[k].toNat:Int)<97/\48<=(s[k].toNat:Int)/\57<(s[k].toNat:Int)/\(((s[k].toNat:Nat):Int) !=95)=true)∨(97<=(s[k].toNat:Int)/\122<(s[k].toNat:Int)/\48<=(s[k].toNat:Int)/\57<(s[k].toNat:Int)/\(((s[k].toNat:Nat):Int) !=95)=true):=by
        simp only[ou,jI,NI,Bool.or_eq_true,Bool.and_eq_true,decide_eq_true_eq] at hn;simp only[bne_iff_ne,ne_eq]
        omega
       clear hR2 hn hn';rcases hc3 with⟨g1,g2,g3⟩|⟨g1,g2,g3,g4⟩|⟨g1,g2,g3,g4,g5⟩
       all_goals
        go_wp2;go_ret;exact⟨by rw[X6.out];rfl,rfl⟩
     ·have hg0:gk=0:=by omega
      have X6:Hid (nameB s.data.toList=true):=by show _=_;rw[hR.out,drop_eq_nil_of_le (by omega)];rfl
      clear hR;go_wp2;go_ret;exact⟨by rw[X6.out];rfl,rfl⟩
   all_goals
    have HR:Hid (nameB s.data.toList=false):=by
     show _=_;rw[HN.out,ht];simp[hc]
    clear HN hlen ht hc;go_enter func148,ntmps148;go_wp2;go_ret;exact⟨by rw[HR.out];rfl,rfl⟩
  ·have HR:Hid (nameB s.data.toList=false):=by
    show _=_;rw[HN.out];simp[h1]
   have h1':decide (20<(s.size:Int))=true:=by rw[decide_eq_true_eq];omega
   clear HN hlen ht;go_enter func148,ntmps148;go_wp2;go_ret;exact⟨by rw[HR.out];rfl,rfl⟩
theorem Qw (n:Nd):(n.op<1/\aQ n=11)∨(1<=n.op/\24<n.op/\aQ n=11)∨(1<=n.op/\n.op<=24/\iC n=false/\aQ n=11)∨
  (1<=n.op/\n.op<=24/\iC n=true/\(aG n.op).eH=false/\n.name.toList.isEmpty=false/\aQ n=11)∨
  (1<=n.op/\n.op<=24/\iC n=true/\(aG n.op).eH=false/\n.name.toList.isEmpty=true/\aQ n=0)∨
  (1<=n.op/\n.op<=24/\iC n=true/\(aG n.op).eH=true/\nameB n.name.data.toList=false/\aQ n=12)∨
  (1<=n.op/\n.op<=24/\iC n=true/\(aG n.op).eH=true/\nameB n.name.data.toList=true/\aQ n=0):=by
 by_cases h1:n.op<1
 ·exact .inl ⟨h1,by unfold aQ;rw[if_pos (.inl h1)]⟩
 by_cases h2:24<n.op
 ·exact .inr (.inl ⟨by omega,h2,by unfold aQ;rw[if_pos (.inr (.inl h2))]⟩)
 refine .inr (.inr ?_);have a1:1<=n.op:=by omega
 have a2:n.op<=24:=by omega
 cases h3:iC n
 ·exact .inl ⟨a1,a2,rfl,by unfold aQ;rw[if_pos (.inr (.inr (.inr h3)))]⟩
 refine .inr ?_;cases h4:(aG n.op).eH
 ·cases h5:n.name.toList.isEmpty
  ·exact .inl ⟨a1,a2,rfl,rfl,rfl,by unfold aQ;rw[if_pos (.inr (.inr (.inl ⟨h4,fun h=>by rw[(rY _).2 h] at h5;cases h5⟩)))]⟩
  ·refine .inr (.inl ⟨a1,a2,rfl,rfl,rfl,?_⟩);unfold aQ;rw[if_neg (by rintro (h|h|h|h);exact h1 h;exact h2 h;exact h.2 ((rY _).1 h5);rw[h3] at h;cases h),h4];rfl
 ·have hw:aQ n=if !nameB n.name.data.toList then 12 else 0:=by
   unfold aQ;rw[if_neg (by rintro (h|h|h|h);exact h1 h;exact h2 h;rw[h4] at h;cases h.1;rw[h3] at h;cases h),h4,Bool.true_and]
  refine .inr (.inr ?_);cases h5:nameB n.name.data.toList
  ·exact .inl ⟨a1,a2,rfl,rfl,rfl,by rw[hw,h5];rfl⟩
  ·exact .inr ⟨a1,a2,rfl,rfl,rfl,by rw[hw,h5];rfl⟩
structure Es (w:World) (es:List Nd) (A:Option Addr) (n c:Nat):Prop where
 len:n=es.length
 cap:n<=c
 max:c<=maxLen
 rd:Rd w A (mW es)
theorem Es.below {w w':World} {es:List Nd} {A:Option Addr} {n c:Nat} (h:Es w es A n c) (hb:Below w.heap.size w w'):Es w' es A n c:=⟨h.len,h.cap,h.max,h.rd.below hb⟩
theorem Es.nil (w:World):Es w [] none 0 0:=⟨rfl,Nat.le_refl _,by unfold maxLen;omega,.inl rfl⟩
theorem xg:(prog.info? 104).map (fun i=>(i.zero,i.size,i.bytes))=some (some (.agg #[.int .i64 0,.bool false,.string ⟨#[]⟩,.string ⟨#[]⟩,.string ⟨#[]⟩]),5,64):=by kernel_rfl
theorem Va (a b:List Nd):mW (a++b)=mW a++mW b:=flatMap_append
def acG (r:List Nd × Int) (w:World) (e:Ending) (w':World):Prop:=∃A n c,e=.returned (.tuple #[.slice A n c,.int .i64 r.2])/\Es w' r.1 A n c/\Below w.heap.size w w'
theorem acG.bad {r:List Nd × Int} {z:Int} {w w':World} (h:r=([],z)) (hb:Below w.heap.size w w'):acG r w (.returned (.tuple #[.slice none 0 0,.int .i64 z])) w':=
 ⟨none,0,0,by rw[h],by rw[h];exact Es.nil _,hb⟩
theorem y7 {w:World} {base:Nat} {e:TypeId} {size:Nat} {v:Value} {n:Nat} {xs:List Value} (h:w.ownsRow base e size v n xs) (hn:0<n):∃g cap,v=.slice (some ⟨g,0,none⟩) n cap/\base<=g:=by
 rcases h.2 with⟨_,h0⟩|⟨g,cap,cur,hv,hb,_⟩
 ·omega
 ·exact⟨g,cap,hv,hb⟩
theorem agd (e:List Nd):∀d,chk e d=0->∀n∈e,aQ n=0:=by
 induction e with
 |nil=>intro d _ n hn;cases hn
 |cons m r ih=>
  intro d h n hn;rw[chk] at h;split at h
  ·next h1=>exact absurd h h1
  ·next h1=>
   split at h
   ·cases h
   ·rcases mem_cons.1 hn with rfl|hn
    ·simpa using h1
    ·exact ih _ h n hn
theorem JW {es:List Nd} (h:aX es=0):∀n∈es,aQ n=0:=by
 unfold aX at h;split at h
 ·cases h
 ·exact agd es 0 h
end Go.Proofs.YtjpbmbgincdjaaaGreatDoor
