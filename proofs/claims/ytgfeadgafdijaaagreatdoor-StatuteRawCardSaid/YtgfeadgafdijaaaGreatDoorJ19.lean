/- A part of the proof: E2 E3 K1 E4 E5 E6 E7 G1 G2. -/
import Derived.Laws.StructEq
import Derived.Test.YtgfeadgafdijaaaGreatDoorJ01
import Derived.Test.YtgfeadgafdijaaaGreatDoorJ16
import Derived.Test.YtgfeadgafdijaaaGreatDoorJ18
set_option linter.unusedVariables false
set_option linter.unusedSimpArgs false
set_option maxRecDepth 100000
set_option maxHeartbeats 40000000
namespace Go.Proofs.YtgfeadgafdijaaaGreatDoor
open Go.RowKit
theorem dropWhile_nil {α:Type} (p:α→Bool) (l:List α):l.dropWhile p=[]↔∀x∈l,p x=true:=by
 induction l with
 |nil=>simp
 |cons a l ih=>
  rw[List.dropWhile_cons];split
  ·next h=>rw[ih];simp[h]
  ·next h=>simp[h]
theorem MB (l cs:List UInt8):(Lib.trimS l cs).isEmpty=l.all (cs.contains ·):=by
 unfold Lib.trimS Lib.trimLeftS Lib.trimRightS;rw[Bool.eq_iff_iff,List.isEmpty_iff,dropWhile_nil,List.all_eq_true];constructor
 ·intro h
  have h2:l.reverse.dropWhile (cs.contains ·)=[]:=by
   rcases hd:l.reverse.dropWhile (cs.contains ·) with _|⟨a,t⟩
   ·rfl
   ·exfalso;have h3:=h a (by rw[hd];simp);have h4:=List.head_dropWhile_not (cs.contains ·) (l:=l.reverse) (by rw[hd];simp);simp only[hd,List.head_cons] at h4;rw[h4] at h3;cases h3
  rw[dropWhile_nil] at h2;exact fun x hx=>h2 x (by simpa using hx)
 ·intro h x hx;rw[List.mem_reverse] at hx;exact h x (by have:=(List.dropWhile_sublist _).mem hx;simpa using this)
def dH:List UInt8:=[97,98,99,100,101,102,103,104,105,106,107,108,109,110,111,112,113,114,115,116,117,118,119,120,121,122]
def jm:List UInt8:=dH++[48,49,50,51,52,53,54,55,56,57,95]
theorem Wj (p q:UInt8→Bool) (h:(List.range 256).all (fun n=>p (UInt8.ofNat n)==q (UInt8.ofNat n))=true) (c:UInt8):p c=q c:=by
 rw[List.all_eq_true] at h;have:=h c.toNat (List.mem_range.2 c.toNat_lt);rw[UInt8.ofNat_toNat] at this;exact eq_of_beq this
theorem Wn (c:UInt8):jm.contains c=oH c:=Wj (jm.contains ·) oH (by decide+kernel) c
theorem TD (s:ByteArray) (w:World):
  Calls Tryz.prog 119 #[.string s] w fun e w'=>e=.returned (.bool (nameB s.data.toList))∧Below w.heap.size w w':=by
 have HN:Hid (nameB s.data.toList=((match s.data.toList with|[]=>false|c::_=>jM c)&&decide (s.data.toList.length≤20)&&s.data.toList.all oH)):=rfl;rcases Nat.eq_zero_or_pos s.size with h0|h0
 ·have hs:s=⟨#[]⟩:=by
   obtain⟨⟨l⟩⟩:=s;have h:l.length=0:=h0;rw[List.eq_nil_of_length_eq_zero h]
  subst hs;clear h0;go_enter Tryz.func119,Tryz.ntmps119;go_wp2;go_ret;exact⟨rfl,Below.refl _ _⟩
 ·have he:=AA s h0;have hlen:s.data.toList.length=s.size:=by simp
  have hh:∃t,s.data.toList=s[0]::t:=by
   obtain⟨⟨l⟩⟩:=s;cases l with
   |nil=>exact absurd h0 (by show ¬0<0;omega)
   |cons c l=>exact⟨l,rfl⟩
  obtain⟨t,ht⟩:=hh;rw[hlen] at HN;by_cases h1:s.size≤20
  ·have hc:(jM s[0]=true∧97≤(s[0].toNat:Int)∧(s[0].toNat:Int)≤122)∨(jM s[0]=false∧(s[0].toNat:Int)<97)∨(jM s[0]=false∧97≤(s[0].toNat:Int)∧122<(s[0].toNat:Int)):=by
    unfold jM;by_cases a:97≤s[0].toNat
    ·by_cases b:s[0].toNat≤122
     ·exact .inl ⟨by simp[a,b],by omega,by omega⟩
     ·exact .inr (.inr ⟨by simp[b],by omega,by omega⟩)
    ·exact .inr (.inl ⟨by simp[a],by omega⟩)
   rcases hc with⟨hc,ha,hb⟩|⟨hc,ha⟩|⟨hc,ha,hb⟩
   ·have HT:∀W:World,Calls Tryz.prog 159 #[.string s,.string ⟨jm.toArray⟩] W fun e w'=>e=.returned (.string ⟨(Lib.trimS s.data.toList jm).toArray⟩)∧Below W.heap.size W w':=
     fun W=>Any.strings_Trim_laid Tryz.lays160 (by kernel_rfl) s ⟨jm.toArray⟩ W (by omega) (by decide) (Go.Proofs.ascii_of_all (by decide))
    have HR:Hid ((Lib.trimS s.data.toList jm).isEmpty=nameB s.data.toList):=by
     show _=_;rw[HN.out,MB,ht];simp only[hc,Bool.true_and,decide_eq_true h1]
     congr 1
     funext c;exact Wn c
    obtain⟨tr,htr⟩:∃x,Lib.trimS s.data.toList jm=x:=⟨_,rfl⟩
    rw[htr] at HR;simp only[htr] at HT;have HT:=zH HT;clear HN hlen ht hc htr;go_enter Tryz.func119,Tryz.ntmps119;go_wp2_with fail;refine (HT.out _).mono ?_;rintro e w1 ⟨rfl,hb1⟩;go_wp2;go_ret;refine⟨?_,hb1⟩;rw[←HR.out]
    first|rfl|(simp;done)
   all_goals
    have HR:Hid (nameB s.data.toList=false):=by
     show _=_;rw[HN.out,ht];simp[hc]
    clear HN hlen ht hc;go_enter Tryz.func119,Tryz.ntmps119;go_wp2;go_ret;exact⟨by rw[HR.out];rfl,Below.refl _ _⟩
  ·have HR:Hid (nameB s.data.toList=false):=by
    show _=_;rw[HN.out];simp[h1]
   clear HN hlen ht;go_enter Tryz.func119,Tryz.ntmps119;go_wp2;go_ret;exact⟨by rw[HR.out];rfl,Below.refl _ _⟩
def Sh.cells (s:Sh):List Value:=[.string ⟨s.word.toArray⟩,.int .i64 (s.ops:Int),.bool s.lit,.bool s.dR,.bool s.dS]
def Sh.v (s:Sh):Value:=.agg #[.string ⟨s.word.toArray⟩,.int .i64 (s.ops:Int),.bool s.lit,.bool s.dR,.bool s.dS]
def F6:List Value:=kK.flatMap Sh.cells
structure dK (w:World):Prop where
 base:Laid w
 glob:1<w.heap.size
 tab:∀i v,F6[i]?=some v→w.cell? ⟨1,i,none⟩=some v
theorem dK.below {w w':World} (h:dK w) (hb:Below w.heap.size w w'):dK w':=
 ⟨h.base.below hb,Nat.lt_of_lt_of_le h.glob hb.size,fun i v hv=>(hb.cell h.glob).trans (h.tab i v hv)⟩
theorem dK.alloc {w:World} (h:dK w) (o:Obj):dK (w.alloc o):=h.below (zB _ _)
theorem dK.drewN {w:World} (h:dK w) (n:Nat):dK (w.drewN n):=h.below (ak _ _ _)
theorem qy {α β:Type} (f:α→List β) (m:Nat) (hf:∀a,(f a).length=m) (l:List α) (k i:Nat) (hi:i<m):(l.flatMap f)[k*m+i]?=(l[k]?).bind (fun a=>(f a)[i]?):=by
 induction l generalizing k with
 |nil=>simp
 |cons a l ih=>
  rw[List.flatMap_cons];cases k with
  |zero=>
   rw[List.getElem?_append_left (by rw[hf];omega)];simp
  |succ k=>
   rw[List.getElem?_append_right (by rw[hf,Nat.succ_mul];omega),hf,show (k+1)*m+i-m=k*m+i from by rw[Nat.succ_mul];omega,ih];rfl
theorem EK (k:Nat) (hk:k<25):kK[k]?=some (aC (k:Int)):=by
 unfold aC;rw[Int.toNat_natCast,List.getD_eq_getElem?_getD,List.getElem?_eq_getElem (by simpa [kK] using hk)];rfl
theorem dK.cell {w:World} (h:dK w) (k i:Nat) (hk:k<25) (hi:i<5):w.cell? ⟨1,k*5+i,none⟩=(aC (k:Int)).cells[i]?:=by
 have h1:=qy Sh.cells 5 (fun _=>rfl) kK k i hi;rw[EK k hk] at h1;have hv:((aC (k:Int)).cells)[i]?=some ((aC (k:Int)).cells[i]'(by show i<5;exact hi)):=List.getElem?_eq_getElem _;rw[hv];exact h.tab _ _ (h1.trans hv)
theorem acT (k:Nat) (w:World) (hL:dK w) (h0:1≤k) (h1:k≤24):
  Calls Tryz.prog 118 #[.int .i64 (k:Int)] w fun e w'=>e=.returned (.tuple #[(aC (k:Int)).v,.bool true])∧Below w.heap.size w w':=by
 have hl:=hL.alloc (.cells #[.string ⟨#[]⟩,.int .i64 0,.bool false,.bool false,.bool false] 135);have c0:=hl.cell k 0 (by omega) (by omega);have c1:=hl.cell k 1 (by omega) (by omega);have c2:=hl.cell k 2 (by omega) (by omega);have c3:=hl.cell k 3 (by omega) (by omega);have c4:=hl.cell k 4 (by omega) (by omega);have HV:Hid ((aC (k:Int)).v=.agg #[.string ⟨(aC (k:Int)).word.toArray⟩,.int .i64 ((aC (k:Int)).ops:Int),.bool (aC (k:Int)).lit,.bool (aC (k:Int)).dR,.bool (aC (k:Int)).dS]):=rfl;generalize aC (k:Int)=s at*;simp only[Sh.cells,List.getElem?_cons_zero,List.getElem?_cons_succ,Nat.add_zero] at c0 c1 c2 c3 c4;clear hl hL;go_enter Tryz.func118,Tryz.ntmps118;go_wp2;refine bodyPost_ret (v:=.tuple #[s.v,.bool true]) (by rw[HV.out];simp[results,Tryz.results118,go_sem]) rfl ⟨rfl,?_⟩;exact zB _ _
theorem aeJ (n:Int) (w:World) (h:n<1∨24<n):
  Calls Tryz.prog 118 #[.int .i64 n] w fun e w'=>e=.returned (.tuple #[Fv.v,.bool false])∧Below w.heap.size w w':=by
 have hn:(n<1∧n<1)∨(1≤n∧24<n):=by omega
 clear h;rcases hn with⟨h,h'⟩|⟨h,h'⟩
 all_goals
  go_enter Tryz.func118,Tryz.ntmps118;go_wp2;refine bodyPost_ret (v:=.tuple #[Fv.v,.bool false]) (by simp[results,Tryz.results118,go_sem,Sh.v,Fv]) rfl ⟨rfl,?_⟩;exact zB _ _
theorem TG (d:Nat) (a b:Ra) (w:World):(Op.equalIn (d+2) 40 a.v b.v).run Tryz.prog w=.ok (decide (a=b)) w:=by
 have u1:=Tryz.underlying4;have u2:=Tryz.underlying38;have hS:Tryz.prog.underlying 40=some (.struct (Tryz.prog.fieldsOf 40)):=by kernel_rfl
 have hp:Tryz.prog.stoodInHeld 40=false:=by kernel_rfl
 rw[←Jw (fun b=>Result.ok b w) a b];simp only[Ra.v]
 rw[run_equalIn_agg w (d+1) 40 _ _ hS hp];simp only[Program.fieldsOf,Tryz.underlying40]
 go_simp
theorem nO (a b:Ra) (w:World):(binOp .eql 40 a.v b.v).run Tryz.prog w=.ok (.bool (decide (a=b))) w:=by
 have h:=TG 9998 a b w;simp only[Ra.v] at h⊢;rw[run_eql_struct,show (10000:Nat)=9998+2 from rfl,h];rfl
structure Ty where
 truth:Bool
 aH:Int
 days:Int
deriving DecidableEq,Inhabited
def Ty.cells (t:Ty):List Value:=[.bool t.truth,.int .i64 t.aH,.int .i64 t.days]
def Ty.v (t:Ty):Value:=.agg #[.bool t.truth,.int .i64 t.aH,.int .i64 t.days]
def aG:Ty:=⟨true,0,0⟩
def jk:Ty:=⟨false,1,0⟩
def wO:Ty:=⟨false,0,1⟩
def aI:Ty:=⟨false,0,0⟩
def dZ (m d:Int):Bool:=decide (max m d≤3)&&decide (-3≤min m d)
def aN (t:Ty):Bool:=if t.truth then decide (t=aG) else dZ t.aH t.days
structure bZ (w:World):Prop where
 e:dK w
 lt:0<w.heap.size∧5<w.heap.size∧6<w.heap.size∧7<w.heap.size∧8<w.heap.size
 TI:∀i v,jk.cells[i]?=some v→w.cell? ⟨0,i,none⟩=some v
 cash:∀i v,jk.cells[i]?=some v→w.cell? ⟨5,i,none⟩=some v
 days:∀i v,wO.cells[i]?=some v→w.cell? ⟨6,i,none⟩=some v
 plain:∀i v,aI.cells[i]?=some v→w.cell? ⟨7,i,none⟩=some v
 truth:∀i v,aG.cells[i]?=some v→w.cell? ⟨8,i,none⟩=some v
theorem bZ.below {w w':World} (h:bZ w) (hb:Below w.heap.size w w'):bZ w':=by
 obtain⟨he,⟨h1,h2,h3,h4,h5⟩,a,b,c,d,e⟩:=h;have hs:=hb.size
 exact⟨he.below hb,⟨by omega,by omega,by omega,by omega,by omega⟩,fun i v hv=>(hb.cell h1).trans (a i v hv),fun i v hv=>(hb.cell h2).trans (b i v hv),
  fun i v hv=>(hb.cell h3).trans (c i v hv),fun i v hv=>(hb.cell h4).trans (d i v hv),fun i v hv=>(hb.cell h5).trans (e i v hv)⟩
theorem bZ.alloc {w:World} (h:bZ w) (o:Obj):bZ (w.alloc o):=h.below (zB _ _)
theorem bZ.drewN {w:World} (h:bZ w) (n:Nat):bZ (w.drewN n):=h.below (ak _ _ _)
theorem yP (m d:Int) (w:World):Calls Tryz.prog 65 #[.agg #[.int .i64 m,.int .i64 d]] w fun e w'=>e=.returned (.bool (dZ m d))∧Below w.heap.size w w':=by
 have hb:Below w.heap.size w (w.alloc (.cells #[.int .i64 m,.int .i64 d] 30)):=(Below.refl _ _).alloc (Nat.le_refl _) _;have HV:Hid (dZ m d=(decide (max m d≤3)&&decide (-3≤min m d))):=rfl;have HB:=zH hb;clear hb;by_cases h1:max m d≤3
 ·by_cases h2:-3≤min m d
  ·have HW:Hid (dZ m d=true):=by show _=_;rw[HV.out,decide_eq_true h1,decide_eq_true h2];rfl
   clear HV;go_enter Tryz.func65,Tryz.ntmps65;go_wp2;go_ret;exact⟨by rw[HW.out];rfl,HB.out⟩
  ·have HW:Hid (dZ m d=false):=by show _=_;rw[HV.out,decide_eq_false h2,Bool.and_false]
   clear HV;go_enter Tryz.func65,Tryz.ntmps65;go_wp2;go_ret;exact⟨by rw[HW.out];rfl,HB.out⟩
 ·have HW:Hid (dZ m d=false):=by show _=_;rw[HV.out,decide_eq_false h1,Bool.false_and]
  clear HV;go_enter Tryz.func65,Tryz.ntmps65;go_wp2;go_ret;exact⟨by rw[HW.out];rfl,HB.out⟩
theorem Iq (m d:Int):aN ⟨false,m,d⟩=dZ m d:=rfl
theorem KI (m d:Int):aN ⟨true,m,d⟩=(decide (m=0)&&decide (d=0)):=by
 unfold aN aG;simp only[if_true,Ty.mk.injEq,true_and]
 rw[Bool.eq_iff_iff];simp
theorem TJ (t:Ty) (w:World) (hL:bZ w):Calls Tryz.prog 208 #[t.v] w fun e w'=>e=.returned (.bool (aN t))∧Below w.heap.size w w':=by
 obtain⟨tr,m,d⟩:=t;have hb:Below w.heap.size w (w.alloc (.cells #[.bool tr,.int .i64 m,.int .i64 d] 32)):=(Below.refl _ _).alloc (Nat.le_refl _) _;have HB:=zH hb;have g0:=(hL.alloc (.cells #[.bool tr,.int .i64 m,.int .i64 d] 32)).truth 0 _ rfl;have g1:=(hL.alloc (.cells #[.bool tr,.int .i64 m,.int .i64 d] 32)).truth 1 _ rfl;have g2:=(hL.alloc (.cells #[.bool tr,.int .i64 m,.int .i64 d] 32)).truth 2 _ rfl;unfold Ty.v;simp only
 cases tr
 ·have HU:=zH (fun W=>yP m d W);clear hb hL g0 g1 g2;rw[Iq];go_enter Tryz.func208,Tryz.ntmps208;go_wp2_with fail;refine (HU.out _).mono ?_;rintro e w1 ⟨rfl,hb1⟩;have HB1:=zH (ah HB.out hb1);clear hb1;go_wp2;go_ret;exact⟨rfl,HB1.out⟩
 ·rw[KI];obtain⟨dq,qh⟩:=zF ((decide (m=0)&&decide (d=0)));rw[qh];have vk:=zH qh;clear hb hL qh;by_cases hm:m=0
  ·by_cases hd:d=0
   ·have hq:dq=true:=by rw[←vk.out,decide_eq_true hm,decide_eq_true hd];rfl
    subst hm hd hq;go_enter Tryz.func208,Tryz.ntmps208;go_wp2;go_ret;exact⟨rfl,HB.out⟩
   ·have hq:dq=false:=by rw[←vk.out,decide_eq_false hd,Bool.and_false]
    subst hm hq;have hd2:(d==0)=false:=beq_eq_false_iff_ne.2 hd;go_enter Tryz.func208,Tryz.ntmps208;go_wp2;go_ret;exact⟨rfl,HB.out⟩
  ·have hq:dq=false:=by rw[←vk.out,decide_eq_false hm,Bool.false_and]
   subst hq;have hm2:(m==0)=false:=beq_eq_false_iff_ne.2 hm;go_enter Tryz.func208,Tryz.ntmps208;go_wp2;go_ret;exact⟨rfl,HB.out⟩
theorem FB (t:Ty) (w:World):Calls Tryz.prog 60 #[t.v] w fun e w'=>e=.returned (.bool (aN t))∧Below w.heap.size w w':=by
 obtain⟨tr,m,d⟩:=t;have hb:Below w.heap.size w (w.alloc (.cells #[.bool tr,.int .i64 m,.int .i64 d] 32)):=(Below.refl _ _).alloc (Nat.le_refl _) _;have HB:=zH hb;unfold Ty.v;simp only
 cases tr
 ·have HU:=zH (fun W=>yP m d W);clear hb;rw[Iq];go_enter Tryz.func60,Tryz.ntmps60;go_wp2_with fail;refine (HU.out _).mono ?_;rintro e w1 ⟨rfl,hb1⟩;have HB1:=zH (ah HB.out hb1);clear hb1;go_wp2;go_ret;exact⟨rfl,HB1.out⟩
 ·rw[KI];obtain⟨dq,qh⟩:=zF ((decide (m=0)&&decide (d=0)));rw[qh];have vk:=zH qh;clear hb qh;by_cases hm:m=0
  ·by_cases hd:d=0
   ·have hq:dq=true:=by rw[←vk.out,decide_eq_true hm,decide_eq_true hd];rfl
    subst hm hd hq;go_enter Tryz.func60,Tryz.ntmps60;go_wp2;go_ret;exact⟨rfl,HB.out⟩
   ·have hq:dq=false:=by rw[←vk.out,decide_eq_false hd,Bool.and_false]
    subst hm hq;have hd2:(d==0)=false:=beq_eq_false_iff_ne.2 hd;go_enter Tryz.func60,Tryz.ntmps60;go_wp2;go_ret;exact⟨rfl,HB.out⟩
  ·have hq:dq=false:=by rw[←vk.out,decide_eq_false hm,Bool.false_and]
   subst hq;have hm2:(m==0)=false:=beq_eq_false_iff_ne.2 hm;go_enter Tryz.func60,Tryz.ntmps60;go_wp2;go_ret;exact⟨rfl,HB.out⟩
theorem TK (d:Nat) (m n m' n':Int) (w:World):(Op.equalIn (d+2) 30 (.agg #[.int .i64 m,.int .i64 n]) (.agg #[.int .i64 m',.int .i64 n'])).run Tryz.prog w=.ok (decide (m=m')&&decide (n=n')) w:=by
 have u3:=Tryz.underlying3;have hS:Tryz.prog.underlying 30=some (.struct (Tryz.prog.fieldsOf 30)):=by kernel_rfl
 have hp:Tryz.prog.stoodInHeld 30=false:=by kernel_rfl
 rw[run_equalIn_agg w (d+1) 30 _ _ hS hp];simp only[Program.fieldsOf,Tryz.underlying30]
 go_simp;by_cases h:m=m'
 ·by_cases h2:n=n'
  ·simp[h,h2]
  ·simp[h,h2]
 ·simp[h]
theorem Ir (d:Nat) (a b:Ty) (w:World):(Op.equalIn (d+3) 32 a.v b.v).run Tryz.prog w=.ok (decide (a=b)) w:=by
 have u1:=Tryz.underlying4;have u3:=Tryz.underlying3;have hS:Tryz.prog.underlying 32=some (.struct (Tryz.prog.fieldsOf 32)):=by kernel_rfl
 have hp:Tryz.prog.stoodInHeld 32=false:=by kernel_rfl
 have hR:=fun (m n m' n':Int) (w:World)=>TK d m n m' n' w
 simp only[Ty.v]
 rw[run_equalIn_agg w (d+2) 32 _ _ hS hp];simp only[Program.fieldsOf,Tryz.underlying32]
 go_simp;obtain⟨t,m,n⟩:=a;obtain⟨t',m',n'⟩:=b;by_cases h:t=t'
 ·by_cases h2:m=m'
  ·by_cases h3:n=n'
   ·simp[h,h2,h3]
   ·simp[h,h2,h3]
  ·simp[h,h2]
 ·simp[h]
theorem zV (a b:Ty) (w:World):(binOp .eql 32 a.v b.v).run Tryz.prog w=.ok (.bool (decide (a=b))) w:=by
 have h:=Ir 9997 a b w;simp only[Ty.v] at h⊢;rw[run_eql_struct,show (10000:Nat)=9997+3 from rfl,h];rfl
theorem Dl (a b:Ty) (w:World):(binOp .neq 32 a.v b.v).run Tryz.prog w=.ok (.bool (!decide (a=b))) w:=by
 have h:=Ir 9997 a b w;simp only[Ty.v] at h⊢;rw[run_neq_struct,show (10000:Nat)=9997+3 from rfl,h];rfl
theorem vG (a:Ra) (w:World) (hn:a.num.size≤536870912) (hd:a.den.size≤536870912):
  Calls Tryz.prog 71 #[a.v] w fun e w'=>e=.returned (.bool (dJ a))∧Below w.heap.size w w':=by
 have HR:=zH (fun w=>sF a w hn hd);have HN:=zH (fun w=>Fj a.num w (by omega));have HD:=zH (fun w=>Fj a.den w (by omega));have HF:Hid (dJ a=(okR a&&decide (iq (aA a.num)≤400)&&decide (iq (aA a.den)≤400))):=rfl;generalize iq (aA a.num)=bn at*;generalize iq (aA a.den)=bd at*;clear hn hd;obtain⟨o,ho⟩:=zF (okR a);rw[ho] at HR HF;clear ho;obtain⟨f,hf⟩:=zF (dJ a);rw[hf] at HF⊢;clear hf;obtain⟨neg,num,den⟩:=a;unfold Ra.v at HR⊢;simp only at HN HD;obtain⟨W,hW⟩:=zE (w.alloc (.cells #[.bool neg,.string num,.string den] 40));have hba:Below w.heap.size w W:=by rw[hW];exact zB _ _
 have hblk:aj W w.heap.size 40 [.bool neg,.string num,.string den]:=by rw[hW];exact aj.new w _ _
 obtain⟨B,hB⟩:=zE w.heap.size;have HB:=zH hB;rw[←hB] at hblk hba;have hc:=hblk.cells;cases o
 ·go_enter Tryz.func71,Tryz.ntmps71;go_wp2_with fail;simp only[←hW,←hB]
  clear hW hB;refine (HR.out _).mono ?_;rintro e w1 ⟨rfl,hb1⟩;go_wp2;go_ret;exact⟨by rw[HF.out];rfl,by rw[←HB.out];exact hba.trans (hb1.mono (Nat.le_of_lt hblk.lt))⟩
 ·by_cases h1:bn≤400
  ·go_enter Tryz.func71,Tryz.ntmps71;go_wp2_with fail;simp only[←hW,←hB]
   clear hW hB;refine (HR.out _).mono ?_;rintro e w1 ⟨rfl,hb1⟩;have hk1:=hblk.below hb1 hblk.lt;have hc1:=hk1.cells;go_wp2_with fail;refine (HN.out _).mono ?_;rintro e w2 ⟨rfl,hb2⟩;have hk2:=hk1.below hb2 hk1.lt;have hc2:=hk2.cells;have h1':decide ((bn:Int)≤400)=true:=by rw[decide_eq_true_eq];omega
   go_wp2_with fail;refine (HD.out _).mono ?_;rintro e w3 ⟨rfl,hb3⟩;go_wp2
   all_goals
    go_ret;refine⟨?_,by rw[←HB.out];exact hba.trans ((ah (ah hb1 hb2) hb3).mono (Nat.le_of_lt hblk.lt))⟩;rw[HF.out,decide_eq_true h1];simp;omega
  ·have h1':decide ((bn:Int)≤400)=false:=by rw[decide_eq_false_iff_not];omega
   go_enter Tryz.func71,Tryz.ntmps71;go_wp2_with fail;simp only[←hW,←hB]
   clear hW hB;refine (HR.out _).mono ?_;rintro e w1 ⟨rfl,hb1⟩;have hk1:=hblk.below hb1 hblk.lt;have hc1:=hk1.cells;go_wp2_with fail;refine (HN.out _).mono ?_;rintro e w2 ⟨rfl,hb2⟩;go_wp2;go_ret;refine⟨?_,by rw[←HB.out];exact hba.trans ((ah hb1 hb2).mono (Nat.le_of_lt hblk.lt))⟩;rw[HF.out,decide_eq_false h1];rfl
theorem Wp (k:Nat) (h1:k≤24):((aC (k:Int)).lit=true↔1≤k∧k≤4)∧((aC (k:Int)).dS=true↔21≤k∧k≤23)∧((aC (k:Int)).dR=true↔(5≤k∧k≤8)∨k=24):=by
 have h:∀k∈List.range 25,((aC (k:Int)).lit=true↔1≤k∧k≤4)∧((aC (k:Int)).dS=true↔21≤k∧k≤23)∧((aC (k:Int)).dR=true↔(5≤k∧k≤8)∨k=24):=by decide
 exact h k (List.mem_range.2 (by omega))
def F7 (z:Int) (w:World) (e:Ending) (w':World):Prop:=e=.returned (.int .i64 z)∧Below w.heap.size w w'
theorem Wq (n:Nd) (w:World) (h:n.op<1∨24<n.op):Calls Tryz.prog 74 #[n.v] w (F7 11 w):=by
 have HO:=zH (fun w=>aeJ n.op w h);obtain⟨op,⟨neg,num,den⟩,nm⟩:=n;unfold Nd.v;simp only at HO⊢;clear h;obtain⟨W,hW⟩:=zE (w.alloc (.cells #[.int .i64 op,.bool neg,.string num,.string den,.string nm] 48));have hba:Below w.heap.size w W:=by rw[hW];exact zB _ _
 have hblk:aj W w.heap.size 48 [.int .i64 op,.bool neg,.string num,.string den,.string nm]:=by rw[hW];exact aj.new w _ _
 obtain⟨B,hB⟩:=zE w.heap.size;have HB:=zH hB;rw[←hB] at hblk hba;have hc:=hblk.cells;go_enter Tryz.func74,Tryz.ntmps74;go_wp2_with fail;simp only[←hW,←hB]
 clear hW hB;refine (HO.out _).mono ?_;rintro e w1 ⟨rfl,hb1⟩;simp only[Sh.v,Fv]
 go_wp2;go_ret;refine⟨rfl,?_⟩;rw[←HB.out];exact (hba.trans (hb1.mono (Nat.le_of_lt hblk.lt))).alloc (by have:=hb1.size;have:=hblk.lt;omega) _
structure Wr (k:Nat) (neg:Bool) (num den nm:ByteArray) (B B2:Nat) (w W:World):Prop where
 own:w.heap.size≤B
 node:aj W B 48 [.int .i64 (k:Int),.bool neg,.string num,.string den,.string nm]
 shape:aj W B2 135 (aC (k:Int)).cells
 below:Below w.heap.size w W
theorem Wr.step {k:Nat} {neg:Bool} {num den nm:ByteArray} {B B2:Nat} {w W W':World} (h:Wr k neg num den nm B B2 w W) (hb:Below W.heap.size W W'):Wr k neg num den nm B B2 w W':=
 ⟨h.own,h.node.below hb h.node.lt,h.shape.below hb h.shape.lt,ah h.below hb⟩
theorem NU (k ops:Nat) (wd:List UInt8) (L S neg:Bool) (num den nm:ByteArray) (w:World) (z:Int) (hL:dK w)
  (hO:∀w,dK w→Calls Tryz.prog 118 #[.int .i64 (k:Int)] w fun e w'=>e=.returned (.tuple #[.agg #[.string ⟨wd.toArray⟩,.int .i64 (ops:Int),.bool L,.bool false,.bool S],.bool true])∧Below w.heap.size w w')
  (hnm:(!nm.toList.isEmpty)=true) (hz:z=11):Calls Tryz.prog 74 #[.agg #[.int .i64 (k:Int),.bool neg,.string num,.string den,.string nm]] w (F7 z w):=by
 have HO:=zH hO;clear hO;obtain⟨W,hW⟩:=zE (w.alloc (.cells #[.int .i64 (k:Int),.bool neg,.string num,.string den,.string nm] 48));have hba:Below w.heap.size w W:=by rw[hW];exact zB _ _
 have hblk:aj W w.heap.size 48 [.int .i64 (k:Int),.bool neg,.string num,.string den,.string nm]:=by rw[hW];exact aj.new w _ _
 have fP:=zH (hL.below hba);clear hL;obtain⟨B,hB⟩:=zE w.heap.size;have HB:=zH hB;rw[←hB] at hblk hba;have hc:=hblk.cells;have agn:nm.toList.isEmpty=false:=by simpa using hnm
 have HW:=zH hz;clear hz;go_enter Tryz.func74,Tryz.ntmps74;go_wp2_with fail;simp only[←hW,←hB]
 clear hW hB;refine (HO.out _ fP.out).mono ?_;rintro e w1 ⟨rfl,hb1⟩;have hk1:=hblk.below hb1 hblk.lt;have hn2:=hk1.alloc (.cells #[.string ⟨wd.toArray⟩,.int .i64 (ops:Int),.bool L,.bool false,.bool S] 135);have hs2:=aj.new w1 135 #[.string ⟨wd.toArray⟩,.int .i64 (ops:Int),.bool L,.bool false,.bool S];have hb2:Below B w (w1.alloc (.cells #[.string ⟨wd.toArray⟩,.int .i64 (ops:Int),.bool L,.bool false,.bool S] 135)):=(hba.trans (hb1.mono (Nat.le_of_lt hblk.lt))).alloc (by have:=hb1.size;have:=hblk.lt;omega) _;have hc2:=hn2.cells;clear hk1 hb1 hc;go_wp2;go_ret;exact⟨by rw[HW.out];rfl,by rw[←HB.out];exact hb2⟩
theorem Ws (k ops:Nat) (wd:List UInt8) (neg:Bool) (num den nm:ByteArray) (w:World) (z:Int) (hL:dK w)
  (hO:∀w,dK w→Calls Tryz.prog 118 #[.int .i64 (k:Int)] w fun e w'=>e=.returned (.tuple #[.agg #[.string ⟨wd.toArray⟩,.int .i64 (ops:Int),.bool true,.bool false,.bool false],.bool true])∧Below w.heap.size w w')
  (h4:((k:Int)==4)=false) (hnm:nm.toList.isEmpty=true) (f:Bool) (hF:∀W,Calls Tryz.prog 71 #[.agg #[.bool neg,.string num,.string den]] W fun e w'=>e=.returned (.bool f)∧Below W.heap.size W w') (hz:z=if f then 0 else 11):Calls Tryz.prog 74 #[.agg #[.int .i64 (k:Int),.bool neg,.string num,.string den,.string nm]] w (F7 z w):=by
 have HO:=zH hO;clear hO;obtain⟨W,hW⟩:=zE (w.alloc (.cells #[.int .i64 (k:Int),.bool neg,.string num,.string den,.string nm] 48));have hba:Below w.heap.size w W:=by rw[hW];exact zB _ _
 have hblk:aj W w.heap.size 48 [.int .i64 (k:Int),.bool neg,.string num,.string den,.string nm]:=by rw[hW];exact aj.new w _ _
 have fP:=zH (hL.below hba);clear hL;obtain⟨B,hB⟩:=zE w.heap.size;have HB:=zH hB;rw[←hB] at hblk hba;have hc:=hblk.cells;have HF:=zH hF;have HW:=zH hz;clear hF hz;cases f
 all_goals
  go_enter Tryz.func74,Tryz.ntmps74;go_wp2_with fail;simp only[←hW,←hB]
  clear hW hB;refine (HO.out _ fP.out).mono ?_;rintro e w1 ⟨rfl,hb1⟩;have hk1:=hblk.below hb1 hblk.lt;have hn2:=hk1.alloc (.cells #[.string ⟨wd.toArray⟩,.int .i64 (ops:Int),.bool true,.bool false,.bool false] 135);have hs2:=aj.new w1 135 #[.string ⟨wd.toArray⟩,.int .i64 (ops:Int),.bool true,.bool false,.bool false];have hb2:Below B w (w1.alloc (.cells #[.string ⟨wd.toArray⟩,.int .i64 (ops:Int),.bool true,.bool false,.bool false] 135)):=(hba.trans (hb1.mono (Nat.le_of_lt hblk.lt))).alloc (by have:=hb1.size;have:=hblk.lt;omega) _;have hc2:=hn2.cells;clear hk1 hb1 hc;go_wp2_with fail;obtain⟨w2,hw2⟩:∃x,x=w1.alloc (.cells #[.string ⟨wd.toArray⟩,.int .i64 (ops:Int),.bool true,.bool false,.bool false] 135):=⟨_,rfl⟩
  obtain⟨C,hC⟩:∃x,x=w1.heap.size:=⟨_,rfl⟩
  simp only[←hw2,←hC]
  rw[←hw2] at hn2 hs2 hb2;rw[←hC] at hs2;clear hw2 hC hc2;refine (HF.out _).mono ?_;rintro e w3 ⟨rfl,nI⟩;have hn3:=hn2.below nI hn2.lt;have hs3:=hs2.below nI hs2.lt;have hb3:Below B w w3:=hb2.trans (nI.mono (Nat.le_of_lt hn2.lt));have hc3:=hn3.cells;have hd3:=hs3.cells;clear hn2 hs2 hb2 nI;go_wp2;go_ret;exact⟨by rw[HW.out];rfl,by rw[←HB.out];exact hb3⟩
theorem Wu (k ops:Nat) (wd:List UInt8) (neg:Bool) (num den nm:ByteArray) (w:World) (z:Int) (hL:dK w)
  (hO:∀w,dK w→Calls Tryz.prog 118 #[.int .i64 (k:Int)] w fun e w'=>e=.returned (.tuple #[.agg #[.string ⟨wd.toArray⟩,.int .i64 (ops:Int),.bool false,.bool false,.bool true],.bool true])∧Below w.heap.size w w')
  (h4:((k:Int)==4)=false) (hnm:nm.toList.isEmpty=true) (f:Bool) (s:Int) (hF:∀W,Calls Tryz.prog 71 #[.agg #[.bool neg,.string num,.string den]] W fun e w'=>e=.returned (.bool f)∧Below W.heap.size W w') (hS:∀W,Calls Tryz.prog 67 #[.agg #[.bool neg,.string num,.string den]] W fun e w'=>e=.returned (.int .i64 s)∧Below W.heap.size W w') (hz:z=if f&&decide (0<s) then 0 else 11):Calls Tryz.prog 74 #[.agg #[.int .i64 (k:Int),.bool neg,.string num,.string den,.string nm]] w (F7 z w):=by
 have HO:=zH hO;clear hO;obtain⟨W,hW⟩:=zE (w.alloc (.cells #[.int .i64 (k:Int),.bool neg,.string num,.string den,.string nm] 48));have hba:Below w.heap.size w W:=by rw[hW];exact zB _ _
 have hblk:aj W w.heap.size 48 [.int .i64 (k:Int),.bool neg,.string num,.string den,.string nm]:=by rw[hW];exact aj.new w _ _
 have fP:=zH (hL.below hba);clear hL;obtain⟨B,hB⟩:=zE w.heap.size;have HB:=zH hB;rw[←hB] at hblk hba;have hc:=hblk.cells;have HF:=zH hF;have HS:=zH hS;have HW:=zH hz;clear hF hS hz;cases f
 ·go_enter Tryz.func74,Tryz.ntmps74;go_wp2_with fail;simp only[←hW,←hB]
  clear hW hB;refine (HO.out _ fP.out).mono ?_;rintro e w1 ⟨rfl,hb1⟩;have hk1:=hblk.below hb1 hblk.lt;have hn2:=hk1.alloc (.cells #[.string ⟨wd.toArray⟩,.int .i64 (ops:Int),.bool false,.bool false,.bool true] 135);have hs2:=aj.new w1 135 #[.string ⟨wd.toArray⟩,.int .i64 (ops:Int),.bool false,.bool false,.bool true];have hb2:Below B w (w1.alloc (.cells #[.string ⟨wd.toArray⟩,.int .i64 (ops:Int),.bool false,.bool false,.bool true] 135)):=(hba.trans (hb1.mono (Nat.le_of_lt hblk.lt))).alloc (by have:=hb1.size;have:=hblk.lt;omega) _;have hc2:=hn2.cells;clear hk1 hb1 hc;go_wp2_with fail;obtain⟨w2,hw2⟩:∃x,x=w1.alloc (.cells #[.string ⟨wd.toArray⟩,.int .i64 (ops:Int),.bool false,.bool false,.bool true] 135):=⟨_,rfl⟩
  obtain⟨C,hC⟩:∃x,x=w1.heap.size:=⟨_,rfl⟩
  simp only[←hw2,←hC]
  rw[←hw2] at hn2 hs2 hb2;rw[←hC] at hs2;clear hw2 hC hc2;refine (HF.out _).mono ?_;rintro e w3 ⟨rfl,nI⟩;have hn3:=hn2.below nI hn2.lt;have hs3:=hs2.below nI hs2.lt;have hb3:Below B w w3:=hb2.trans (nI.mono (Nat.le_of_lt hn2.lt));have hc3:=hn3.cells;have hd3:=hs3.cells;clear hn2 hs2 hb2 nI;go_wp2;go_ret;exact⟨by rw[HW.out];rfl,by rw[←HB.out];exact hb3⟩
 ·obtain⟨b,hb⟩:=zF (decide (0<s));rw[hb] at HW;cases b
  all_goals
   go_enter Tryz.func74,Tryz.ntmps74;go_wp2_with fail;simp only[←hW,←hB]
   clear hW hB;refine (HO.out _ fP.out).mono ?_;rintro e w1 ⟨rfl,hb1⟩;have hk1:=hblk.below hb1 hblk.lt;have hn2:=hk1.alloc (.cells #[.string ⟨wd.toArray⟩,.int .i64 (ops:Int),.bool false,.bool false,.bool true] 135);have hs2:=aj.new w1 135 #[.string ⟨wd.toArray⟩,.int .i64 (ops:Int),.bool false,.bool false,.bool true];have hb2:Below B w (w1.alloc (.cells #[.string ⟨wd.toArray⟩,.int .i64 (ops:Int),.bool false,.bool false,.bool true] 135)):=(hba.trans (hb1.mono (Nat.le_of_lt hblk.lt))).alloc (by have:=hb1.size;have:=hblk.lt;omega) _;have hc2:=hn2.cells;clear hk1 hb1 hc;go_wp2_with fail;obtain⟨w2,hw2⟩:∃x,x=w1.alloc (.cells #[.string ⟨wd.toArray⟩,.int .i64 (ops:Int),.bool false,.bool false,.bool true] 135):=⟨_,rfl⟩
   obtain⟨C,hC⟩:∃x,x=w1.heap.size:=⟨_,rfl⟩
   simp only[←hw2,←hC]
   rw[←hw2] at hn2 hs2 hb2;rw[←hC] at hs2;clear hw2 hC hc2;refine (HF.out _).mono ?_;rintro e w3 ⟨rfl,nI⟩;have hn3:=hn2.below nI hn2.lt;have hs3:=hs2.below nI hs2.lt;have hb3:Below B w w3:=hb2.trans (nI.mono (Nat.le_of_lt hn2.lt));have hc3:=hn3.cells;have hd3:=hs3.cells;clear hn2 hs2 hb2 nI;go_wp2_with fail;refine (HS.out _).mono ?_;rintro e w4 ⟨rfl,TL⟩;have hn4:=hn3.below TL hn3.lt;have hs4:=hs3.below TL hs3.lt;have hb4:Below B w w4:=hb3.trans (TL.mono (Nat.le_of_lt hn3.lt));have hc4:=hn4.cells;have hd4:=hs4.cells;clear hn3 hs3 hb3 TL;go_wp2;go_ret;exact⟨by rw[HW.out];rfl,by rw[←HB.out];exact hb4⟩
theorem Wv (k ops:Nat) (wd:List UInt8) (neg:Bool) (num den nm:ByteArray) (w:World) (z:Int) (hL:dK w) (N:Bool)
  (hO:∀w,dK w→Calls Tryz.prog 118 #[.int .i64 (k:Int)] w fun e w'=>e=.returned (.tuple #[.agg #[.string ⟨wd.toArray⟩,.int .i64 (ops:Int),.bool false,.bool N,.bool false],.bool true])∧Below w.heap.size w w')
  (h4:((k:Int)==4)=false) (hnm:N=true∨nm.toList.isEmpty=true) (d b:Bool) (hd:∀w:World,(binOp .eql 40 (.agg #[.bool neg,.string num,.string den]) (.agg #[.bool false,.string ⟨#[]⟩,.string ⟨#[]⟩])).run Tryz.prog w=.ok (.bool d) w) (hI:∀W,Calls Tryz.prog 119 #[.string nm] W fun e w'=>e=.returned (.bool b)∧Below W.heap.size W w') (hz:z=if d then (if N&& !b then 12 else 0) else 11):Calls Tryz.prog 74 #[.agg #[.int .i64 (k:Int),.bool neg,.string num,.string den,.string nm]] w (F7 z w):=by
 have HO:=zH hO;clear hO;obtain⟨W,hW⟩:=zE (w.alloc (.cells #[.int .i64 (k:Int),.bool neg,.string num,.string den,.string nm] 48));have hba:Below w.heap.size w W:=by rw[hW];exact zB _ _
 have hblk:aj W w.heap.size 48 [.int .i64 (k:Int),.bool neg,.string num,.string den,.string nm]:=by rw[hW];exact aj.new w _ _
 have fP:=zH (hL.below hba);clear hL;obtain⟨B,hB⟩:=zE w.heap.size;have HB:=zH hB;rw[←hB] at hblk hba;have hc:=hblk.cells;have HI:=zH hI;have HW:=zH hz;clear hI hz;cases N
 ·have ai1:nm.toList.isEmpty=true:=by simpa using hnm
  clear hnm;cases d
  all_goals
   go_enter Tryz.func74,Tryz.ntmps74;go_wp2_with fail;simp only[←hW,←hB]
   clear hW hB;refine (HO.out _ fP.out).mono ?_;rintro e w1 ⟨rfl,hb1⟩;have hk1:=hblk.below hb1 hblk.lt;have hn2:=hk1.alloc (.cells #[.string ⟨wd.toArray⟩,.int .i64 (ops:Int),.bool false,.bool false,.bool false] 135);have hs2:=aj.new w1 135 #[.string ⟨wd.toArray⟩,.int .i64 (ops:Int),.bool false,.bool false,.bool false];have hb2:Below B w (w1.alloc (.cells #[.string ⟨wd.toArray⟩,.int .i64 (ops:Int),.bool false,.bool false,.bool false] 135)):=(hba.trans (hb1.mono (Nat.le_of_lt hblk.lt))).alloc (by have:=hb1.size;have:=hblk.lt;omega) _;have hc2:=hn2.cells;clear hk1 hb1 hc;go_wp2;go_ret;exact⟨by rw[HW.out];rfl,by rw[←HB.out];exact hb2⟩
 ·clear hnm;cases d
  ·go_enter Tryz.func74,Tryz.ntmps74;go_wp2_with fail;simp only[←hW,←hB]
   clear hW hB;refine (HO.out _ fP.out).mono ?_;rintro e w1 ⟨rfl,hb1⟩;have hk1:=hblk.below hb1 hblk.lt;have hn2:=hk1.alloc (.cells #[.string ⟨wd.toArray⟩,.int .i64 (ops:Int),.bool false,.bool true,.bool false] 135);have hs2:=aj.new w1 135 #[.string ⟨wd.toArray⟩,.int .i64 (ops:Int),.bool false,.bool true,.bool false];have hb2:Below B w (w1.alloc (.cells #[.string ⟨wd.toArray⟩,.int .i64 (ops:Int),.bool false,.bool true,.bool false] 135)):=(hba.trans (hb1.mono (Nat.le_of_lt hblk.lt))).alloc (by have:=hb1.size;have:=hblk.lt;omega) _;have hc2:=hn2.cells;clear hk1 hb1 hc;go_wp2;go_ret;exact⟨by rw[HW.out];rfl,by rw[←HB.out];exact hb2⟩
  ·cases b
   all_goals
    go_enter Tryz.func74,Tryz.ntmps74;go_wp2_with fail;simp only[←hW,←hB]
    clear hW hB;refine (HO.out _ fP.out).mono ?_;rintro e w1 ⟨rfl,hb1⟩;have hk1:=hblk.below hb1 hblk.lt;have hn2:=hk1.alloc (.cells #[.string ⟨wd.toArray⟩,.int .i64 (ops:Int),.bool false,.bool true,.bool false] 135);have hs2:=aj.new w1 135 #[.string ⟨wd.toArray⟩,.int .i64 (ops:Int),.bool false,.bool true,.bool false];have hb2:Below B w (w1.alloc (.cells #[.string ⟨wd.toArray⟩,.int .i64 (ops:Int),.bool false,.bool true,.bool false] 135)):=(hba.trans (hb1.mono (Nat.le_of_lt hblk.lt))).alloc (by have:=hb1.size;have:=hblk.lt;omega) _;have hc2:=hn2.cells;clear hk1 hb1 hc;go_wp2_with fail;obtain⟨w2,hw2⟩:∃x,x=w1.alloc (.cells #[.string ⟨wd.toArray⟩,.int .i64 (ops:Int),.bool false,.bool true,.bool false] 135):=⟨_,rfl⟩
    obtain⟨C,hC⟩:∃x,x=w1.heap.size:=⟨_,rfl⟩
    simp only[←hw2,←hC]
    rw[←hw2] at hn2 hs2 hb2;rw[←hC] at hs2;clear hw2 hC hc2;refine (HI.out _).mono ?_;rintro e w3 ⟨rfl,nI⟩;have hn3:=hn2.below nI hn2.lt;have hs3:=hs2.below nI hs2.lt;have hb3:Below B w w3:=hb2.trans (nI.mono (Nat.le_of_lt hn2.lt));have hc3:=hn3.cells;have hd3:=hs3.cells;clear hn2 hs2 hb2 nI;go_wp2;go_ret;exact⟨by rw[HW.out];rfl,by rw[←HB.out];exact hb3⟩
theorem Wx (k ops:Nat) (wd:List UInt8) (neg:Bool) (num den nm:ByteArray) (w:World) (z:Int) (hL:dK w)
  (hO:∀w,dK w→Calls Tryz.prog 118 #[.int .i64 (k:Int)] w fun e w'=>e=.returned (.tuple #[.agg #[.string ⟨wd.toArray⟩,.int .i64 (ops:Int),.bool true,.bool false,.bool false],.bool true])∧Below w.heap.size w w')
  (h4:((k:Int)==4)=true) (hnm:nm.toList.isEmpty=true) (d0 d1:Bool) (hq0:∀w:World,(binOp .eql 40 (.agg #[.bool neg,.string num,.string den]) (.agg #[.bool (aW 0).neg,.string (aW 0).num,.string (aW 0).den])).run Tryz.prog w=.ok (.bool d0) w) (hq1:∀w:World,(binOp .eql 40 (.agg #[.bool neg,.string num,.string den]) (.agg #[.bool (aW 1).neg,.string (aW 1).num,.string (aW 1).den])).run Tryz.prog w=.ok (.bool d1) w) (hz:z=if d0||d1 then 0 else 11):Calls Tryz.prog 74 #[.agg #[.int .i64 (k:Int),.bool neg,.string num,.string den,.string nm]] w (F7 z w):=by
 have HO:=zH hO;have HW:=zH hz;have ql:=zH (fun w=>mM 0 w (by omega) (by omega));have ji:=zH (fun w=>mM 1 w (by omega) (by omega));unfold Ra.v at ql ji;have agn:(!nm.toList.isEmpty)=false:=by rw[hnm];rfl
 clear hO hz;go_enter Tryz.func74,Tryz.ntmps74
 go_upto_region 1 with fail
 generalize hX:w.alloc _=W;obtain⟨hk,hb⟩:=zA hX;have HL:=zH (hL.below hb);have hc:=hk.cells;clear hX hL;go_wp2_with fail;refine (HO.out _ HL.out).mono ?_;rintro e w1 ⟨rfl,hb1⟩;replace hk:=hk.below hb1 hk.lt;replace hb:=hb.trans (hb1.mono hb.size);clear hc HL;have hc:=hk.cells
 go_upto_region 2 with fail
 generalize hX:World.alloc w1 _=W2;obtain⟨hk2,hb2⟩:=zA hX;replace hk:=hk.below hb2 hk.lt;replace hb:=hb.trans (hb2.mono hb.size);clear hX hc hb1 hb2;have hcc:=fun X (h:Below W2.heap.size W2 X)=>And.intro (hk.below h hk.lt).cells (hk2.below h hk2.lt).cells
 have hl:=hcc _ (Below.refl _ _);clear hk hk2
 go_upto_region 6 with fail
 clear hl;refine gy (Below W2.heap.size W2) 99 (ak _ _ 1) (fun v hv hS=>?_)
 iterate 2 refine bU ?_
 refine eY 2 (ql.out v) ?_;rintro e v1 ⟨rfl,hb3⟩;refine⟨_,rfl,hS.trans (hb3.mono hS.size),fun hS=>?_⟩
 iterate 2 refine bU ?_
 cases d0
 ·iterate 2 refine bU ?_
  refine eY 7 (ji.out v1) ?_;rintro e v2 ⟨rfl,hb4⟩;refine⟨_,rfl,hS.trans (hb4.mono hS.size),fun hS=>?_⟩
  iterate 3 refine bU ?_
  refine dY ?_;have hl:=hcc _ hS;cases d1
  all_goals
   go_wp2;go_ret;exact⟨by rw[HW.out];rfl,hb.trans (hS.mono hb.size)⟩
 ·refine jw 5 ?_;refine jw 6 ?_;refine jw 7 ?_;refine jw 8 ?_
  iterate 2 refine bU ?_
  refine dY ?_;have hl:=hcc _ hS;go_wp2;go_ret;exact⟨by rw[HW.out];rfl,hb.trans (hS.mono hb.size)⟩
def Fine (n:Nd):Prop:=n.num.num.size≤1048576∧n.num.den.size≤1048576
theorem Wy (n:Nd) (w:World) (hL:dK w) (hf:Fine n):Calls Tryz.prog 74 #[n.v] w (F7 (bP n) w):=by
 obtain⟨hn,hd⟩:=hf;by_cases h:n.op<1∨24<n.op
 ·have e:bP n=11:=by
   unfold bP;rw[if_pos (by rcases h with h|h;exact .inl h;exact .inr (.inl h))]
  rw[e];exact Wq n w h
 ·obtain⟨k,hk⟩:∃k:Nat,n.op=k:=⟨n.op.toNat,by omega⟩
  have hk0:1≤k:=by omega
  have hk1:k≤24:=by omega
  have HO:=fun w hL=>acT k w hL hk0 hk1
  obtain⟨f1,f2,f3⟩:=Wp k hk1
  have hW:bP n=if ((aC (k:Int)).dR=false∧n.name≠⟨#[]⟩)∨iW n=false then 11 else if (aC (k:Int)).dR&& !nameB n.name.data.toList then 12 else 0:=by
   unfold bP;rw[hk];have a1:¬((k:Int)<1):=by omega
   have a2:¬(24<(k:Int)):=by omega
   simp only[a1,a2,false_or]
  have hU:iW n=if (k:Int)=4 then decide (n.num=aW 0)||decide (n.num=aW 1) else if (aC (k:Int)).lit then dJ n.num else if (aC (k:Int)).dS then dJ n.num&&decide (0<dV n.num) else decide (n.num=zR):=by
   unfold iW;rw[hk]
  have HF:=fun W=>vG n.num W (by omega) (by omega)
  have HS:=fun W=>vC n.num W (by omega) (by omega)
  have HI:=fun W=>TD n.name W
  have ql:=fun W=>nO n.num (aW 0) W
  have ji:=fun W=>nO n.num (aW 1) W
  have zW:=fun W=>nO n.num zR W
  obtain⟨op,num,nm⟩:=n;simp only at hk;subst hk
  have hem:(nm.toList.isEmpty=true)↔nm=⟨#[]⟩:=by
   have e0:(⟨#[]⟩:ByteArray).toList=[]:=by rw[ByteArray.toList_eq]
   rw[List.isEmpty_iff];exact⟨fun h=>toList_inj (by rw[h,e0]),fun h=>by rw[h,e0]⟩
  generalize aC (k:Int)=s at*;obtain⟨wd,ops,lit,dR,dS⟩:=s;obtain⟨neg,nu,de⟩:=num;simp only at*;simp only[Sh.v] at HO;simp only[Ra.v] at HF HS ql ji zW;show Calls _ _ #[.agg #[.int .i64 (k:Int),.bool neg,.string nu,.string de,.string nm]] _ _;by_cases hno:dR=false∧nm≠⟨#[]⟩
  ·obtain⟨rfl,hne⟩:=hno;refine NU k ops wd lit dS neg nu de nm w _ hL HO ?_ ?_
   ·cases he:nm.toList.isEmpty
    ·rfl
    ·exact absurd (hem.1 he) hne
   ·rw[hW,if_pos (.inl ⟨rfl,hne⟩)]
  ·have hnm:dR=true∨nm.toList.isEmpty=true:=by
    cases dR
    ·refine .inr (hem.2 (Classical.byContradiction fun hc=>hno ⟨rfl,hc⟩))
    ·exact .inl rfl
   have hW2:bP ⟨(k:Int),⟨neg,nu,de⟩,nm⟩=if iW ⟨(k:Int),⟨neg,nu,de⟩,nm⟩ then (if dR&& !nameB nm.data.toList then 12 else 0) else 11:=by
    rw[hW];cases iW ⟨(k:Int),⟨neg,nu,de⟩,nm⟩
    ·rw[if_pos (.inr rfl)];rfl
    ·rw[if_neg (by rintro (h|h);exact hno h;cases h)];rfl
   by_cases h4:k=4
   ·have hl:lit=true:=f1.2 (by omega)
    have hs:dS=false:=by
     cases dS
     ·rfl
     ·have:=f2.1 rfl;omega
    have hn:dR=false:=by
     cases dR
     ·rfl
     ·have:=f3.1 rfl;omega
    subst hl hs hn;refine Wx k ops wd neg nu de nm w _ hL HO (by rw[beq_iff_eq];omega) (by simpa using hnm) _ _ ql ji ?_;have h4':(k:Int)=4:=by omega
    rw[hW2,hU,if_pos h4'];simp only[Bool.false_and,Bool.false_eq_true,if_false]
   ·have h4':((k:Int)==4)=false:=by rw[beq_eq_false_iff_ne];omega
    have YT:¬((k:Int)=4):=by omega
    cases lit
    ·cases dS
     ·refine Wv k ops wd neg nu de nm w _ hL dR HO h4' hnm _ _ zW HI ?_;rw[hW2,hU,if_neg YT];simp
     ·have hn:dR=false:=by
       cases dR
       ·rfl
       ·have:=f3.1 rfl;have:=f2.1 rfl;omega
      subst hn;refine Wu k ops wd neg nu de nm w _ hL HO h4' (by simpa using hnm) _ _ HF HS ?_;rw[hW2,hU,if_neg YT];simp
    ·have hs:dS=false:=by
      cases dS
      ·rfl
      ·have:=f2.1 rfl;have:=f1.1 rfl;omega
     have hn:dR=false:=by
      cases dR
      ·rfl
      ·have:=f3.1 rfl;have:=f1.1 rfl;omega
     subst hs hn;refine Ws k ops wd neg nu de nm w _ hL HO h4' (by simpa using hnm) _ HF ?_;rw[hW2,hU,if_neg YT];simp
def oV (es:List Nd):List Value:=es.flatMap Nd.cells
def agp (w:World) (b o:Nat) (n:Nd):Prop:=
 w.cell? ⟨b,o,none⟩=some (.int .i64 n.op)∧w.cell? ⟨b,o+1,none⟩=some (.bool n.num.neg)∧w.cell? ⟨b,o+2,none⟩=some (.string n.num.num)∧w.cell? ⟨b,o+3,none⟩=some (.string n.num.den)∧w.cell? ⟨b,o+4,none⟩=some (.string n.name)
theorem Iu (es:List Nd):(oV es).length=es.length*5:=by
 induction es with
 |nil=>rfl
 |cons n es ih=>show (n.cells++oV es).length=_;rw[List.length_append,ih,List.length_cons];show 5+_=_;omega
theorem abD (es:List Nd) (k i:Nat) (hk:k<es.length) (hi:i<5):(oV es)[k*5+i]?=es[k].cells[i]?:=by
 have h:=qy Nd.cells 5 (fun _=>rfl) es k i hi;rw[List.getElem?_eq_getElem hk] at h;exact h
theorem Rd.nd {w:World} {A:Option Addr} {es:List Nd} (h:Rd w A (oV es)) {k:Nat} (hk:k<es.length):
  ∃b off,A=some ⟨b,off,none⟩∧b<w.heap.size∧agp w b (off+k*5) es[k]:=by
 obtain⟨b,off,e,hb,hc⟩:=h.at_ (k:=k*5) (by rw[Iu];omega)
 have key:∀i (hi:i<5),w.cell? ⟨b,off+(k*5+i),none⟩=(es[k].cells)[i]?:=fun i hi=>by
  have hl:k*5+i<(oV es).length:=by rw[Iu];omega
  rw[hc _ hl,←abD es k i hk hi,List.getElem?_eq_getElem hl]
 exact⟨b,off,e,hb,key 0 (by omega),key 1 (by omega),key 2 (by omega),key 3 (by omega),key 4 (by omega)⟩
theorem Dn {n:Nd} (h:bP n=0):1≤n.op∧n.op≤24:=by
 unfold bP at h;split at h
 ·cases h
 ·next hc=>
  exact⟨Classical.byContradiction fun hh=>hc (.inl (by omega)),Classical.byContradiction fun hh=>hc (.inr (.inl (by omega)))⟩
theorem Qe (n:Nd):bP n=0∨bP n=11∨bP n=12:=by
 unfold bP;split
 ·exact .inr (.inl rfl)
 ·split
  ·exact .inr (.inr rfl)
  ·exact .inl rfl
theorem wP (n:Int):(aC n).ops≤3:=by
 have h:∀s∈kK,s.ops≤3:=by decide
 unfold aC;rw[List.getD_eq_getElem?_getD];cases hg:kK[n.toNat]? with
 |none=>show 0≤3;omega
 |some s=>exact h s (List.mem_of_getElem? hg)
theorem check_any (es:List Nd) (A:Option Addr) (len cap:Nat) (w:World) (hL:dK w) (hlen:len=es.length) (hcap:len≤cap) (hm:cap≤maxLen) (hr:Rd w A (oV es)) (hf:∀n∈es,Fine n):
  Calls Tryz.prog 32 #[.slice A len cap] w fun e w'=>e=.returned (.int .i64 (bC es))∧Below w.heap.size w w':=by
 unfold maxLen at hm;by_cases h60:60<len
 ·have HV:Hid (bC es=2):=by show _=_;unfold bC;rw[if_pos (by omega)]
  have YU:(60:Int)<len:=by omega
  clear hlen hL hr hf;go_enter Tryz.func32,Tryz.ntmps32;go_wp2;go_ret;exact⟨by rw[HV.out];rfl,Below.refl _ _⟩
 ·have HV:Hid (bC es=chk es 0):=by show _=_;unfold bC;rw[if_neg (by omega)]
  have YU:¬(60:Int)<len:=by omega
  have HL:=zH hL;have HR:=zH hr;have HF:=zH hf;have HLEN:=zH hlen;have hle:len≤60:=by omega
  clear hlen hL hr hf h60;go_enter Tryz.func32,Tryz.ntmps32;go_wp2
  go_loopg [3,12] len (fun g dv iv wr=>∃k d:Nat,k+g=len∧d≤k∧dv=.int .i64 d∧iv=.int .i64 k∧Hid (chk es 0=chk (es.drop k) d)∧Below w.heap.size w wr)
  case atStart=>exact⟨0,0,by omega,by omega,rfl,rfl,rfl,Below.refl _ _⟩
  case round=>
   obtain⟨k,d,hk,hd,rfl,rfl,hch,hbw⟩:=hrel;by_cases hlt:k<len
   ·have hke:k<es.length:=by rw[←HLEN.out];exact hlt
    obtain⟨b,off,rfl,hb,hc0,hc1,hc2,hc3,hc4⟩:=(HR.out.below hbw).nd hke;have hfin:=HF.out _ (List.getElem_mem hke);have HD:Hid (chk (es.drop k) d=chk (es[k]::es.drop (k+1)) d):=by show _=_;rw[List.drop_eq_getElem_cons hke]
    have KJ:=zH (fun w hL=>Wy es[k] w hL hfin);generalize es[k]=n at*;obtain⟨op,⟨neg,num,den⟩,nm⟩:=n;simp only at hc0 hc1 hc2 hc3 hc4;have hll:=HL.out.below hbw;have hla:=hll.alloc (.cells #[.int .i64 op,.bool neg,.string num,.string den,.string nm] 48);have l7:=zH hla;have hba:Below w.heap.size w (wr.alloc (.cells #[.int .i64 op,.bool neg,.string num,.string den,.string nm] 48)):=hbw.alloc hbw.size _;have hka:=aj.new wr 48 #[.int .i64 op,.bool neg,.string num,.string den,.string nm];have hv:=Qe ⟨op,⟨neg,num,den⟩,nm⟩;have hop:bP ⟨op,⟨neg,num,den⟩,nm⟩=0→1≤op∧op≤24:=Dn
    have wE:Hid (∀z,bP ⟨op,⟨neg,num,den⟩,nm⟩=z→chk es 0=if z≠0 then z else if d<(aC op).ops then 11 else chk (es.drop (k+1)) (d-(aC op).ops+1)):=by
     rintro z rfl;rw[hch.out,HD.out,chk]
    clear hla hll hfin;obtain⟨z,hz⟩:=zF (bP ⟨op,⟨neg,num,den⟩,nm⟩);have wE:=zH (wE.out z hz);rw[hz] at KJ hv hop;clear hz HD hch;by_cases hz0:z=0
    ·subst hz0;obtain⟨o1,o2⟩:=hop rfl;obtain⟨p,rfl⟩:∃p:Nat,op=p:=⟨op.toNat,by omega⟩
     have hol:=wP (p:Int);clear hv;go_wp2_with fail;refine (KJ.out _ l7.out).mono ?_;rintro e w2 ⟨rfl,hb2⟩;have hk2:=hka.below hb2 hka.lt;have hcB:=hk2.cells;have ht:=(l7.out.below hb2).cell p 1 (by omega) (by omega)
     have HC:Hid (chk es 0=if d<(aC (p:Int)).ops then 11 else chk (es.drop (k+1)) (d-(aC (p:Int)).ops+1)):=by
      have:=wE.out;rwa[if_neg (by simp)] at this
     simp only[Sh.cells,List.getElem?_cons_succ,List.getElem?_cons_zero] at ht;generalize aC (p:Int)=s at*;obtain⟨wd,o,l1,l2,l3⟩:=s;simp only at ht hol HC;have HB:=zH (ah hba hb2);clear wE hk2 hka hb2 hba KJ;by_cases hdo:d<o
     ·have e1:(d:Int)-o<0:=by omega
      go_wp2;go_ret;exact⟨by rw[HV.out,HC.out,if_pos hdo];rfl,HB.out⟩
     ·have e1:0≤(d:Int)-o:=by omega
      go_wp2
      go_roundg (len-(k+1))
      case measure=>omega
      case rel=>
       refine⟨k+1,d-o+1,by omega,by omega,by go_num,by go_num,?_,HB.out⟩;show _=_;rw[HC.out,if_neg hdo]
    ·have e1:(z==0)=false:=by simp[hz0]
     have e2:(z !=0)=true:=by simp[hz0]
     go_wp2_with fail;refine (KJ.out _ l7.out).mono ?_;rintro e w2 ⟨rfl,hb2⟩;go_wp2;go_ret;exact⟨by rw[HV.out,wE.out,if_pos hz0];rfl,ah hba hb2⟩
   ·have hkl:k=len:=by omega
    have hg0:gk=0:=by omega
    have HD:Hid (es.drop k=[]):=by show _=_;rw[hkl,HLEN.out,List.drop_length]
    by_cases h1:d=1
    ·have e1:((d:Int) !=1)=false:=by rw[h1];rfl
     go_wp2;go_ret;refine⟨?_,hbw⟩;rw[HV.out,hch.out,HD.out,h1];rfl
    ·have e1:((d:Int) !=1)=true:=by rw[bne_iff_ne];omega
     go_wp2;go_ret;refine⟨?_,hbw⟩;rw[HV.out,hch.out,HD.out,chk,if_neg h1];rfl
theorem JA (n:Int) (h:n<1∨24<n):aC n=Fv:=by
 unfold aC;rcases h with h|h
 ·rw[show n.toNat=0 from by omega];rfl
 ·rw[List.getD_eq_getElem?_getD,List.getElem?_eq_none (by show 25≤_;omega)];rfl
theorem zX (P:Int→Sh→Prop) (h:∀k∈List.range 25,P (k:Int) (aC (k:Int))) (ho:∀n:Int,(n<1∨24<n)→P n Fv) (n:Int):P n (aC n):=by
 by_cases hh:n<1∨24<n
 ·rw[JA n hh];exact ho n hh
 ·have:=h n.toNat (List.mem_range.2 (by omega));rwa[show ((n.toNat:Nat):Int)=n from by omega] at this
theorem JB (n:Int):((aC n).ops:Int)=if n=15 then 3 else if (9≤n∧n≤14)∨(16≤n∧n≤19) then 2 else if 20≤n∧n≤24 then 1 else 0:=by
 refine zX (fun n s=>(s.ops:Int)=if n=15 then 3 else if (9≤n∧n≤14)∨(16≤n∧n≤19) then 2 else if 20≤n∧n≤24 then 1 else 0) (by decide) ?_ n;intro n h;rw[if_neg (by omega),if_neg (by omega),if_neg (by omega)];rfl
theorem abE (n:Int):(aC n).dR=decide ((5≤n∧n≤8)∨n=24):=by
 refine zX (fun n s=>s.dR=decide ((5≤n∧n≤8)∨n=24)) (by decide) ?_ n;intro n h;rw[decide_eq_false (by omega)];rfl
theorem EM (n:Int):(aC n).dS=decide (21≤n∧n≤23):=by
 refine zX (fun n s=>s.dS=decide (21≤n∧n≤23)) (by decide) ?_ n;intro n h;rw[decide_eq_false (by omega)];rfl
theorem zY (n:Int):(aC n).lit=decide (1≤n∧n≤4):=by
 refine zX (fun n s=>s.lit=decide (1≤n∧n≤4)) (by decide) ?_ n;intro n h;rw[decide_eq_false (by omega)];rfl
theorem AU (n:Int) (w:World):Calls Tryz.prog 163 #[.int .i64 n] w fun e w'=>e=.returned (.int .i64 ((aC n).ops:Int))∧w=w':=by
 have HV:=zH (JB n);by_cases h1:n=15
 ·subst h1;go_enter Tryz.func163,Tryz.ntmps163;go_wp2;go_ret;exact⟨by rw[HV.out];rfl,rfl⟩
 ·have e1:(n==15)=false:=by rw[beq_eq_false_iff_ne];exact h1
  have hc:(n<9)∨(9≤n∧n≤14)∨(9≤n∧14<n∧16≤n∧n≤19)∨(9≤n∧14<n∧16≤n∧19<n∧20≤n∧n≤24)∨(9≤n∧14<n∧16≤n∧19<n∧20≤n∧24<n):=by omega
  rcases hc with h|⟨h,h2⟩|⟨h,h2,h3,h4⟩|⟨h,h2,h3,h4,h5,h6⟩|⟨h,h2,h3,h4,h5,h6⟩
  case' inl=>
   have g1:n<16:=by omega
   have g2:n<20:=by omega
   have HW:Hid (((aC n).ops:Int)=0):=by show _=_;rw[HV.out,if_neg h1,if_neg (by omega),if_neg (by omega)]
  case' inr.inl=>have HW:Hid (((aC n).ops:Int)=2):=by show _=_;rw[HV.out,if_neg h1,if_pos (by omega)]
  case' inr.inr.inl=>have HW:Hid (((aC n).ops:Int)=2):=by show _=_;rw[HV.out,if_neg h1,if_pos (by omega)]
  case' inr.inr.inr.inl=>have HW:Hid (((aC n).ops:Int)=1):=by show _=_;rw[HV.out,if_neg h1,if_neg (by omega),if_pos (by omega)]
  case' inr.inr.inr.inr=>have HW:Hid (((aC n).ops:Int)=0):=by show _=_;rw[HV.out,if_neg h1,if_neg (by omega),if_neg (by omega)]
  all_goals
   clear h1 HV;go_enter Tryz.func163,Tryz.ntmps163;go_wp2;go_ret;exact⟨by rw[HW.out];rfl,rfl⟩
theorem TM (n:Int) (w:World):Calls Tryz.prog 217 #[.int .i64 n] w fun e w'=>e=.returned (.bool (aC n).dR)∧w=w':=by
 have HV:=zH (abE n);have hc:(5≤n∧n≤8)∨(n<5)∨(5≤n∧8<n):=by omega
 rcases hc with⟨h,h2⟩|h|⟨h,h2⟩
 case' inl=>have HW:Hid ((aC n).dR=true):=by show _=_;rw[HV.out];exact decide_eq_true (by omega)
 case' inr.inl=>
  have e1:(n==24)=false:=by rw[beq_eq_false_iff_ne];omega
  have HW:Hid ((aC n).dR=false):=by show _=_;rw[HV.out];exact decide_eq_false (by omega)
 case' inr.inr=>
  have e2:decide (n≤8)=false:=decide_eq_false (by omega)
  have HW:Hid ((aC n).dR=(n==24)):=by
   show _=_;rw[HV.out];by_cases h24:n=24
   ·subst h24;rfl
   ·rw[decide_eq_false (by omega)];simp[h24]
 all_goals
  clear HV;go_enter Tryz.func217,Tryz.ntmps217;go_wp2;go_ret;exact⟨by rw[HW.out];rfl,rfl⟩
theorem Dp (n:Int) (w:World):Calls Tryz.prog 166 #[.int .i64 n] w fun e w'=>e=.returned (.bool (aC n).dS)∧w=w':=by
 have HV:=zH (EM n);have hc:(21≤n∧n≤23)∨(n<21)∨(21≤n∧23<n):=by omega
 rcases hc with⟨h,h2⟩|h|⟨h,h2⟩
 case' inl=>have HW:Hid ((aC n).dS=true):=by show _=_;rw[HV.out];exact decide_eq_true (by omega)
 case' inr.inl=>have HW:Hid ((aC n).dS=false):=by show _=_;rw[HV.out];exact decide_eq_false (by omega)
 case' inr.inr=>
  have e2:decide (n≤23)=false:=decide_eq_false (by omega);have HW:Hid ((aC n).dS=false):=by show _=_;rw[HV.out];exact decide_eq_false (by omega)
 all_goals
  clear HV;go_enter Tryz.func166,Tryz.ntmps166;go_wp2;go_ret;exact⟨by rw[HW.out];rfl,rfl⟩
theorem Dq (n:Int) (w:World):Calls Tryz.prog 165 #[.int .i64 n] w fun e w'=>e=.returned (.bool (aC n).lit)∧w=w':=by
 have HV:=zH (zY n);have hc:(1≤n∧n≤4)∨(n<1)∨(1≤n∧4<n):=by omega
 rcases hc with⟨h,h2⟩|h|⟨h,h2⟩
 case' inl=>have HW:Hid ((aC n).lit=true):=by show _=_;rw[HV.out];exact decide_eq_true (by omega)
 case' inr.inl=>have HW:Hid ((aC n).lit=false):=by show _=_;rw[HV.out];exact decide_eq_false (by omega)
 case' inr.inr=>
  have e2:decide (n≤4)=false:=decide_eq_false (by omega);have HW:Hid ((aC n).lit=false):=by show _=_;rw[HV.out];exact decide_eq_false (by omega)
 all_goals
  clear HV;go_enter Tryz.func165,Tryz.ntmps165;go_wp2;go_ret;exact⟨by rw[HW.out];rfl,rfl⟩
def Dt:List Value:=kK.map fun s=>.string ⟨s.word.toArray⟩
theorem TN (n:Int) (w:World):Calls Tryz.prog 164 #[.int .i64 n] w fun e w'=>e=.returned (.string ⟨(aC n).word.toArray⟩)∧Below w.heap.size w w':=by
 by_cases h0:n<0
 ·have HW:Hid ((aC n).word=[]):=by show _=_;rw[JA n (by omega)];rfl
  go_enter Tryz.func164,Tryz.ntmps164;go_wp2;go_ret;exact⟨by rw[HW.out];rfl,(Below.refl _ _).alloc (Nat.le_refl _) _⟩
 ·obtain⟨k,rfl⟩:∃k:Nat,n=k:=⟨n.toNat,by omega⟩
  clear h0;by_cases h1:25≤k
  ·have HW:Hid ((aC (k:Int)).word=[]):=by show _=_;rw[JA _ (by omega)];rfl
   have h2:(25:Int)≤k:=by omega
   clear h1;go_enter Tryz.func164,Tryz.ntmps164;go_wp2;go_ret;exact⟨by rw[HW.out];rfl,(Below.refl _ _).alloc (Nat.le_refl _) _⟩
  ·have h2:(k:Int)<25:=by omega
   have h3:k<25:=by omega
   have hk:Dt[k]?=some (.string ⟨(aC (k:Int)).word.toArray⟩):=by
    unfold Dt;rw[List.getElem?_map,EK k h3];rfl
   have hcell:∀W:World,(W.alloc (.cells Dt.toArray 9)).cell? ⟨W.heap.size,k,none⟩=some (.string ⟨(aC (k:Int)).word.toArray⟩):=fun W=>by
    have:=(aj.new W 9 Dt.toArray).cells k;rw[this];simpa using hk
   generalize (aC (k:Int)).word=wd at*;unfold Dt at hcell;simp only[kK,Fv,List.map_cons,List.map_nil] at hcell;clear hk h1 h3;go_enter Tryz.func164,Tryz.ntmps164;go_wp2;go_ret;exact⟨rfl,(Below.refl _ _).alloc (Nat.le_refl _) _⟩
theorem KL (s:ByteArray) (w:World):
  Calls Tryz.prog 123 #[.string s] w fun e w'=>e=.returned (.bool (nameB s.data.toList))∧w=w':=by
 have HN:Hid (nameB s.data.toList=((match s.data.toList with|[]=>false|c::_=>jM c)&&decide (s.data.toList.length≤20)&&s.data.toList.all oH)):=rfl;rcases Nat.eq_zero_or_pos s.size with h0|h0
 ·have hs:s=⟨#[]⟩:=by
   obtain⟨⟨l⟩⟩:=s;have h:l.length=0:=h0;rw[List.eq_nil_of_length_eq_zero h]
  subst hs;clear h0;go_enter Tryz.func123,Tryz.ntmps123;go_wp2;go_ret;exact⟨rfl,rfl⟩
 ·have hlen:s.data.toList.length=s.size:=by simp
  have h0':((s.size:Int)<1)=False:=by rw[eq_iff_iff,iff_false];omega
  have hh:∃t,s.data.toList=s[0]::t:=by
   obtain⟨⟨l⟩⟩:=s;cases l with
   |nil=>exact absurd h0 (by show ¬0<0;omega)
   |cons c l=>exact⟨l,rfl⟩
  obtain⟨t,ht⟩:=hh;rw[hlen] at HN;by_cases h1:s.size≤20
  ·have h1':decide (20<(s.size:Int))=false:=by rw[decide_eq_false_iff_not];omega
   have hc:(jM s[0]=true∧97≤(s[0].toNat:Int)∧(s[0].toNat:Int)≤122)∨(jM s[0]=false∧(s[0].toNat:Int)<97)∨(jM s[0]=false∧97≤(s[0].toNat:Int)∧122<(s[0].toNat:Int)):=by
    unfold jM;by_cases a:97≤s[0].toNat
    ·by_cases b:s[0].toNat≤122
     ·exact .inl ⟨by simp[a,b],by omega,by omega⟩
     ·exact .inr (.inr ⟨by simp[b],by omega,by omega⟩)
    ·exact .inr (.inl ⟨by simp[a],by omega⟩)
   rcases hc with⟨hc,ha,hb⟩|⟨hc,ha⟩|⟨hc,ha,hb⟩
   ·have HR:Hid (nameB s.data.toList=s.data.toList.all oH):=by
     show _=_;rw[HN.out,ht];simp only[hc,Bool.true_and,decide_eq_true h1]
    clear HN ht hc;go_enter Tryz.func123,Tryz.ntmps123;go_wp2
    go_loopg [3] s.size (fun g iv wr=>∃k:Nat,k+g=s.size∧iv=.int .i64 k∧Hid (nameB s.data.toList=(s.data.toList.drop k).all oH)∧w=wr)
    case atStart=>exact⟨0,by omega,rfl,by show _=_;rw[HR.out];rfl,rfl⟩
    case round=>
     obtain⟨k,hk,rfl,hR,rfl⟩:=hrel;clear ha hb;by_cases hlt:k<s.size
     ·have hd:Hid (s.data.toList.drop k=s[k]::s.data.toList.drop (k+1)):=by
       show _=_;rw[List.drop_eq_getElem_cons (by rw[hlen];exact hlt)];rfl
      have hR2:Hid (nameB s.data.toList=(oH s[k]&&(s.data.toList.drop (k+1)).all oH)):=by
       show _=_;rw[hR.out,hd.out,List.all_cons]
      clear hd hR;by_cases hn:oH s[k]=true
      ·have WC:Hid (nameB s.data.toList=(s.data.toList.drop (k+1)).all oH):=by show _=_;rw[hR2.out,hn,Bool.true_and]
       have hc3:(97≤(s[k].toNat:Int)∧(s[k].toNat:Int)≤122)∨((s[k].toNat:Int)<97∧48≤(s[k].toNat:Int)∧(s[k].toNat:Int)≤57)∨((s[k].toNat:Int)<97∧48≤(s[k].toNat:Int)∧57<(s[k].toNat:Int)∧(((s[k].toNat:Nat):Int) !=95)=false):=by
        simp only[oH,jM,NP,Bool.or_eq_true,Bool.and_eq_true,decide_eq_true_eq] at hn;rcases hn with (h|h)|h
        ·exact .inl (by omega)
        ·exact .inr (.inl (by omega))
        ·exact .inr (.inr ⟨by omega,by omega,by omega,by rw[h];rfl⟩)
       clear hR2 hn;rcases hc3 with⟨g1,g2⟩|⟨g1,g2,g3⟩|⟨g1,g2,g3,g4⟩
       all_goals
        go_wp2
        go_roundg (s.size-(k+1))
        case measure=>omega
        case rel=>exact⟨k+1,by omega,by go_num,WC,rfl⟩
      ·have hn':oH s[k]=false:=by simpa using hn
       have WC:Hid (nameB s.data.toList=false):=by show _=_;rw[hR2.out,hn',Bool.false_and]
       have hc3:((s[k].toNat:Int)<97∧(s[k].toNat:Int)<48∧(((s[k].toNat:Nat):Int) !=95)=true)∨((s[k].toNat:Int)<97∧48≤(s[k].toNat:Int)∧57<(s[k].toNat:Int)∧(((s[k].toNat:Nat):Int) !=95)=true)∨(97≤(s[k].toNat:Int)∧122<(s[k].toNat:Int)∧48≤(s[k].toNat:Int)∧57<(s[k].toNat:Int)∧(((s[k].toNat:Nat):Int) !=95)=true):=by
        simp only[oH,jM,NP,Bool.or_eq_true,Bool.and_eq_true,decide_eq_true_eq] at hn;simp only[bne_iff_ne,ne_eq]
        omega
       clear hR2 hn hn';rcases hc3 with⟨g1,g2,g3⟩|⟨g1,g2,g3,g4⟩|⟨g1,g2,g3,g4,g5⟩
       all_goals
        go_wp2;go_ret;exact⟨by rw[WC.out];rfl,rfl⟩
     ·have hg0:gk=0:=by omega
      have WC:Hid (nameB s.data.toList=true):=by show _=_;rw[hR.out,List.drop_eq_nil_of_le (by omega)];rfl
      clear hR;go_wp2;go_ret;exact⟨by rw[WC.out];rfl,rfl⟩
   all_goals
    have HR:Hid (nameB s.data.toList=false):=by
     show _=_;rw[HN.out,ht];simp[hc]
    clear HN hlen ht hc;go_enter Tryz.func123,Tryz.ntmps123;go_wp2;go_ret;exact⟨by rw[HR.out];rfl,rfl⟩
  ·have HR:Hid (nameB s.data.toList=false):=by
    show _=_;rw[HN.out];simp[h1]
   have h1':decide (20<(s.size:Int))=true:=by rw[decide_eq_true_eq];omega
   clear HN hlen ht;go_enter Tryz.func123,Tryz.ntmps123;go_wp2;go_ret;exact⟨by rw[HR.out];rfl,rfl⟩
end Go.Proofs.YtgfeadgafdijaaaGreatDoor
