/- Part: Ea S4 S5 S6 S7 Gc Gd Ge Eb K2 K3 K9 Ja Jb Jc Jd K4 K5 K6 Ec. -/
import Derived.Test.YtjpbmbgincdjaaaGreatDoorK23
set_option linter.all false
set_option maxRecDepth 100000
set_option maxHeartbeats 0
namespace Go.Proofs.YtjpbmbgincdjaaaGreatDoor
open Go.RowKit List World Tryz
theorem Sl (b:Nat) (w:World) (h0:w.cell? ⟨b,0,none⟩=some (.pointer (some ⟨b,0,none⟩))):
  Calls prog 205 #[.pointer (some ⟨b,0,none⟩)] w fun e w'=>e=.returned (.tuple #[])/\w'=w:=by
 obtain⟨j,hj,_⟩:=Option.map_eq_some_iff.1 (show (prog.info? 93).map (·.size)=some 2 by kernel_rfl);go_enter func205,ntmps205;go_wp2;rw[Lib.run_neq_ptr_same w _ underlying91 hj];go_wp2;go_end0;exact⟨rfl,rfl⟩
theorem aaO (b:Nat) (w:World) (h0:w.cell? ⟨b,0,none⟩=some (.pointer none)) (hsh:w.shape? b=some (93,2)) (hfz:w.frozen? ⟨b,0,none⟩=false):
  Calls prog 205 #[.pointer (some ⟨b,0,none⟩)] w fun e w'=>e=.returned (.tuple #[])/\w'=w.setCell ⟨b,0,none⟩ (.pointer (some ⟨b,0,none⟩)):=by
 obtain⟨j,hj,hjs⟩:=Option.map_eq_some_iff.1 (show (prog.info? 93).map (·.size)=some 2 by kernel_rfl);go_enter func205,ntmps205;go_wp2;rw[Lib.run_to_unsafe w ⟨b,0,none⟩ underlying91 underlying289 hj (by rw[hjs];decide) hsh (Nat.zero_lt_succ 1)];simp only[Result.andThen]
 rw[Oper.upon_value];go_wp2;rw[run_callFunc_extern func254 (by kernel_rfl) (by kernel_rfl) (by kernel_rfl) (e:=Extern.AbiNoEscape.same) (by kernel_rfl)];rw[Lib.run_noEscape];simp only[Result.andThen]
 rw[Oper.upon_value];go_wp2;rw[Lib.run_from_unsafe w ⟨b,0,none⟩ underlying289 underlying91 hj hsh (by kernel_rfl)];simp only[Result.andThen]
 rw[Oper.upon_value];go_wp2;go_end0;exact⟨rfl,rfl⟩
def uo:List PanicEntry:=[{v:=.iface 242 (.agg #[]),recovered:=false}]
theorem aaP (s p:ByteArray) (R:Nat) (t:TypeId) (l:List Value) (w:World) (hR:aj w R t (.string s::l)) (h:Lib.hasPrefix s.data.toList p.data.toList=true):
  Calls prog 250 #[.pointer (some ⟨R,0,none⟩),.string p] w fun e w'=>e=.returned (.tuple #[])/\w'=w.setCell ⟨R,0,none⟩ (.string ⟨(Lib.trimPrefix s.data.toList p.data.toList).toArray⟩):=by
 have hc:=hR.cells;have hf:=hR.bH;clear hR;go_enter func250,ntmps250;go_wp2_with fail;refine (Tryz.strings_CutPrefix s p _).mono ?_;rintro e w' ⟨rfl,rfl⟩;go_wp2;go_end0;exact⟨rfl,rfl⟩
theorem ad8 (s p:ByteArray) (R:Nat) (t:TypeId) (l:List Value) (w:World) (hR:aj w R t (.string s::l)) (h:Lib.hasPrefix s.data.toList p.data.toList=false):
  Calls prog 250 #[.pointer (some ⟨R,0,none⟩),.string p] w fun e w'=>e=.panicked uo/\w'=w:=by
 have hc:=hR.cells;have hf:=hR.bH;clear hR;go_enter func250,ntmps250;go_wp2_with fail;refine (Tryz.strings_CutPrefix s p _).mono ?_;rintro e w' ⟨rfl,rfl⟩;go_wp2;exact⟨rfl,rfl,rfl⟩
structure Sg where
 op:Int
 name:ByteArray
 ty:Ty
deriving DecidableEq
def Sg.cells (s:Sg):List Value:=[.int .i64 s.op,.string s.name,.bool s.ty.truth,.int .i64 s.ty.aA,.int .i64 s.ty.days]
def D7 (l:List Sg):List Value:=l.flatMap Sg.cells
def jD (n:Nd) (s:Sg):Bool:=decide (s.op=n.op)&&(decide (s.name=n.name)&&(aN s.ty&&(decide (s.op≠24)|| !s.ty.truth)))
def dZ (l:List Sg) (n:Nd):Option Ty:=(l.find? (jD n)).map Sg.ty
theorem Rd.row {α:Type} (enc:α->List Value) (m:Nat) (hm:∀a,(enc a).length=m) (h0:0<m) {w:World} {A:Option Addr} {l:List α} (h:Rd w A (l.flatMap enc)) {j:Nat} (hj:j<l.length):
  ∃b off,A=some ⟨b,off,none⟩/\b<w.heap.size/\∀i v,(enc l[j])[i]?=some v->w.cell? ⟨b,off+j*m+i,none⟩=some v:=by
 have hlen:(l.flatMap enc).length=l.length*m:=by
  clear h hj
  induction l with
  |nil=>simp
  |cons a l ih=>rw[flatMap_cons,length_append,hm,ih,length_cons,Nat.succ_mul];omega
 have hpos:(l.flatMap enc).length≠0:=by rw[hlen];exact Nat.ne_of_gt (Nat.mul_pos (by omega) h0)
 rcases h with h|⟨b,off,hA,hb,hc⟩
 ·rw[h] at hpos;exact absurd rfl hpos
 ·refine⟨b,off,hA,hb,fun i v hv=>?_⟩;have hi:i<m:=by rw[<-hm l[j]];exact (List.getElem?_eq_some_iff.1 hv).1
  have h1:=sS enc m hm l j i hi;rw[getElem?_eq_getElem hj] at h1;have h2:(l.flatMap enc)[j*m+i]?=some v:=h1.trans hv;obtain⟨h3,h4⟩:=List.getElem?_eq_some_iff.1 h2;have:=hc (j*m+i) h3;rw[h4] at this;rw[Nat.add_assoc];exact this
theorem aaQ {l:List Sg} {n:Nd} (h:∀i (hi:i<l.length),jD n l[i]=false):dZ l n=none:=by
 unfold dZ;rw[find?_eq_none.2]
 ·rfl
 ·intro s hs;obtain⟨i,hi,rfl⟩:=getElem_of_mem hs;rw[h i hi];simp
theorem aaR {l:List Sg} {n:Nd} {j:Nat} (hj:j<l.length) (h:∀i (hi:i<j),jD n (l[i]'(by omega))=false) (hf:jD n l[j]=true):dZ l n=some l[j].ty:=by
 unfold dZ
 have:l.find? (jD n)=some l[j]:=by
  rw[find?_eq_some_iff_getElem];exact⟨hf,j,hj,rfl,fun i hi=>by rw[h i hi];rfl⟩
 rw[this];rfl
def y9 (z:Int):List PanicEntry:=[{v:=.iface 33 (.int .i64 z),recovered:=false}]
def Sm (q:Option Ty) (e:Ending):Prop:=match q with
 |some t=>e=.returned t.v
 |none=>e=.panicked (y9 12)
theorem aaS (l:List Sg) (A:Option Addr) (k c:Nat) (n:Nd) (w:World) (hL:bT w) (hk:k=l.length) (hm:k<=maxLen) (hr:Rd w A (D7 l)):
  Calls prog 183 #[.slice A k c,.agg #[.int .i64 n.op,.bool n.num.neg,.string n.num.num,.string n.num.den,.string n.name]] w fun e w'=>Sm (dZ l n) e/\Below w.heap.size w w':=by
 have HNO:=zH (fun h=>aaQ (l:=l) (n:=n) h);have HAT:=zH (fun j hj h hf=>aaR (l:=l) (n:=n) (j:=j) hj h hf);obtain⟨q,hq⟩:=zF (dZ l n);rw[hq] at HNO HAT⊢;obtain⟨nop,⟨EI,EJ,EK⟩,Bv⟩:=n;have Vo:Hid (∀s:Sg,jD ⟨nop,⟨EI,EJ,EK⟩,Bv⟩ s=(decide (s.op=nop)&&(decide (s.name=Bv)&&(aN s.ty&&(decide (s.op≠24)|| !s.ty.truth))))):=fun s=>rfl
 generalize jD ⟨nop,⟨EI,EJ,EK⟩,Bv⟩=fit at*;simp only
 obtain⟨W,hW⟩:=zE ((w.alloc (.cells #[.int .i64 nop,.bool EI,.string EJ,.string EK,.string Bv] 104)).alloc (.cells #[.bool false,.int .i64 0,.int .i64 0] 51));obtain⟨B,hB⟩:=zE w.heap.size;have kW:Hid (aj W B 104 [.int .i64 nop,.bool EI,.string EJ,.string EK,.string Bv]):=by show aj _ _ _ _;rw[hW,hB];exact (aj.new w _ _).alloc _
 have jl:Hid (aj W (B+1) 51 [.bool false,.int .i64 0,.int .i64 0]):=by
  show aj _ _ _ _;have h:=aj.new (w.alloc (.cells #[.int .i64 nop,.bool EI,.string EJ,.string EK,.string Bv] 104)) 51 #[.bool false,.int .i64 0,.int .i64 0];rw[size_alloc] at h;rw[hW,hB];exact h
 have iY:Hid (Below w.heap.size w W):=by show Below _ _ _;rw[hW];exact (zB _ _).alloc (by rw[size_alloc];omega) _
 have kR:=zH hB;have HL:Hid (∀W,Below w.heap.size w W->bT W):=fun W hb=>hL.below hb
 have HR:=zH hr;have GU:=zH hk;have hm2:k<=9223372036854775807:=by unfold maxLen at hm;omega
 clear hq hr hL hk hm;go_enter func183,ntmps183
 go_upto_region 1 with fail
 simp only[<-hW,<-hB]
 clear hW hB;go_wp2
 go_loopg [9] k (fun g iv wr=>∃j:Nat,j+g=k/\iv=.int .i64 j/\Hid (∀i (hi:i<l.length),i<j->fit l[i]=false)/\Hid (Below W.heap.size W wr))
 case atStart=>exact⟨0,by omega,rfl,(fun i hi h=>absurd h (by omega)),Below.refl _ _⟩
 case round=>
  obtain⟨j,hj,rfl,hall,hbr⟩:=hrel;by_cases hlt:j<k
  ·have hjl:j<l.length:=by rw[<-GU.out];exact hlt
   obtain⟨b,off,hA,hb,hc⟩:=Rd.row Sg.cells 5 (fun _=>rfl) (by omega) HR.out hjl;subst hA;have HAJ:=zH (HAT.out j hjl);have hfs:=Vo.out l[j]
   have yV:Hid (fit l[j]=false->∀i (hi:i<l.length),i<j+1->fit l[i]=false):=fun h i hi hij=>by
    by_cases hij2:i<j
    ·exact hall.out i hi hij2
    ·obtain rfl:i=j:=by omega
     exact h
   have LD:Hid (∀i (hi:i<j),fit (l[i]'(by omega))=false):=fun i hi=>hall.out i (by omega) hi
   generalize fit l[j]=ff at*;generalize l[j]=s at*;obtain⟨GV,Sr,⟨st,sm,sd⟩⟩:=s;simp only at hfs;have IU:=ah iY.out hbr.out;have d0:=(IU.cell hb).trans (hc 0 _ rfl);have d1:=(IU.cell hb).trans (hc 1 _ rfl);have d2:=(IU.cell hb).trans (hc 2 _ rfl);have d3:=(IU.cell hb).trans (hc 3 _ rfl);have d4:=(IU.cell hb).trans (hc 4 _ rfl);simp only[Nat.add_zero] at d0;have Sv:=zH hfs;clear hc hfs IU hall HAT
   go_upto_region 4 with fail
   obtain⟨W5,SA⟩:=zE (wr.alloc (.cells #[.int .i64 GV,.string Sr,.bool st,.int .i64 sm,.int .i64 sd] 67));obtain⟨N,hN⟩:=zE wr.heap.size;have SB:Hid (aj W5 B 104 [.int .i64 nop,.bool EI,.string EJ,.string EK,.string Bv]):=by show aj _ _ _ _;rw[SA];exact (kW.out.below hbr.out kW.out.lt).alloc _
   have Yf:Hid (aj W5 (B+1) 51 [.bool false,.int .i64 0,.int .i64 0]):=by show aj _ _ _ _;rw[SA];exact (jl.out.below hbr.out jl.out.lt).alloc _
   have HC2:Hid (aj W5 N 67 [.int .i64 GV,.string Sr,.bool st,.int .i64 sm,.int .i64 sd]):=by show aj _ _ _ _;rw[SA,hN];exact aj.new wr _ _
   have kU:Hid (Below W.heap.size W W5):=by show Below _ _ _;rw[SA];exact ah hbr.out (zB _ _)
   simp only[<-SA,<-hN]
   clear SA hN hbr d0 d1 d2 d3 d4
   go_cut [9,40] from 9 to 43 (fun jv qv wc=>jv=.int .i64 (j:Int)/\qv=.bool ff/\aj wc B 104 [.int .i64 nop,.bool EI,.string EJ,.string EK,.string Bv]/\aj wc (B+1) 51 [.bool false,.int .i64 0,.int .i64 0]/\aj wc N 67 [.int .i64 GV,.string Sr,.bool st,.int .i64 sm,.int .i64 sd]/\Below W.heap.size W wc)
   case first=>
    clear HAJ yV LD HNO;have hc0:=SB.out.cells;have hc2:=HC2.out.cells;by_cases h1:GV=nop
    ·subst h1;by_cases h2:Sr=Bv
     ·subst h2;have rQ:=zH (fun W h=>U6 ⟨st,sm,sd⟩ W h);obtain⟨rb,hrb⟩:=zF (aN ⟨st,sm,sd⟩);rw[hrb] at rQ;have J3:ff=(rb&&(decide (GV≠24)|| !st)):=by rw[Sv.out,hrb,decide_eq_true rfl,decide_eq_true rfl];rfl
      clear Sv hrb Vo;unfold Ty.v at rQ;go_wp2_with fail;refine (rQ.out _ (HL.out _ (ah iY.out kU.out))).mono ?_;rintro e w6 ⟨rfl,hb6⟩;have hm0:=SB.out.below hb6 SB.out.lt;have hm1:=Yf.out.below hb6 Yf.out.lt;have EL:=HC2.out.below hb6 HC2.out.lt;replace kU:=zH (ah kU.out hb6);have hc0:=hm0.cells;have hc2:=EL.cells;have Bz:=zH hm0;have wu:=zH hm1;have HM2:=zH EL;clear hb6 hm0 hm1 EL SB Yf HC2 rQ;cases rb
      ·obtain rfl:ff=false:=by rw[J3];rfl
       clear J3;go_wp2
       go_meet
       case rel=>exact⟨rfl,rfl,Bz.out,wu.out,HM2.out,kU.out⟩
      ·by_cases h3:GV=24
       ·subst h3;cases st
        ·obtain rfl:ff=true:=by rw[J3];rfl
         clear J3;go_wp2
         go_meet
         case rel=>exact⟨rfl,rfl,Bz.out,wu.out,HM2.out,kU.out⟩
        ·obtain rfl:ff=false:=by rw[J3];rfl
         clear J3;go_wp2
         go_meet
         case rel=>exact⟨rfl,rfl,Bz.out,wu.out,HM2.out,kU.out⟩
       ·obtain rfl:ff=true:=by rw[J3,decide_eq_true h3];rfl
        have h3b:(GV !=24)=true:=by simp[h3]
        have h3c:(GV==24)=false:=by simp[h3]
        clear J3;go_wp2
        go_meet
        case rel=>exact⟨rfl,rfl,Bz.out,wu.out,HM2.out,kU.out⟩
     ·obtain rfl:ff=false:=by rw[Sv.out,decide_eq_false h2,Bool.false_and,Bool.and_false]
      have h2b:¬(Sr.toList=Bv.toList):=fun h=>h2 (by rw[ByteArray.toList_eq,ByteArray.toList_eq] at h;exact ByteArray.ext (Array.toList_inj.1 h))
      have h2c:(Sr.toList==Bv.toList)=false:=beq_eq_false_iff_ne.2 h2b;clear Sv Vo;go_wp2
      go_meet
      case rel=>exact⟨rfl,rfl,SB.out,Yf.out,HC2.out,kU.out⟩
    ·obtain rfl:ff=false:=by rw[Sv.out,decide_eq_false h1,Bool.false_and]
     have h1b:(GV==nop)=false:=beq_eq_false_iff_ne.2 h1;clear Sv Vo;go_wp2
     go_meet
     case rel=>exact⟨rfl,rfl,SB.out,Yf.out,HC2.out,kU.out⟩
   case rest=>
    obtain⟨rfl,rfl,hm0,hm1,EL,hbc⟩:=hcut;cases ff
    ·have HAN:=zH (yV.out rfl);have NW:=zH hbc;clear hm0 hm1 EL hbc yV LD HAJ;go_wp2
     go_roundg (k-(j+1))
     case measure=>omega
     case rel=>exact⟨j+1,by omega,by go_num,HAN,NW⟩
    ·have HQ:=zH (HAJ.out LD.out rfl)
     have lV:Hid (∀i0 i1 i2 v0 v1 v2,Below w.heap.size w (((wc.setCell ⟨B+1,i0,none⟩ v0).setCell ⟨B+1,i1,none⟩ v1).setCell ⟨B+1,i2,none⟩ v2)):=fun i0 i1 i2 v0 v1 v2=>by
      have h:=ah iY.out hbc;have hle:w.heap.size<=B+1:=by have:=kR.out;omega
      exact ((h.setCell (p:=⟨B+1,i0,none⟩) hle v0).setCell (p:=⟨B+1,i1,none⟩) hle v1).setCell (p:=⟨B+1,i2,none⟩) hle v2
     have hc1:=hm1.cells;have hf1:=hm1.bH;have hc2:=EL.cells;have wu:=zH hm1;clear yV LD HAJ hm0 EL hbc hm1;go_wp2;refine bodyPost_ret (v:=.agg #[.bool st,.int .i64 sm,.int .i64 sd]) (by simp[results,results183,go_sem,hc1]) rfl ?_;rw[HQ.out];exact⟨rfl,lV.out _ _ _ _ _ _⟩
  ·obtain rfl:j=k:=by omega
   have HQ:=zH (HNO.out (fun i hi=>hall.out i hi (by rw[GU.out];exact hi)));have lV:Hid (Below w.heap.size w wr):=ah iY.out hbr.out;clear hall hbr;go_wp2;rw[HQ.out];exact⟨rfl,rfl,lV.out⟩
def tys (l:List Ty):List Value:=l.flatMap Ty.cells
def iK (k:Int):Bool:=decide (5<=k/\k<=8)||decide (k=24)
def tA (l:List Ty):Ty:=l.getD 0 aJ
def tB (l:List Ty):Ty:=l.getD 1 aJ
def tC (l:List Ty):Ty:=l.getD 2 aJ
def eF (k:Int) (own:Ty) (l:List Ty):Ty × Bool:=
 if k=1 then (aV,true) else if k=2 then (jy,true) else if k=3 then (aJ,true) else if k=4 then (aB,true)
 else if k<=8 then (own,true)
 else if k=11 then (⟨false,(tA l).aA+(tB l).aA,(tA l).days+(tB l).days⟩, !(tA l).truth&&(!(tB l).truth&&dU ((tA l).aA+(tB l).aA) ((tA l).days+(tB l).days)))
 else if k=12 then (⟨false,(tA l).aA-(tB l).aA,(tA l).days-(tB l).days⟩, !(tA l).truth&&(!(tB l).truth&&dU ((tA l).aA-(tB l).aA) ((tA l).days-(tB l).days)))
 else if k<=14 then (tA l,decide (tA l=tB l)&& !(tA l).truth)
 else if k=15 then (tB l,decide (tA l=aB)&&decide (tB l=tC l))
 else if k=16 then (aB,decide (tA l=tB l)&& !(tA l).truth)
 else if k=17 then (aB,decide (tA l=tB l))
 else if k<=20 then (aB,l.all fun t=>decide (t=aB))
 else if k<=23 then (tA l, !(tA l).truth)
 else (own,decide (tA l=own))
theorem o8 {t:Ty} (h:aN t=true):-3<=t.aA/\t.aA<=3/\-3<=t.days/\t.days<=3:=by
 unfold aN at h;split at h
 ·have:=of_decide_eq_true h;rw[this];unfold aB;exact⟨by decide,by decide,by decide,by decide⟩
 ·unfold dU at h;rw[Bool.and_eq_true,decide_eq_true_eq,decide_eq_true_eq] at h;omega
theorem Rd.ty {w:World} {A:Option Addr} {l:List Ty} (h:Rd w A (tys l)) {j:Nat} (hj:j<l.length):
  ∃b off,A=some ⟨b,off,none⟩/\b<w.heap.size/\w.cell? ⟨b,off+j*3,none⟩=some (.bool l[j].truth)/\w.cell? ⟨b,off+j*3+1,none⟩=some (.int .i64 l[j].aA)/\w.cell? ⟨b,off+j*3+2,none⟩=some (.int .i64 l[j].days):=by
 obtain⟨b,off,hA,hb,hc⟩:=Rd.row Ty.cells 3 (fun _=>rfl) (by omega) h hj;exact⟨b,off,hA,hb,hc 0 _ rfl,hc 1 _ rfl,hc 2 _ rfl⟩
theorem rZ (fn:Fn) (a c:Array Value) (w:World):(Instr.makeFunc fn a c).run prog w=.ok (.func fn a c) w:=rfl
theorem su (p:Addr) (fn:Fn) (a c:Array Value) (m:Mode) (w:World):(store p (.func fn a c) m).run prog w=stored prog w p (.func fn a c) m:=run_store _ w p _ m rfl
theorem Qy (t:Ty) (w:World):Calls prog 231 #[t.v] w fun e w'=>e=.returned t.v/\Below w.heap.size w w':=by
 obtain⟨tr,m,d⟩:=t;unfold Ty.v;simp only
 have HB:=zH (((Below.refl w.heap.size w).alloc (Nat.le_refl _) (.cells #[.bool tr,.int .i64 m,.int .i64 d] 51)).alloc (by rw[size_alloc];omega) (.cells #[.bool tr,.int .i64 m,.int .i64 d] 51));go_enter func231,ntmps231;go_wp2;refine bodyPost_ret (v:=.agg #[.bool tr,.int .i64 m,.int .i64 d]) (by simp[results,results231,go_sem]) rfl ?_;exact⟨rfl,HB.out⟩
theorem Ll (t:Ty) (w:World) (hL:bT w):Calls prog 234 #[t.v] w fun e w'=>e=.returned aB.v/\Below w.heap.size w w':=by
 obtain⟨tr,m,d⟩:=t;have hl:=(hL.alloc (.cells #[.bool tr,.int .i64 m,.int .i64 d] 51)).alloc (.cells #[.bool false,.int .i64 0,.int .i64 0] 51);have g0:=hl.truth 0 _ rfl;have g1:=hl.truth 1 _ rfl;have g2:=hl.truth 2 _ rfl;unfold aB at g0 g1 g2⊢;unfold Ty.v;simp only at g0 g1 g2⊢;clear hl hL;have HB:=zH (((Below.refl w.heap.size w).alloc (Nat.le_refl _) (.cells #[.bool tr,.int .i64 m,.int .i64 d] 51)).alloc (by rw[size_alloc];omega) (.cells #[.bool true,.int .i64 0,.int .i64 0] 51));go_enter func234,ntmps234;go_wp2;refine bodyPost_ret (v:=.agg #[.bool true,.int .i64 0,.int .i64 0]) (by simp[results,results234,go_sem]) rfl ?_;exact⟨rfl,HB.out⟩
theorem sU (t:Ty) (w:World):Calls prog 228 #[t.v] w fun e w'=>∃b,e=.returned (.agg #[.bool false,.func (.func 277) #[] #[.pointer (some ⟨b,0,none⟩)]])/\aj w' b 51 t.cells/\w.heap.size<=b/\Below w.heap.size w w':=by
 obtain⟨tr,m,d⟩:=t;unfold Ty.v Ty.cells;simp only
 have HB:=fun v=>zH (((Below.refl w.heap.size w).alloc (Nat.le_refl _) (.cells #[.bool tr,.int .i64 m,.int .i64 d] 51)).alloc (by rw[size_alloc];omega) (.cells #[.bool false,v] 237))
 have HK:=fun o=>zH ((aj.new w 51 #[.bool tr,.int .i64 m,.int .i64 d]).alloc o)
 have hmf:=rZ;have hsf:=su;go_enter func228,ntmps228;go_wp2;refine bodyPost_ret (v:=.agg #[.bool false,.func (.func 277) #[] #[.pointer (some ⟨w.heap.size,0,none⟩)]]) (by simp[results,results228,go_sem]) rfl ?_;exact⟨_,rfl,(HK _).out,Nat.le_refl _,(HB _).out⟩
theorem qY (t own:Ty) (x:Value) (b:Nat) (w:World) (h:aj w b 51 t.cells):Calls prog 277 #[own.v,x,.pointer (some ⟨b,0,none⟩)] w fun e w'=>e=.returned (.tuple #[t.v,.bool true])/\Below w.heap.size w w':=by
 obtain⟨tr,m,d⟩:=t;obtain⟨tr',m',d'⟩:=own;unfold Ty.v;unfold Ty.cells at h;simp only at h⊢;have hc:=((h.alloc (.cells #[.bool tr',.int .i64 m',.int .i64 d'] 51)).alloc (.cells #[.bool false,.int .i64 0,.int .i64 0] 51)).cells;have HB:=zH (((Below.refl w.heap.size w).alloc (Nat.le_refl _) (.cells #[.bool tr',.int .i64 m',.int .i64 d'] 51)).alloc (by rw[size_alloc];omega) (.cells #[.bool tr,.int .i64 m,.int .i64 d] 51));clear h;go_enter func277,ntmps277;go_wp2;refine bodyPost_ret (v:=.tuple #[.agg #[.bool tr,.int .i64 m,.int .i64 d],.bool true]) (by simp[results,results277,go_sem]) rfl ?_;exact⟨rfl,HB.out⟩
theorem vg (w:World):Calls prog 229 #[] w fun e w'=>e=.returned (.agg #[.bool true,.func (.func 278) #[] #[]])/\Below w.heap.size w w':=by
 have HB:=fun v=>zH ((Below.refl w.heap.size w).alloc (Nat.le_refl _) (.cells #[.bool true,v] 237))
 have hmf:=rZ;have hsf:=su;go_enter func229,ntmps229;go_wp2;refine bodyPost_ret (v:=.agg #[.bool true,.func (.func 278) #[] #[]]) (by simp[results,results229,go_sem]) rfl ?_;exact⟨rfl,(HB _).out⟩
theorem Qz (own:Ty) (x:Value) (w:World):Calls prog 278 #[own.v,x] w fun e w'=>e=.returned (.tuple #[own.v,.bool true])/\Below w.heap.size w w':=by
 obtain⟨tr,m,d⟩:=own;unfold Ty.v;simp only
 have HB:=zH (((Below.refl w.heap.size w).alloc (Nat.le_refl _) (.cells #[.bool tr,.int .i64 m,.int .i64 d] 51)).alloc (by rw[size_alloc];omega) (.cells #[.bool tr,.int .i64 m,.int .i64 d] 51));go_enter func278,ntmps278;go_wp2;refine bodyPost_ret (v:=.tuple #[.agg #[.bool tr,.int .i64 m,.int .i64 d],.bool true]) (by simp[results,results278,go_sem]) rfl ?_;exact⟨rfl,HB.out⟩
theorem qZ (f:Nat) (w:World):Calls prog 230 #[.func (.func f) #[] #[]] w fun e w'=>∃b,e=.returned (.agg #[.bool false,.func (.func 279) #[] #[.pointer (some ⟨b,0,none⟩)]])/\aj w' b 272 [.func (.func f) #[] #[]]/\w.heap.size<=b/\Below w.heap.size w w':=by
 have HB:=fun v=>zH (((Below.refl w.heap.size w).alloc (Nat.le_refl _) (.cells #[.func (.func f) #[] #[]] 272)).alloc (by rw[size_alloc];omega) (.cells #[.bool false,v] 237))
 have HK:=fun o=>zH ((aj.new w 272 #[.func (.func f) #[] #[]]).alloc o)
 have hmf:=rZ;have hsf:=su;go_enter func230,ntmps230;go_wp2;refine bodyPost_ret (v:=.agg #[.bool false,.func (.func 279) #[] #[.pointer (some ⟨w.heap.size,0,none⟩)]]) (by simp[results,results230,go_sem]) rfl ?_;exact⟨_,rfl,(HK _).out,Nat.le_refl _,(HB _).out⟩
theorem BA (s:Int) (w:World):Calls prog 232 #[.int .i64 s] w fun e w'=>∃b,e=.returned (.agg #[.bool false,.func (.func 280) #[] #[.pointer (some ⟨b,0,none⟩)]])/\aj w' b 3 [.int .i64 s]/\w.heap.size<=b/\Below w.heap.size w w':=by
 have HB:=fun v=>zH (((Below.refl w.heap.size w).alloc (Nat.le_refl _) (.cells #[.int .i64 s] 3)).alloc (by rw[size_alloc];omega) (.cells #[.bool false,v] 237))
 have HK:=fun o=>zH ((aj.new w 3 #[.int .i64 s]).alloc o)
 have hmf:=rZ;have hsf:=su;go_enter func232,ntmps232;go_wp2;refine bodyPost_ret (v:=.agg #[.bool false,.func (.func 280) #[] #[.pointer (some ⟨w.heap.size,0,none⟩)]]) (by simp[results,results232,go_sem]) rfl ?_;exact⟨_,rfl,(HK _).out,Nat.le_refl _,(HB _).out⟩
theorem xP (w:World):Calls prog 236 #[] w fun e w'=>e=.returned (.agg #[.bool false,.func (.func 281) #[] #[]])/\Below w.heap.size w w':=by
 have HB:=fun v=>zH ((Below.refl w.heap.size w).alloc (Nat.le_refl _) (.cells #[.bool false,v] 237))
 have hmf:=rZ;have hsf:=su;go_enter func236,ntmps236;go_wp2;refine bodyPost_ret (v:=.agg #[.bool false,.func (.func 281) #[] #[]]) (by simp[results,results236,go_sem]) rfl ?_;exact⟨rfl,(HB _).out⟩
theorem wB (w:World):Calls prog 237 #[] w fun e w'=>e=.returned (.agg #[.bool false,.func (.func 282) #[] #[]])/\Below w.heap.size w w':=by
 have HB:=fun v=>zH ((Below.refl w.heap.size w).alloc (Nat.le_refl _) (.cells #[.bool false,v] 237))
 have hmf:=rZ;have hsf:=su;go_enter func237,ntmps237;go_wp2;refine bodyPost_ret (v:=.agg #[.bool false,.func (.func 282) #[] #[]]) (by simp[results,results237,go_sem]) rfl ?_;exact⟨rfl,(HB _).out⟩
def nX (sg:List Sg) (n:Nd):Option Ty:=if iK n.op then dZ sg n else some aJ
def rowT (ts:List Ty) (row:List Nat):List Ty:=row.map fun k=>ts.getD k aJ
def mX (sg:List Sg):List Nd->List (List Nat)->List Ty->List Ty × Int
 |n::r,a::ar,ts=>match nX sg n with
  |none=>([],12)
  |some own=>if (eF n.op own (rowT ts a)).2 then mX sg r ar (ts++[(eF n.op own (rowT ts a)).1]) else ([],13)
 |_,_,ts=>(ts,0)
def dQ (sg:List Sg) (e:List Nd):List Ty × Int:=if aX e=0 then mX sg e (iZ e) [] else ([],aX e)
def gU (sg:List Sg) (e:List Nd):Ty × Int:=let r:=dQ sg e;if r.2=0 then (r.1.getD (r.1.length-1) aJ,0) else (aJ,r.2)
theorem SG:∀(e:List Nd) (k:Nat) (st:List Nat),chk e st.length=0->(∀x∈st,x<k)->∀j (hj:j<e.length),∃row,(ig e k st)[j]?=some row/\row.length=(aG e[j].op).ops/\(∀x∈row,x<k+j)/\aQ e[j]=0
 |[],_,_,_,_,j,hj=>by simp at hj
 |n::r,k,st,h,hst,j,hj=>by
  obtain⟨h1,h2,h3⟩:=y8 h;cases j with
  |zero=>exact⟨_,rfl,by rw[length_reverse,length_take];exact Nat.min_eq_left h2,fun x hx=>hst x (mem_of_mem_take (mem_reverse.1 hx)),h1⟩
  |succ j=>
   have ih:=SG r (k+1) (k::st.drop (aG n.op).ops) (by rw[length_cons,length_drop];exact h3)
    (fun x hx=>by rcases mem_cons.1 hx with rfl|hx
                  ·omega
                  ·exact Nat.lt_succ_of_lt (hst x (mem_of_mem_drop hx))) j (by simpa using hj)
   obtain⟨row,e1,e2,e3,e4⟩:=ih;exact⟨row,e1,e2,fun x hx=>by have:=e3 x hx;omega,e4⟩
theorem NY {e:List Nd} (h:aX e=0) (j:Nat) (hj:j<e.length):∃row,(iZ e)[j]?=some row/\row.length=(aG e[j].op).ops/\(∀x∈row,x<j)/\aQ e[j]=0:=by
 unfold aX at h;split at h
 ·cases h
 ·obtain⟨row,h1,h2,h3,h4⟩:=SG e 0 [] h (fun x hx=>by cases hx) j hj;exact⟨row,h1,h2,fun x hx=>by have:=h3 x hx;omega,h4⟩
theorem ru {e:List Nd} (h:aX e=0):0<e.length/\e.length<=60:=by
 unfold aX at h;split at h
 ·cases h
 ·refine⟨?_,by omega⟩;cases e with
  |nil=>rw[chk] at h;simp at h
  |cons n r=>simp
theorem NZ {n:Nd} (h:aQ n=0):1<=n.op/\n.op<=24:=by
 unfold aQ at h;split at h
 ·cases h
 ·next h'=>
  exact⟨by have:¬n.op<1:=fun h1=>h' (Or.inl h1);omega,by have:¬24<n.op:=fun h1=>h' (Or.inr (Or.inl h1));omega⟩
theorem D8:aN aJ=true:=by decide
theorem rC {l:List Ty} (h:∀t∈l,aN t=true) (i:Nat):aN (l.getD i aJ)=true:=by
 rw[getD_eq_getElem?_getD];rcases Nat.lt_or_ge i l.length with hi|hi
 ·rw[getElem?_eq_getElem hi];exact h _ (getElem_mem hi)
 ·rw[getElem?_eq_none hi];exact D8
theorem QA {sg:List Sg} {n:Nd} {t:Ty} (h:dZ sg n=some t):aN t=true:=by
 unfold dZ at h;obtain⟨s,hs,rfl⟩:=Option.map_eq_some_iff.1 h;have:=find?_some hs;unfold jD at this;simp only[Bool.and_eq_true] at this;exact this.2.2.1
theorem GX {sg:List Sg} {n:Nd} {t:Ty} (h:nX sg n=some t):aN t=true:=by
 unfold nX at h;split at h
 ·exact QA h
 ·injection h with h;subst h;exact D8
theorem D9 (k:Int) (own:Ty) (l:List Ty) (ho:aN own=true) (hl:∀t∈l,aN t=true) (h:(eF k own l).2=true):aN (eF k own l).1=true:=by
 have hA:=rC hl 0;have hB:=rC hl 1;have ht:aN aB=true:=by decide
 revert h
 unfold eF;by_cases h1:k=1
 ·rw[if_pos h1];intro _;decide
 rw[if_neg h1];clear h1;by_cases h1:k=2
 ·rw[if_pos h1];intro _;decide
 rw[if_neg h1];clear h1;by_cases h1:k=3
 ·rw[if_pos h1];intro _;decide
 rw[if_neg h1];clear h1;by_cases h1:k=4
 ·rw[if_pos h1];intro _;decide
 rw[if_neg h1];clear h1;by_cases h1:k<=8
 ·rw[if_pos h1];intro _;exact ho
 rw[if_neg h1];clear h1;by_cases h1:k=11
 ·rw[if_pos h1];intro h;simp only[Bool.and_eq_true] at h;exact h.2.2
 rw[if_neg h1];clear h1;by_cases h1:k=12
 ·rw[if_pos h1];intro h;simp only[Bool.and_eq_true] at h;exact h.2.2
 rw[if_neg h1];clear h1;by_cases h1:k<=14
 ·rw[if_pos h1];intro _;exact hA
 rw[if_neg h1];clear h1;by_cases h1:k=15
 ·rw[if_pos h1];intro _;exact hB
 rw[if_neg h1];clear h1;by_cases h1:k=16
 ·rw[if_pos h1];intro _;exact ht
 rw[if_neg h1];clear h1;by_cases h1:k=17
 ·rw[if_pos h1];intro _;exact ht
 rw[if_neg h1];clear h1;by_cases h1:k<=20
 ·rw[if_pos h1];intro _;exact ht
 rw[if_neg h1];clear h1;by_cases h1:k<=23
 ·rw[if_pos h1];intro _;exact hA
 rw[if_neg h1];clear h1;intro _;exact ho
theorem J4 {sg:List Sg} {n:Nd} {r:List Nd} {a:List Nat} {ar:List (List Nat)} {ts:List Ty} {own:Ty} (h:nX sg n=some own) (h2:(eF n.op own (rowT ts a)).2=true):
  mX sg (n::r) (a::ar) ts=mX sg r ar (ts++[(eF n.op own (rowT ts a)).1]):=by
 rw[mX,h];simp only[h2,if_true]
theorem J5 {sg:List Sg} {n:Nd} {r:List Nd} {a:List Nat} {ar:List (List Nat)} {ts:List Ty} (h:nX sg n=none):mX sg (n::r) (a::ar) ts=([],12):=by rw[mX,h]
theorem N7 {sg:List Sg} {n:Nd} {r:List Nd} {a:List Nat} {ar:List (List Nat)} {ts:List Ty} {own:Ty} (h:nX sg n=some own) (h2:(eF n.op own (rowT ts a)).2=false):
  mX sg (n::r) (a::ar) ts=([],13):=by
 rw[mX,h];simp only[h2];rfl
theorem EM {sg:List Sg}:∀(r:List Nd) (ar:List (List Nat)) (ts:List Ty),ar.length=r.length->(mX sg r ar ts).2=0->(mX sg r ar ts).1.length=ts.length+r.length
 |[],[],ts,_,_=>rfl
 |n::r,a::ar,ts,hl,h=>by
  cases ho:nX sg n with
  |none=>rw[J5 ho] at h;cases h
  |some own=>
   cases h2:(eF n.op own (rowT ts a)).2 with
   |false=>rw[N7 ho h2] at h;cases h
   |true=>
    rw[J4 ho h2] at h⊢;rw[EM r ar _ (by simpa using hl) h];simp;omega
 |[],a::ar,ts,hl,_=>by simp at hl
 |n::r,[],ts,hl,_=>by simp at hl
section
set_option maxRecDepth 100000
set_option maxHeartbeats 2000000
abbrev Ty.p (t:Ty):PV:=.ag [bP t.truth,iP t.aA,iP t.days]
abbrev Sg.p (s:Sg):PV:=.ag [iP s.op,sP s.name,bP s.ty.truth,iP s.ty.aA,iP s.ty.days]
variable {Ld:bU}
theorem ad9 (n:Int):iK n=(decide (5<=n)&&decide (n<=8)||decide (n=24)):=by unfold iK;rw[Bool.decide_and]
theorem Yg (n:Int):PC prog Ld 267 [iP n] (·=bP (iK n)):=by
 refine dh func267 fun X=>?_
 have:=ad9 n;refine run ?_;refine dH [(.s 2,.s (.v (bP (iK n))))] ?_;refine run ?_;exact aF
theorem aaT (m d:Int):dU m d=(decide (-3<=m)&&decide (m<=3)&&decide (-3<=d)&&decide (d<=3)):=by
 unfold dU;rw[<-Bool.decide_and,<-Bool.decide_and,<-Bool.decide_and,<-Bool.decide_and,decide_eq_decide];omega
theorem acL (m d:Int):PC prog Ld 112 [.ag [iP m,iP d]] (·=bP (dU m d)):=by
 refine dh func112 fun X=>?_
 have:=aaT m d;refine run ?_;refine dH [(.s 2,.s (.v (bP (dU m d))))] ?_;refine run ?_;exact aF
theorem Yh (t:Ty):aN t=(decide (t=aB)|| !t.truth&&dU t.aA t.days):=by
 unfold aN;obtain⟨t,m,d⟩:=t;cases t
 ·rw[if_neg (by simp),decide_eq_false (by simp[aB])];rfl
 ·simp
theorem BD (t:Ty):PC prog Ld 111 [t.p] (·=bP (aN t)):=by
 refine dh func111 fun X=>?_
 have hu:=acL (Ld:=Ld) t.aA t.days;have:=Yh t;have he:=fun w=>qW t aB w
 simp only[Ty.v,aB] at he this;refine run ?_;refine dH [(.s 2,.s (.v (bP (aN t))))] ?_;refine run ?_;exact aF
theorem aea (a b:Int):PC prog Ld 19 [iP a,iP b] (·=Ty.p ⟨false,a,b⟩):=by
 refine dh func19 fun X=>?_
 refine run ?_;exact aF
theorem agB:PC prog Ld 51 [] (·=aB.p):=by
 refine dh func51 fun X=>?_
 refine run ?_;exact aF
instance (a b:Int):XM prog Ld 19 [iP a,iP b] (Ty.p ⟨false,a,b⟩):=⟨aea a b⟩
instance:XM prog Ld 51 [] aB.p:=⟨agB⟩
def mF (ts:List Ty):Bool:=ts.all fun t=> !t.truth
theorem aaU (ts:List Ty) (hl:ts.length<=1000):PC prog Ld 269 [.sl 3 (ts.map Ty.p)] (·=bP (mF ts)):=by
 refine dh func269 fun X=>?_
 refine run ?_;refine mO ts.length (fun k=>mF ts=mF (ts.drop k)) (fun k=>[(.s 3,.s (.v (iP k)))]) [.s 0] ?_ rfl;intro k hk hJ hw;refine run ?_;refine aZ (fun hu=>?_) fun hu=>?_
 ·rw[drop_eq_getElem_cons hu] at hJ;refine run ?_;refine bM (fun ht=>?_) fun ht=>?_
  ·refine run ?_;refine aF (hr:=?_);rw[hJ];simp only[mF,all_cons,ht];rfl
  ·refine run ?_;refine mP ?_;rw[hJ];simp only[mF,all_cons,ht];rfl
 ·refine run ?_;refine aF (hr:=?_);rw[hJ,drop_of_length_le (by omega)];rfl
def IV (op:Int) (nm:ByteArray) (s:Sg):Bool:=decide (s.op=op)&&(decide (s.name=nm)&&(iK op&&(aN s.ty&&(decide (op≠24)|| !s.ty.truth))))
def kX (l:List Sg) (op:Int) (nm:ByteArray):Option Ty:=(l.find? (IV op nm)).map Sg.ty
theorem IW (l:List Sg) (n:Nd):kX l n.op n.name=if iK n.op then dZ l n else none:=by
 unfold kX dZ;cases h:iK n.op
 ·rw[if_neg (by decide),find?_eq_none.2 (fun s _=>by unfold IV;rw[h];simp)];rfl
 ·rw[if_pos rfl];congr 2
  funext s
  unfold IV jD;rw[h];by_cases h1:s.op=n.op<;>simp[h1]
abbrev Ty.q (q:Option Ty):PV:=.tu [(q.getD aJ).p,bP q.isSome]
theorem Vp (l:List Sg) (op:Int) (nm:ByteArray) (hl:l.length<=1000):PC prog Ld 212 [.sl 5 (l.map Sg.p),iP op,sP nm] (·=Ty.q (kX l op nm)):=by
 refine dh func212 fun X=>?_
 have hN:=Yg (Ld:=Ld) op;refine run ?_;refine mO l.length (fun k=>kX l op nm=kX (l.drop k) op nm) (fun k=>[(.s 8,.s (.v (iP k)))]) [.s 0,.s 1,.s 2,.s 6,.o 6,.s 7] ?_ rfl;intro k hk hJ hw;refine run ?_;refine aZ (fun hu=>?_) fun hu=>?_
 ·rw[drop_eq_getElem_cons hu] at hJ;have hR:=BD (Ld:=Ld) l[k].ty;refine run ?_;have hf:IV op nm l[k]=(decide (l[k].op=op)&&(decide (l[k].name=nm)&&(iK op&&(aN l[k].ty&&(!decide (op=24)|| !l[k].ty.truth))))):=by rw[IV,decide_not]
  refine dH [(.s 48,.s (.v (bP (IV op nm l[k]))))] ?_;refine run ?_;refine bM (fun hu=>?_) fun hu=>?_
  ·refine run ?_;refine aF (hr:=?_);rw[hJ];simp only[kX,find?_cons,hu];rfl
  ·refine run ?_;refine mP ?_;rw[hJ];simp only[kX,find?_cons,hu]
 ·refine run ?_;refine aF (hr:=?_);rw[hJ,drop_of_length_le (by omega)];rfl
end
section
set_option maxRecDepth 100000
set_option maxHeartbeats 2000000
abbrev Nd.p (n:Nd):PV:=.ag [iP n.op,bP n.num.neg,sP n.num.num,sP n.num.den,sP n.name]
variable {Ld:bU}
def lK (sg:List Sg) (n:Nd) (l:List Ty):Ty × Int:=match nX sg n with
 |none=>(aJ,12)
 |some own=>if (eF n.op own l).2 then ((eF n.op own l).1,0) else (aJ,13)
theorem Yi (op:Int):(aG op).ops<=3:=by
 unfold aG;rw[getD_eq_getElem?_getD];rcases Nat.lt_or_ge op.toNat iV.length with h|h
 ·rw[getElem?_eq_getElem h];exact (by decide:∀s∈iV,s.ops<=3) _ (getElem_mem h)
 ·rw[getElem?_eq_none h];decide
theorem Yj {k:Int} (h:iK k=false) (own own':Ty) (l:List Ty) (h1:1<=k/\k<=24):eF k own l=eF k own' l:=by
 have h5:¬(5<=k/\k<=8)/\¬k=24:=by unfold iK at h;rw[Bool.or_eq_false_iff] at h;exact⟨of_decide_eq_false h.1,of_decide_eq_false h.2⟩
 have:k=1∨k=2∨k=3∨k=4∨(8<k/\k<24):=by omega
 rcases this with rfl|rfl|rfl|rfl|h
 iterate 4 rfl
 unfold eF;simp only[show ¬k=1 by omega,show ¬k=2 by omega,show ¬k=3 by omega,show ¬k=4 by omega,show ¬k<=8 by omega,show k<=23 by omega,if_true,if_false]
theorem agC {sg:List Sg} {n:Nd} {l:List Ty} {q:Option Ty} (hq:kX sg n.op n.name=q) (hu:(iK n.op&& !q.isSome)=false) (h1:1<=n.op/\n.op<=24):lK sg n l=if (eF n.op (q.getD aJ) l).2 then ((eF n.op (q.getD aJ) l).1,0) else (aJ,13):=by
 rw[IW] at hq;unfold lK nX;cases h:iK n.op
 ·rw[Yj h _ aJ l h1];rfl
 ·rw[h] at hq hu;rw[if_pos rfl] at hq⊢;rw[hq];cases q with
  |none=>cases hu
  |some _=>rfl
theorem BG {α:Type} {l:List α} (h:l.length=2):∃a b,l=[a,b]:=by
 match l,h with
 |[a,b],_=>exact⟨a,b,rfl⟩
theorem aaV {α:Type} {l:List α} (h:l.length=3):∃a b c,l=[a,b,c]:=by
 match l,h with
 |[a,b,c],_=>exact⟨a,b,c,rfl⟩
theorem N8 {α:Type} {l:List α} (h:l.length=1):∃a,l=[a]:=by
 match l,h with
 |[a],_=>exact⟨a,rfl⟩
theorem Ea {t:Ty} (h:aN t=true):t.truth=decide (t=aB):=by
 unfold aN at h;cases ht:t.truth
 ·exact (decide_eq_false (fun e=>by rw[e] at ht;cases ht)).symm
 ·rw[if_pos ht] at h;exact h.symm
theorem J6 {l:List Ty} (h:∀t∈l,aN t=true):(l.all fun t=>t.truth)=l.all fun t=>decide (t=aB):=by
 induction l with
 |nil=>rfl
 |cons a l ih=>rw[all_cons,all_cons,Ea (h a (by simp)),ih (fun t ht=>h t (by simp[ht]))]
abbrev SH (r:Ty × Int):PV:=.tu [r.1.p,iP r.2]
theorem lf1 {X:PV} {R:Ty × Bool} {u:Bool} (hu:(!u)=false) (hX:X=SH (R.1,0):=by rfl) (hx:R.2=u:=by rfl):X=SH (if R.2 then (R.1,0) else (aJ,13)):=by
 rw[hx,(by simpa using hu:u=true),if_pos rfl];exact hX
theorem lf0 {X:PV} {R:Ty × Bool} {u:Bool} (hu:(!u)=true) (hX:X=SH (aJ,13):=by rfl) (hx:R.2=u:=by rfl):X=SH (if R.2 then (R.1,0) else (aJ,13)):=by
 rw[hx,(by simpa using hu:u=false),if_neg (by simp)];exact hX
theorem aiH (sg:List Sg) (n:Nd) (ts:List Ty) (hs:sg.length<=1000) (ho:1<=n.op/\n.op<=24) (hl:ts.length=(aG n.op).ops) (hr:∀t∈ts,aN t=true):PC prog Ld 217 [.sl 5 (sg.map Sg.p),n.p,.sl 3 (ts.map Ty.p)] (·=SH (lK sg n ts)):=by
 obtain⟨op,num,nm⟩:=n;dsimp only[Nd.p] at*;refine dh func217 fun X=>?_
 have h1:=Vp (Ld:=Ld) sg op nm hs;have h2:=Yg (Ld:=Ld) op;generalize hq:kX sg op nm=q at*;refine run ?_;refine dH [(.s 29,.s (.v (bP (iK op&& !q.isSome))))] ?_;refine run ?_;refine bM (fun hu=>?_) fun hu=>?_
 ·refine run ?_;refine aF (hr:=?_);rw[Bool.and_eq_true] at hu;have h3:=IW sg ⟨op,num,nm⟩;dsimp only at h3;rw[hq,hu.1,if_pos rfl] at h3;unfold lK nX;rw[if_pos hu.1,<-h3];cases q with
  |none=>rfl
  |some _=>cases hu.2
 ·refine run ?_;have HO:=agC (l:=ts) (n:=⟨op,num,nm⟩) hq hu ho;dsimp only at HO;generalize q.getD aJ=own at*;generalize q.isSome=b at*;clear hq h1 h2;refine alG [.s 2,.s 4,.o 4,.s 6,.o 6,.s 7,.s 8,.o 8] ?_;have he:=qW;unfold Ty.v at he;have hn:=aaU (Ld:=Ld) ts (by rw[hl];exact Nat.le_trans (Yi _) (by omega));generalize lK sg ⟨op,num,nm⟩ ts=res at*;obtain rfl|rfl|rfl|rfl|rfl|rfl|rfl|rfl|rfl|rfl|rfl|rfl|rfl|rfl|rfl|rfl|rfl|rfl|rfl|rfl|rfl|rfl|rfl|rfl:op=1∨op=2∨op=3∨op=4∨op=5∨op=6∨op=7∨op=8∨op=9∨op=10∨op=13∨op=14∨op=16∨op=11∨op=12∨op=15∨op=17∨op=18∨op=19∨op=20∨op=21∨op=22∨op=23∨op=24:=by omega
  iterate 8
   have h:=length_eq_zero_iff.1 hl;subst h;refine dH [(.s 10,.s (.v (bP false)))] ?_;refine run ?_;refine aF (hr:=?_);rw[HO];rfl
  iterate 5
   obtain⟨x,y,rfl⟩:=BG hl;refine dH [(.s 10,.s (.v (bP (decide (x=y)))))] ?_;refine run ?_;have hx:(decide (x=y)&& !x.truth)=(decide (x=y)&&mF [x,y]):=by by_cases h:x=y<;>simp[mF,h]
   refine dH [(.s 12,.s (.v (bP (decide (x=y)&&mF [x,y]))))] ?_;refine run ?_;refine bM (fun hu=>?_) fun hu=>?_<;>(refine run ?_;refine aF (hr:=?_);rw[HO];first|exact lf1 hu rfl hx|exact lf0 hu rfl hx)
  ·obtain⟨x,y,rfl⟩:=BG hl;refine dH [(.s 10,.s (.v (bP (decide (x=y)))))] ?_;have g1:=o8 (hr x (by simp));have g2:=o8 (hr y (by simp));have w1:IntKind.i64.wrap (x.aA+y.aA)=x.aA+y.aA:=IntWalk.i64_in _ (by omega);have w2:IntKind.i64.wrap (x.days+y.days)=x.days+y.days:=IntWalk.i64_in _ (by omega);refine run ?_;have hR:=BD (Ld:=Ld) ⟨false,x.aA+y.aA,x.days+y.days⟩;have hx:(!x.truth&&(!y.truth&&dU (x.aA+y.aA) (x.days+y.days)))=(mF [x,y]&&aN ⟨false,x.aA+y.aA,x.days+y.days⟩):=by simp[mF,aN,Bool.and_assoc]
   refine dH [(.s 12,.s (.v (bP (mF [x,y]&&aN ⟨false,x.aA+y.aA,x.days+y.days⟩))))] ?_;refine run ?_;refine bM (fun hu=>?_) fun hu=>?_<;>(refine run ?_;refine aF (hr:=?_);rw[HO];first|exact lf1 hu rfl hx|exact lf0 hu rfl hx)
  ·obtain⟨x,y,rfl⟩:=BG hl;refine dH [(.s 10,.s (.v (bP (decide (x=y)))))] ?_;have g1:=o8 (hr x (by simp));have g2:=o8 (hr y (by simp));have w1:IntKind.i64.wrap (x.aA-y.aA)=x.aA-y.aA:=IntWalk.i64_in _ (by omega);have w2:IntKind.i64.wrap (x.days-y.days)=x.days-y.days:=IntWalk.i64_in _ (by omega);refine run ?_;have hR:=BD (Ld:=Ld) ⟨false,x.aA-y.aA,x.days-y.days⟩;have hx:(!x.truth&&(!y.truth&&dU (x.aA-y.aA) (x.days-y.days)))=(mF [x,y]&&aN ⟨false,x.aA-y.aA,x.days-y.days⟩):=by simp[mF,aN,Bool.and_assoc]
   refine dH [(.s 12,.s (.v (bP (mF [x,y]&&aN ⟨false,x.aA-y.aA,x.days-y.days⟩))))] ?_;refine run ?_;refine bM (fun hu=>?_) fun hu=>?_<;>(refine run ?_;refine aF (hr:=?_);rw[HO];first|exact lf1 hu rfl hx|exact lf0 hu rfl hx)
  ·obtain⟨x,y,z,rfl⟩:=aaV hl;refine dH [(.s 10,.s (.v (bP false)))] ?_;have hx:(decide (x=aB)&&decide (y=z))=(x.truth&&decide (y=z)):=by rw[Ea (hr x (by simp))]
   refine run ?_;refine dH [(.s 12,.s (.v (bP (x.truth&&decide (y=z)))))] ?_;refine run ?_;refine bM (fun hu=>?_) fun hu=>?_<;>(refine run ?_;refine aF (hr:=?_);rw[HO];first|exact lf1 hu rfl hx|exact lf0 hu rfl hx)
  ·obtain⟨x,y,rfl⟩:=BG hl;refine dH [(.s 10,.s (.v (bP (decide (x=y)))))] ?_;refine run ?_;have hx:=Eq.refl (decide (x=y));refine bM (fun hu=>?_) fun hu=>?_<;>(refine run ?_;refine aF (hr:=?_);rw[HO];first|exact lf1 hu rfl hx|exact lf0 hu rfl hx)
  iterate 2
   obtain⟨x,y,rfl⟩:=BG hl;refine dH [(.s 10,.s (.v (bP (decide (x=y)))))] ?_;clear hl;have hl:[x,y].length<=3:=by simp
   generalize [x,y]=ts at*;refine run ?_;refine jr ts.length (fun k=>[(.s 13,.s (.v (iP k))),(.s 12,.s (.v (bP ((ts.take k).all fun t=>t.truth))))]) [.s 2,.s 6,.o 6,.s 7,.s 11,.o 11] ?_;intro k hk hw;refine run ?_;refine aZ (fun hu=>?_) fun hu=>?_
   ·have hx:((ts.take (k+1)).all fun t=>t.truth)=((ts.take k).all (fun t=>t.truth)&&ts[k].truth):=by rw[take_succ_eq_append_getElem hu,all_append];simp only[all_cons,all_nil,Bool.and_true]
    refine run ?_;refine dH [(.s 12,.s (.v (bP ((ts.take (k+1)).all fun t=>t.truth))))] ?_;refine run ?_;refine gq
   ·have hx:(ts.all fun t=>decide (t=aB))=(ts.take k).all fun t=>t.truth:=by rw[take_of_length_le (by omega),J6 hr]
    refine run ?_;refine bM (fun hu=>?_) fun hu=>?_<;>(refine run ?_;refine aF (hr:=?_);rw[HO];first|exact lf1 hu rfl hx|exact lf0 hu rfl hx)
  ·obtain⟨x,rfl⟩:=N8 hl;refine dH [(.s 10,.s (.v (bP false)))] ?_;clear hl;have hl:[x].length<=3:=by simp
   generalize [x]=ts at*;refine run ?_;refine jr ts.length (fun k=>[(.s 13,.s (.v (iP k))),(.s 12,.s (.v (bP ((ts.take k).all fun t=>t.truth))))]) [.s 2,.s 6,.o 6,.s 7,.s 11,.o 11] ?_;intro k hk hw;refine run ?_;refine aZ (fun hu=>?_) fun hu=>?_
   ·have hx:((ts.take (k+1)).all fun t=>t.truth)=((ts.take k).all (fun t=>t.truth)&&ts[k].truth):=by rw[take_succ_eq_append_getElem hu,all_append];simp only[all_cons,all_nil,Bool.and_true]
    refine run ?_;refine dH [(.s 12,.s (.v (bP ((ts.take (k+1)).all fun t=>t.truth))))] ?_;refine run ?_;refine gq
   ·have hx:(ts.all fun t=>decide (t=aB))=(ts.take k).all fun t=>t.truth:=by rw[take_of_length_le (by omega),J6 hr]
    refine run ?_;refine bM (fun hu=>?_) fun hu=>?_<;>(refine run ?_;refine aF (hr:=?_);rw[HO];first|exact lf1 hu rfl hx|exact lf0 hu rfl hx)
  iterate 3
   obtain⟨x,rfl⟩:=N8 hl;refine dH [(.s 10,.s (.v (bP false)))] ?_;have hx:(!x.truth)=mF [x]:=by simp[mF]
   refine run ?_;refine bM (fun hu=>?_) fun hu=>?_<;>(refine run ?_;refine aF (hr:=?_);rw[HO];first|exact lf1 hu rfl hx|exact lf0 hu rfl hx)
  ·obtain⟨x,rfl⟩:=N8 hl;refine dH [(.s 10,.s (.v (bP false)))] ?_;refine run ?_;have hx:=Eq.refl (decide (x=own));refine bM (fun hu=>?_) fun hu=>?_<;>(refine run ?_;refine aF (hr:=?_);rw[HO];first|exact lf1 hu rfl hx|exact lf0 hu rfl hx)
end
section
set_option maxRecDepth 100000
set_option maxHeartbeats 2000000
variable {Ld:bU}
theorem agD (n:Int):PC prog Ld 204 [iP n] (·=bP (aG n).eH):=by
 refine dh func204 fun X=>?_
 have:(aG n).eH=(decide (5<=n)&&decide (n<=8)||decide (n=24)):=by rw[adZ,Bool.decide_or,Bool.decide_and]
 refine run ?_;refine dH [(.s 2,.s (.v (bP (aG n).eH)))] ?_;refine run ?_;exact aF
theorem N9 (n:Int):PC prog Ld 191 [iP n] (·=bP (aG n).fQ):=by
 refine dh func191 fun X=>?_
 have:(aG n).fQ=(decide (21<=n)&&decide (n<=23)):=by rw[Di,Bool.decide_and]
 refine run ?_;refine dH [(.s 2,.s (.v (bP (aG n).fQ)))] ?_;refine run ?_;exact aF
theorem Oa (n:Int):PC prog Ld 190 [iP n] (·=bP (aG n).lit):=by
 refine dh func190 fun X=>?_
 have:(aG n).lit=(decide (1<=n)&&decide (n<=4)):=by rw[yD,Bool.decide_and]
 refine run ?_;refine dH [(.s 2,.s (.v (bP (aG n).lit)))] ?_;refine run ?_;exact aF
theorem Oc (n:Int):PC prog Ld 188 [iP n] (·=iP (aG n).ops):=by
 refine dh func188 fun X=>?_
 have ho:=RQ n;refine run ?_;refine aZ (fun h=>?_) fun h=>?_
 ·rw[if_pos h] at ho;refine run ?_;exact aF (hr:=by rw[ho];rfl)
 ·rw[if_neg h] at ho;have h2:decide ((9<=n/\n<=14)∨(16<=n/\n<=19))=(decide (9<=n)&&decide (n<=14)||(decide (16<=n)&&decide (n<=19))):=by rw[Bool.decide_or,Bool.decide_and,Bool.decide_and]
  have h3:decide (20<=n/\n<=24)=(decide (20<=n)&&decide (n<=24)):=by rw[Bool.decide_and]
  refine run ?_;refine dH [(.s 18,.s (.v (bP (decide ((9<=n/\n<=14)∨(16<=n/\n<=19))))))] ?_;refine run ?_;refine aZ (fun h=>?_) fun h=>?_
  ·rw[if_pos h] at ho;refine run ?_;exact aF (hr:=by rw[ho];rfl)
  ·rw[if_neg h] at ho;refine run ?_;refine dH [(.s 24,.s (.v (bP (decide (20<=n/\n<=24)))))] ?_;refine run ?_;refine aZ (fun h=>?_) fun h=>?_
   ·rw[if_pos h] at ho;refine run ?_;exact aF (hr:=by rw[ho];rfl)
   ·rw[if_neg h] at ho;refine run ?_;exact aF (hr:=by rw[ho];rfl)
theorem acM (s:ByteArray):PC prog Ld 148 [sP s] (·=bP (nameB s.data.toList)):=
 kT (.sc .nil) rfl fun w _=>(X5 s w).mono fun _ _ ⟨h1,h2⟩=>⟨h1,h2 ▸ Below.refl _ _⟩
theorem GY (a:Ra) (hn:a.num.size<=536870912) (hd:a.den.size<=536870912):PC prog Ld 116 [a.p] (·=bP (bQ a)):=
 kT (.ag (by repeat constructor) .nil) rfl fun w _=>XY a w hn hd
theorem Vq (a:Ra) (hn:a.num.size<=536870912) (hd:a.den.size<=536870912):PC prog Ld 114 [a.p] (·=iP (dD a)):=
 kT (.ag (by repeat constructor) .nil) rfl fun w _=>JQ a w hn hd
theorem xk (n:Int) (h0:-9223372036854775808<=n) (h1:n<=9223372036854775807):PC prog Ld 18 [iP n] (·=(aK n).p):=
 kT (.sc .nil) rfl fun w _=>adW n w h0 h1
theorem Yk (n:Nd) (hf:Fine n):PC prog Ld 241 [n.p] (·=bP (iC n)):=by
 obtain⟨hn,hd⟩:=hf;have hU:iC n=if n.op=4 then decide (n.num=aK 0)||decide (n.num=aK 1) else if (aG n.op).lit then bQ n.num else if (aG n.op).fQ then bQ n.num&&decide (0<dD n.num) else decide (n.num=zR):=rfl
 have h1:=GY (Ld:=Ld) n.num (by omega) (by omega);have h2:=Vq (Ld:=Ld) n.num (by omega) (by omega);have h3:=xk (Ld:=Ld) 0 (by omega) (by omega);have h4:=xk (Ld:=Ld) 1 (by omega) (by omega);have h5:=Oa (Ld:=Ld) n.op;have h6:=N9 (Ld:=Ld) n.op;have he:=nM;unfold Ra.v at he;generalize aK 0=o0 at*;generalize aK 1=o1 at*;refine dh func241 fun X=>?_
 refine run ?_;refine aZ (fun h=>?_) fun h=>?_
 ·rw[if_pos h] at hU;refine run ?_;refine dH [(.s 2,.s (.v (bP (iC n))))] ?_;refine run ?_;exact aF
 ·rw[if_neg h] at hU;refine run ?_;refine bM (fun h=>?_) fun h=>?_
  ·rw[h,if_pos rfl] at hU;refine run ?_;exact aF (hr:=by rw[hU])
  ·rw[h,if_neg (by simp)] at hU;refine run ?_;refine bM (fun h=>?_) fun h=>?_
   ·rw[h,if_pos rfl] at hU;refine run ?_;refine dH [(.s 2,.s (.v (bP (iC n))))] ?_;refine run ?_;exact aF
   ·rw[h,if_neg (by simp)] at hU;have hz:=fun w=>nM n.num zR w
    simp only[Ra.v,zR] at hz;refine run ?_;exact aF (hr:=by rw[hU];rfl)
theorem Oe (es:List Nd) (hf:∀n∈es,Fine n) (hl:es.length<=100000):PC prog Ld 187 [.sl 5 (es.map Nd.p)] (·=iP (aX es)):=by
 refine dh func187 fun X=>?_
 refine run ?_;refine aZ (fun h=>?_) fun h=>?_
 ·refine run ?_;exact aF (hr:=by unfold aX;rw[if_pos (by omega)];rfl)
 ·refine run ?_;refine Nw (fun b=>[(.s 4,.s (.v (iP b.1))),(.s 3,.s (.v (iP b.2)))]) [.s 0] (fun b=>b.1<=es.length/\b.2<=b.1/\aX es=chk (es.drop b.1) b.2) (fun b=>es.length-b.1) ((0,0):Nat × Nat) ⟨by omega,by omega,by unfold aX;rw[if_neg (by omega)];rfl⟩ ?_;intro⟨k,d⟩ ⟨hk,hd,hJ⟩;dsimp only at hk hd hJ⊢;refine run ?_;refine aZ (fun hu=>?_) fun hu=>?_
  ·rw[drop_eq_getElem_cons hu] at hJ;have h1:=agD (Ld:=Ld) es[k].op;have h2:=Yk (Ld:=Ld) es[k] (hf _ (getElem_mem hu));have h3:=acM (Ld:=Ld) es[k].name;have h4:=Oc (Ld:=Ld) es[k].op;have hw1:=wrap_succ k (by omega);have hg:chk (es[k]::es.drop (k+1)) d=if aQ es[k]≠0 then aQ es[k] else if d<(aG es[k].op).ops then 11 else chk (es.drop (k+1)) (d-(aG es[k].op).ops+1):=rfl
   rw[hg] at hJ;refine run ?_;refine dH [(.s 48,.s (.v (bP (decide (es[k].op<1)||decide (24<es[k].op)|| !iC es[k]||(!(aG es[k].op).eH&& !decide (es[k].name=⟨#[]⟩))))))] ?_;refine run ?_;refine bM (fun h5=>?_) fun h5=>?_
   ·have hw:aQ es[k]=11:=by
     unfold aQ;rw[if_pos];simp only[Bool.or_eq_true,Bool.and_eq_true,Bool.not_eq_true',decide_eq_true_eq,decide_eq_false_iff_not] at h5;rcases h5 with ((h|h)|h)|h
     ·exact .inl h
     ·exact .inr (.inl h)
     ·exact .inr (.inr (.inr h))
     ·exact .inr (.inr (.inl h))
    rw[hw] at hJ;refine run ?_;exact aF (hr:=by rw[hJ];rfl)
   ·have hw:aQ es[k]=if (aG es[k].op).eH&& !nameB es[k].name.data.toList then 12 else 0:=by
     unfold aQ;rw[if_neg];intro h;rcases h with h|h|h|h<;>simp[h] at h5
    refine run ?_;refine dH [(.s 56,.s (.v (bP ((aG es[k].op).eH&& !nameB es[k].name.data.toList))))] ?_;refine run ?_;refine bM (fun h6=>?_) fun h6=>?_
    ·rw[h6,if_pos rfl] at hw;rw[hw] at hJ;refine run ?_;exact aF (hr:=by rw[hJ];rfl)
    ·rw[h6,if_neg (by simp)] at hw;rw[hw,if_neg (by simp)] at hJ;refine run ?_;refine aZ (fun h7=>?_) fun h7=>?_
     ·rw[if_pos (by omega)] at hJ;refine run ?_;exact aF (hr:=by rw[hJ];rfl)
     ·rw[if_neg (by omega)] at hJ;have hw2:IntKind.i64.wrap ((d:Int)-((aG es[k].op).ops:Int))=(d:Int)-((aG es[k].op).ops:Int):=IntWalk.i64_in _ (by omega);have hw3:IntKind.i64.wrap ((d:Int)-((aG es[k].op).ops:Int)+1)=((d-(aG es[k].op).ops+1:Nat):Int):=by rw[IntWalk.i64_in _ (by omega)];omega
      refine run ?_;refine Ny (k+1,d-(aG es[k].op).ops+1) ?_ ?_
      ·exact⟨by omega,by dsimp only;omega,hJ⟩
      ·dsimp only;omega
  ·rw[drop_of_length_le (by omega),chk] at hJ;refine run ?_;refine bM (fun h=>?_) fun h=>?_
   ·rw[if_neg (by simp at h;omega)] at hJ;refine run ?_;exact aF (hr:=by rw[hJ];rfl)
   ·rw[if_pos (by simp at h;omega)] at hJ;refine run ?_;exact aF (hr:=by rw[hJ];rfl)
end
section
set_option maxRecDepth 100000
set_option maxHeartbeats 2000000
abbrev nP (n:Nat):PV:=iP n
abbrev nsP (l:List Nat):PV:=.sl 1 (l.map nP)
variable {Ld:bU}
theorem aiI (es:List Nd) (hf:∀n∈es,Fine n) (hl:es.length<=100000):PC prog Ld 216 [.sl 5 (es.map Nd.p)] (·=.tu [.sl 1 ((if aX es=0 then iZ es else []).map nsP),bP (decide (aX es=0))]):=by
 refine dh func216 fun X=>?_
 have h1:=Oe (Ld:=Ld) es hf hl;refine run ?_;refine bM (fun h=>?_) fun h=>?_
 ·have h:¬aX es=0:=by simpa using h
  refine run ?_;exact aF (ho:=.two (.tmp rfl (.nil 1)) lY) (hr:=by rw[if_neg h,decide_eq_false h];rfl)
 ·have h:aX es=0:=by simpa using h
  have hk:=((oZ es).1 h).1
  have hc:chk es 0=0:=by
   have:=h;unfold aX at this;rwa[if_neg (by omega)] at this
  rw[if_pos h,decide_eq_true h];refine run ?_;refine nK 5 5 106 1 rfl rfl (by decide) ?_;refine Rq 6 6 3 1 rfl rfl (by decide) ?_
  refine Nw (fun b=>[(.s 7,.s (.v (nP b.1))),(.s 6,.s (.ox 6 (b.2.1.map nP).length b.1)),(.o 6,.o (.aW b.1 3 1 (b.2.1.map nP))),(.s 5,.s (.ow 5 (b.2.2.map nsP).length)),(.o 5,.o (.row 106 1 (b.2.2.map nsP)))]) [.s 0,.s 2,.s 3]
   (fun b=>b.1<=es.length/\b.2.1.length<=b.1/\b.2.2.length=b.1/\iZ es=b.2.2++ig (es.drop b.1) b.1 b.2.1.reverse/\chk (es.drop b.1) b.2.1.length=0) (fun b=>es.length-b.1) ((0,[],[]):Nat × List Nat × List (List Nat)) ?_ ?_
  ·exact⟨by omega,by simp,rfl,rfl,hc⟩
  intro⟨k,st,dn⟩ ⟨hk,hst,hdn,hJ,hC⟩;dsimp only at hk hst hdn hJ hC⊢;refine run ?_;refine aZ (fun hu=>?_) fun hu=>?_
  ·rw[drop_eq_getElem_cons hu] at hJ hC;obtain⟨_,ho,hC⟩:=y8 hC;have h2:=Oc (Ld:=Ld) es[k].op;rw[ig] at hJ;generalize (aG es[k].op).ops=o at*;obtain⟨t,ht⟩:=zE (st.length-o);have hto:t+o=st.length:=by omega
   rw[(EG st o ho).1,(EG st o ho).2,<-ht] at hJ;rw[<-ht] at hC;have hw2:IntKind.i64.wrap ((st.length:Int)-(o:Int))=(t:Int):=by rw[IntWalk.i64_in _ (by omega)];omega
   clear ht;refine run ?_;refine nK 9 9 3 1 rfl rfl (by decide) ?_;refine jr o (fun j=>[(.s 10,.s (.v (nP (t+j)))),(.s 9,.s (.ow 9 (((st.drop t).take j).map nP).length)),(.o 9,.o (.row 3 1 (((st.drop t).take j).map nP)))]) [.s 0,.s 2,.s 3,.s 5,.o 5,.s 6,.o 6,.s 7,.s 8] ?_;intro j hj hw;refine run ?_;refine aZ (fun hv=>?_) fun hv=>?_
   ·have hv2:t+j<st.length:=by omega
    have hv3:j<(st.drop t).length:=by rw[length_drop];omega
    have ht:=take_succ_eq_append_getElem hv3;rw[getElem_drop] at ht;have h8:((t:Int)+(j:Int)).toNat=t+j:=by omega
    have hw4:IntKind.i64.wrap ((t:Int)+(j:Int)+1)=((t+(j+1):Nat):Int):=by rw[IntWalk.i64_in _ (by omega)];omega
    refine run ?_;refine gq
   ·obtain rfl:j=o:=by omega
    have e1:(st.drop t).take j=st.drop t:=take_of_length_le (by rw[length_drop];omega);have e2:(st.map nP).take t=(st.take t).map nP:=map_take.symm;have hw3:=wrap_succ k (by omega);refine run ?_;refine Ny (k+1,st.take t++[k],dn++[st.drop t]) ?_ ?_
    ·have e3:(st.take t++[k]).length=t+1:=by rw[length_append,length_take];simp;omega
     exact⟨by omega,by dsimp only;omega,by simp[hdn],by rw[hJ];simp,by dsimp only;rw[e3];exact hC⟩
    ·dsimp only;omega
  ·rw[drop_of_length_le (by omega),ig,append_nil] at hJ;refine run ?_;exact aF (hr:=by rw[hJ];rfl)
end
structure Og (w:World) (b off:Nat) (t:Ty):Prop where
 lt:b<w.heap.size
 c0:w.cell? ⟨b,off,none⟩=some (.bool t.truth)
 c1:w.cell? ⟨b,off+1,none⟩=some (.int .i64 t.aA)
 c2:w.cell? ⟨b,off+2,none⟩=some (.int .i64 t.days)
theorem Og.below {w w':World} {b off:Nat} {t:Ty} (h:Og w b off t) (hb:Below w.heap.size w w'):Og w' b off t:=
 ⟨Nat.lt_of_lt_of_le h.lt hb.size,(hb.cell h.lt).trans h.c0,(hb.cell h.lt).trans h.c1,(hb.cell h.lt).trans h.c2⟩
theorem Rd.IX {w:World} {A:Option Addr} {l:List Ty} (h:Rd w A (tys l)) (hl:0<l.length):∃b off,A=some ⟨b,off,none⟩/\∀j (hj:j<l.length),Og w b (off+j*3) l[j]:=by
 obtain⟨b,off,hA,hb,_⟩:=h.ty hl;refine⟨b,off,hA,fun j hj=>?_⟩;obtain⟨b',off',hA',hb',h0,h1,h2⟩:=h.ty hj;rw[hA] at hA';injection hA' with hA';injection hA' with h3 h4;subst h3 h4;exact⟨hb',h0,h1,h2⟩
theorem iD {w W:World} {B:Nat} (h:Below w.heap.size w W) (hB:w.heap.size<=B) (v0 v1 v2:Value):Below w.heap.size w (((W.setCell ⟨B,0,none⟩ v0).setCell ⟨B,1,none⟩ v1).setCell ⟨B,2,none⟩ v2):=
 ((h.setCell (p:=⟨B,0,none⟩) hB v0).setCell (p:=⟨B,1,none⟩) hB v1).setCell (p:=⟨B,2,none⟩) hB v2
theorem J7 {P:Program} {ops:Array Oper} {Q:Exit->Act->World->Prop} {md:Region.Mode} {S:World->Prop} {x:Nat} {l:Array Bool} {i:Nat} {oi:Oper} {f:Nat} {a a':Act} {w:World} (h:dw P md ops Q S x f (l.setIfInBounds i true) a' w)
  (hn:ops.size-(f+1)=i:=by ((try simp only[size_toArray,length_cons,length_nil,Nat.reduceAdd,Nat.reduceSub]);rfl)) (hi:ops[i]?=some oi:=by rfl)
  (ha:a.put oi.dst undef=a':=by ((try simp only[Act.put,tk1,tk2,tk3,tk4,jY,jZ]);rfl))
  (hs:Region.noSelect ops=true:=by kernel_rfl) (hf:Region.free md ops l i=true:=by kernel_rfl) (hr:(Region.ready md ops l).contains i=true:=by kernel_rfl)
  (hw:Region.wanted oi (yielded ops a.tmps)=false:=by kernel_rfl) (hS:S w:=by assumption) (hQ:∀c a w,Q (.panic c) (a.put oi.dst undef) w->Q (.panic c) a w:=by exact fun _ _ _ h=>h)
  (hx:(decide (ops.size<=x)||dep ops md l i ops.size x)=true:=by kernel_rfl):dw P md ops Q S x (f+1) l a w:=reN i h hi ha hs hf hr hw hS hQ hx
structure jP (w:World) (own:Ty) (X:World):Prop where
 o:aj X w.heap.size 51 [.bool own.truth,.int .i64 own.aA,.int .i64 own.days]
 r:∃x y z,aj X (w.heap.size+1) 51 [x,y,z]
 w:Below w.heap.size w X
section
variable {w W X:World} {own t:Ty} {b off:Nat}
theorem jP.new (h:(w.alloc (.cells #[.bool own.truth,.int .i64 own.aA,.int .i64 own.days] 51)).alloc (.cells #[.bool false,.int .i64 0,.int .i64 0] 51)=W):jP w own W:=by
 subst h;refine⟨(aj.new w _ _).alloc _,?_,(zB w _).alloc (by rw[size_alloc];omega) _⟩;have h:=aj.new (w.alloc (.cells #[.bool own.truth,.int .i64 own.aA,.int .i64 own.days] 51)) 51 #[.bool false,.int .i64 0,.int .i64 0];rw[size_alloc] at h;exact⟨_,_,_,h⟩
theorem jP.below (h:jP w own W) (hb:Below W.heap.size W X):jP w own X:=by
 obtain⟨h1,⟨x,y,z,h2⟩,h3⟩:=h;exact⟨h1.below hb h1.lt,⟨x,y,z,h2.below hb h2.lt⟩,ah h3 hb⟩
theorem jP.ty (h:jP w own X) (q:Og w b off t):X.cell? ⟨b,off,none⟩=some (.bool t.truth)/\X.cell? ⟨b,off+1,none⟩=some (.int .i64 t.aA)/\X.cell? ⟨b,off+2,none⟩=some (.int .i64 t.days):=
 have p:=q.below h.w;⟨p.c0,p.c1,p.c2⟩
theorem jP.put (h:jP w own X) (v0 v1 v2:Value):jP w own (((X.setCell ⟨w.heap.size+1,0,none⟩ v0).setCell ⟨w.heap.size+1,1,none⟩ v1).setCell ⟨w.heap.size+1,2,none⟩ v2):=by
 obtain⟨h1,⟨x,y,z,h2⟩,h3⟩:=h;have e:∀{Y:World} (i:Nat) (v:Value),aj Y w.heap.size 51 [.bool own.truth,.int .i64 own.aA,.int .i64 own.days]->aj (Y.setCell ⟨w.heap.size+1,i,none⟩ v) w.heap.size 51 [.bool own.truth,.int .i64 own.aA,.int .i64 own.days]:=fun i v hY=>((bW.refl (w.heap.size+1) _).set _ _).blk hY (by omega)
 exact⟨e _ _ (e _ _ (e _ _ h1)),⟨v0,v1,v2,((h2.set 0 v0).set 1 v1).set 2 v2⟩,iD h3 (by omega) _ _ _⟩
end
theorem Lm (own a:Ty) (A:Option Addr) (c:Nat) (w:World) (hr:Rd w A (tys [a])) (hc:1<=c):Calls prog 282 #[own.v,.slice A 1 c] w fun e w'=>e=.returned (.tuple #[a.v,.bool (!a.truth)])/\Below w.heap.size w w':=by
 obtain⟨b,off,rfl,hat⟩:=hr.IX (by simp);have q0:=hat 0 (by simp);simp only[getElem_cons_zero,getElem_cons_succ,Nat.zero_mul,Nat.add_zero,Nat.one_mul] at q0;obtain⟨tr,m,d⟩:=own;obtain⟨at_,am,ad⟩:=a;have hc:=fun X (h:jP w ⟨tr,m,d⟩ X)=>h.ty q0
 simp only[aB] at hc;unfold Ty.v;go_enter func282,ntmps282
 go_upto_region 1 with fail
 generalize hX:(w.alloc _).alloc _=W;have hfr:=jP.new (own:=⟨tr,m,d⟩) hX;clear hX;refine jL (jP w ⟨tr,m,d⟩) 99 (hfr.below (aI _ _ 1)) (fun X _ hS=>?_)
 iterate 8 refine dR ?_
 obtain⟨x0,x1,x2,hr⟩:=hS.r;have hcr:=hr.cells;have Oh:=hr.bH;refine nZ 8 (fun _=>hS.put _ _ _) (fun h=>?_);have hS2:=h (by decide);refine dR ?_;refine iW ?_;go_wp2;refine bodyPost_ret (v:=.tuple #[.agg #[.bool at_,.int .i64 am,.int .i64 ad],.bool (!at_)]) (by simp[results,results282,go_sem,hcr]) rfl ⟨rfl,?_⟩;exact iD hS.w (by omega) _ _ _
theorem Vr (own a:Ty) (A:Option Addr) (c:Nat) (w:World) (hr:Rd w A (tys [a])) (hc:1<=c):Calls prog 238 #[own.v,.slice A 1 c] w fun e w'=>e=.returned (.tuple #[own.v,.bool (decide (a=own))])/\Below w.heap.size w w':=by
 obtain⟨b,off,rfl,hat⟩:=hr.IX (by simp);have q0:=hat 0 (by simp);simp only[getElem_cons_zero,getElem_cons_succ,Nat.zero_mul,Nat.add_zero,Nat.one_mul] at q0;obtain⟨tr,m,d⟩:=own;obtain⟨at_,am,ad⟩:=a;have hc:=fun X (h:jP w ⟨tr,m,d⟩ X)=>And.intro (h.ty q0) (And.intro ((h.o.cells 0)) (And.intro ((h.o.cells 1)) ((h.o.cells 2))))
 simp only[aB] at hc;obtain⟨Oi,wC⟩:=zF (decide ((⟨at_,am,ad⟩:Ty)=⟨tr,m,d⟩));have Oj:=fun W=>qW ⟨at_,am,ad⟩ ⟨tr,m,d⟩ W
 simp only[wC,Ty.v] at Oj⊢;clear wC;go_enter func238,ntmps238
 go_upto_region 1 with fail
 generalize hX:(w.alloc _).alloc _=W;have hfr:=jP.new (own:=⟨tr,m,d⟩) hX;clear hX;refine jL (jP w ⟨tr,m,d⟩) 99 (hfr.below (aI _ _ 1)) (fun X _ hS=>?_)
 iterate 6 refine dR ?_
 obtain⟨x0,x1,x2,hr⟩:=hS.r;have hcr:=hr.cells;have Oh:=hr.bH;refine nZ 6 (fun _=>hS.put _ _ _) (fun h=>?_);have hS2:=h (by decide);refine dR ?_;refine iW ?_;go_wp2;refine bodyPost_ret (v:=.tuple #[.agg #[.bool tr,.int .i64 m,.int .i64 d],.bool Oi]) (by simp[results,results238,go_sem,hcr]) rfl ⟨rfl,?_⟩;exact iD hS.w (by omega) _ _ _
theorem Vs (own a b':Ty) (A:Option Addr) (c:Nat) (w:World) (hL:bT w) (hr:Rd w A (tys [a,b'])) (hc:2<=c):Calls prog 235 #[own.v,.slice A 2 c] w fun e w'=>e=.returned (.tuple #[aB.v,.bool (decide (a=b'))])/\Below w.heap.size w w':=by
 obtain⟨b,off,rfl,hat⟩:=hr.IX (by simp);have q0:=hat 0 (by simp);have q1:=hat 1 (by simp);simp only[getElem_cons_zero,getElem_cons_succ,Nat.zero_mul,Nat.add_zero,Nat.one_mul] at q0 q1;obtain⟨tr,m,d⟩:=own;obtain⟨at_,am,ad⟩:=a;obtain⟨bt,bm,bd⟩:=b';have hc:=fun X (h:jP w ⟨tr,m,d⟩ X)=>And.intro (h.ty q0) (And.intro (h.ty q1) (And.intro ((hL.below h.w).truth 0 _ rfl) (And.intro ((hL.below h.w).truth 1 _ rfl) ((hL.below h.w).truth 2 _ rfl))))
 simp only[aB] at hc;unfold aB;obtain⟨Oi,wC⟩:=zF (decide ((⟨at_,am,ad⟩:Ty)=⟨bt,bm,bd⟩));have Oj:=fun W=>qW ⟨at_,am,ad⟩ ⟨bt,bm,bd⟩ W
 simp only[wC,Ty.v] at Oj⊢;clear wC;go_enter func235,ntmps235
 go_upto_region 1 with fail
 generalize hX:(w.alloc _).alloc _=W;have hfr:=jP.new (own:=⟨tr,m,d⟩) hX;clear hX;refine jL (jP w ⟨tr,m,d⟩) 99 (hfr.below (aI _ _ 1)) (fun X _ hS=>?_)
 iterate 8 refine dR ?_
 obtain⟨x0,x1,x2,hr⟩:=hS.r;have hcr:=hr.cells;have Oh:=hr.bH;refine nZ 8 (fun _=>hS.put _ _ _) (fun h=>?_);have hS2:=h (by decide);refine dR ?_;refine iW ?_;go_wp2;refine bodyPost_ret (v:=.tuple #[.agg #[.bool true,.int .i64 0,.int .i64 0],.bool Oi]) (by simp[results,results235,go_sem,hcr]) rfl ⟨rfl,?_⟩;exact iD hS.w (by omega) _ _ _
theorem aeb (own a b' c':Ty) (A:Option Addr) (c:Nat) (w:World) (hL:bT w) (hr:Rd w A (tys [a,b',c'])) (hc:3<=c):Calls prog 233 #[own.v,.slice A 3 c] w fun e w'=>e=.returned (.tuple #[b'.v,.bool (decide (a=aB)&&decide (b'=c'))])/\Below w.heap.size w w':=by
 obtain⟨b,off,rfl,hat⟩:=hr.IX (by simp);have q0:=hat 0 (by simp);have q1:=hat 1 (by simp);have q2:=hat 2 (by simp);simp only[getElem_cons_zero,getElem_cons_succ,Nat.zero_mul,Nat.add_zero,Nat.one_mul] at q0 q1 q2;obtain⟨tr,m,d⟩:=own;obtain⟨at_,am,ad⟩:=a;obtain⟨bt,bm,bd⟩:=b';obtain⟨ct,cm,cd⟩:=c';have hc:=fun X (h:jP w ⟨tr,m,d⟩ X)=>And.intro (h.ty q0) (And.intro (h.ty q1) (And.intro (h.ty q2) (And.intro ((hL.below h.w).truth 0 _ rfl) (And.intro ((hL.below h.w).truth 1 _ rfl) ((hL.below h.w).truth 2 _ rfl)))))
 simp only[aB] at hc;unfold aB;obtain⟨Oi,wC⟩:=zF (decide ((⟨at_,am,ad⟩:Ty)=⟨true,0,0⟩));have Oj:=fun W=>qW ⟨at_,am,ad⟩ ⟨true,0,0⟩ W
 simp only[wC,Ty.v] at Oj⊢;obtain⟨dq1,agF⟩:=zF (decide ((⟨bt,bm,bd⟩:Ty)=⟨ct,cm,cd⟩));have uw:=fun W=>qW ⟨bt,bm,bd⟩ ⟨ct,cm,cd⟩ W
 simp only[agF,Ty.v] at uw⊢;clear wC agF;go_enter func233,ntmps233
 go_upto_region 1 with fail
 generalize hX:(w.alloc _).alloc _=W;have hfr:=jP.new (own:=⟨tr,m,d⟩) hX;clear hX;refine jL (jP w ⟨tr,m,d⟩) 99 (hfr.below (aI _ _ 1)) (fun X _ hS=>?_)
 iterate 9 refine dR ?_
 cases Oi
 iterate 7 refine J7 ?_
 rotate_left
 iterate 7 refine dR ?_
 all_goals
  refine dR ?_;obtain⟨x0,x1,x2,hr⟩:=hS.r;have hcr:=hr.cells;have Oh:=hr.bH;refine nZ 17 (fun _=>hS.put _ _ _) (fun h=>?_);have hS2:=h (by decide);refine dR ?_;refine iW ?_;go_wp2;refine bodyPost_ret (v:=.tuple #[.agg #[.bool bt,.int .i64 bm,.int .i64 bd],.bool _]) (by simp[results,results233,go_sem,hcr]) rfl ⟨rfl,?_⟩;exact iD hS.w (by omega) _ _ _
theorem J8 (g:FuncId) (own a b' T:Ty) (A:Option Addr) (c fb:Nat) (w:World) (heg:∀args w,(callFunc g args).run prog w=.ok (.enter g args) w) (HG:∀W,Below w.heap.size w W->Calls prog g #[a.v] W fun e w'=>e=.returned T.v/\Below W.heap.size W w') (hr:Rd w A (tys [a,b'])) (hc:2<=c) (hfb:aj w fb 272 [.func (.func g) #[] #[]]):Calls prog 279 #[own.v,.slice A 2 c,.pointer (some ⟨fb,0,none⟩)] w fun e w'=>e=.returned (.tuple #[T.v,.bool (decide (a=b')&& !a.truth)])/\Below w.heap.size w w':=by
 obtain⟨b,off,rfl,hat⟩:=hr.IX (by simp);have q0:=hat 0 (by simp);have q1:=hat 1 (by simp);simp only[getElem_cons_zero,getElem_cons_succ,Nat.zero_mul,Nat.add_zero,Nat.one_mul] at q0 q1;obtain⟨tr,m,d⟩:=own;obtain⟨at_,am,ad⟩:=a;obtain⟨bt,bm,bd⟩:=b';have hc:=fun X (h:jP w ⟨tr,m,d⟩ X)=>And.intro (h.ty q0) (And.intro (h.ty q1) ((hfb.below h.w hfb.lt).cells 0))
 simp only[aB] at hc;obtain⟨Tt,Tm,Td⟩:=T;obtain⟨Oi,wC⟩:=zF (decide ((⟨at_,am,ad⟩:Ty)=⟨bt,bm,bd⟩));have Oj:=fun W=>qW ⟨at_,am,ad⟩ ⟨bt,bm,bd⟩ W
 simp only[wC,Ty.v] at Oj⊢;clear wC;simp only[Ty.v] at HG;go_enter func279,ntmps279
 go_upto_region 1 with fail
 generalize hX:(w.alloc _).alloc _=W;have hfr:=jP.new (own:=⟨tr,m,d⟩) hX;clear hX;refine jL (jP w ⟨tr,m,d⟩) 99 (hfr.below (aI _ _ 1)) (fun X _ hS=>?_)
 iterate 4 refine dR ?_
 refine iM 5 ?_;refine iM 6 ?_;refine iM 7 ?_;refine iM 8 ?_;refine iM 9 ?_;refine iM 10 ?_;refine iM 11 ?_;refine mg 4 (HG X hS.w) ?_;rintro e X ⟨rfl,hb⟩;refine⟨_,rfl,hS.below hb,fun hS=>?_⟩;refine dR ?_;cases Oi
 iterate 5 refine J7 ?_
 rotate_left
 iterate 5 refine dR ?_
 all_goals
  refine dR ?_;obtain⟨x0,x1,x2,hr⟩:=hS.r;have hcr:=hr.cells;have Oh:=hr.bH;refine nZ 19 (fun _=>hS.put _ _ _) (fun h=>?_);have hS2:=h (by decide);refine dR ?_;refine iW ?_;go_wp2;refine bodyPost_ret (v:=.tuple #[.agg #[.bool Tt,.int .i64 Tm,.int .i64 Td],.bool _]) (by simp[results,results279,go_sem,hcr]) rfl ⟨rfl,?_⟩;exact iD hS.w (by omega) _ _ _
theorem QB (own a b':Ty) (A:Option Addr) (c fb:Nat) (w:World) (hr:Rd w A (tys [a,b'])) (hc:2<=c) (hfb:aj w fb 272 [.func (.func 231) #[] #[]]):Calls prog 279 #[own.v,.slice A 2 c,.pointer (some ⟨fb,0,none⟩)] w fun e w'=>e=.returned (.tuple #[a.v,.bool (decide (a=b')&& !a.truth)])/\Below w.heap.size w w':=
 J8 _ own a b' a A c fb w (enters_of func231 (by kernel_rfl) rfl) (fun W _=>Qy a W) hr hc hfb
theorem QC (own a b':Ty) (A:Option Addr) (c fb:Nat) (w:World) (hL:bT w) (hr:Rd w A (tys [a,b'])) (hc:2<=c) (hfb:aj w fb 272 [.func (.func 234) #[] #[]]):Calls prog 279 #[own.v,.slice A 2 c,.pointer (some ⟨fb,0,none⟩)] w fun e w'=>e=.returned (.tuple #[aB.v,.bool (decide (a=b')&& !a.truth)])/\Below w.heap.size w w':=
 J8 _ own a b' aB A c fb w (enters_of func234 (by kernel_rfl) rfl) (fun W hb=>Ll a W (hL.below hb)) hr hc hfb
def oC (s:Int) (a b:Ty):Ty:=⟨false,a.aA+s*b.aA,a.days+s*b.days⟩
structure Ag (w:World) (own:Ty) (G:Nat) (cs:List Value) (X:World):Prop where
 f:jP w own X
 p:aj X G 51 cs
 g:w.heap.size+2<=G
section
variable {w X Y:World} {own:Ty} {G:Nat} {cs:List Value}
theorem Ag.below (h:Ag w own G cs X) (hb:Below X.heap.size X Y):Ag w own G cs Y:=⟨h.f.below hb,h.p.below hb h.p.lt,h.g⟩
theorem Ag.set (h:Ag w own G cs X) (i:Nat) (v:Value):Ag w own G (cs.set i v) (X.setCell ⟨G,i,none⟩ v):=by
 obtain⟨⟨h1,⟨x,y,z,h2⟩,h3⟩,h4,h5⟩:=h;have on:=(bW.refl G X).set i v;exact⟨⟨on.blk h1 (by omega),⟨x,y,z,on.blk h2 (by omega)⟩,h3.setCell (p:=⟨G,i,none⟩) (by show w.heap.size<=G;omega) v⟩,h4.set i v,h5⟩
theorem Ag.put (h:Ag w own G cs X) (v0 v1 v2:Value):Ag w own G cs (((X.setCell ⟨w.heap.size+1,0,none⟩ v0).setCell ⟨w.heap.size+1,1,none⟩ v1).setCell ⟨w.heap.size+1,2,none⟩ v2):=
 ⟨h.f.put v0 v1 v2,((((bW.refl _ X).set 0 v0).set 1 v1).set 2 v2).blk h.p (by have:=h.g;omega),h.g⟩
end
theorem J9 (own a b':Ty) (s:Int) (A:Option Addr) (c fb:Nat) (w:World) (hs:s=1∨s= -1) (ha:aN a=true) (hb':aN b'=true) (hr:Rd w A (tys [a,b'])) (hc:2<=c) (hfb:aj w fb 3 [.int .i64 s]):Calls prog 280 #[own.v,.slice A 2 c,.pointer (some ⟨fb,0,none⟩)] w fun e w'=>e=.returned (.tuple #[(oC s a b').v,.bool (!a.truth&&(!b'.truth&&dU (oC s a b').aA (oC s a b').days))])/\Below w.heap.size w w':=by
 obtain⟨a1,a2,a3,a4⟩:=o8 ha;obtain⟨c1,c2,c3,c4⟩:=o8 hb';obtain⟨b,off,rfl,hat⟩:=hr.IX (by simp);have q0:=hat 0 (by simp);have q1:=hat 1 (by simp);simp only[getElem_cons_zero,getElem_cons_succ,Nat.zero_mul,Nat.add_zero,Nat.one_mul] at q0 q1;obtain⟨tr,m,d⟩:=own;obtain⟨at_,am,ad⟩:=a;obtain⟨bt,bm,bd⟩:=b';have hc:=fun X (h:jP w ⟨tr,m,d⟩ X)=>And.intro (h.ty q0) (And.intro (h.ty q1) ((hfb.below h.w hfb.lt).cells 0))
 simp only at hc a1 a2 a3 a4 c1 c2 c3 c4;obtain⟨pm,hpm⟩:=zE (am+s*bm);obtain⟨pd,Gw⟩:=zE (ad+s*bd);have hw1:IntKind.i64.wrap (s*bm)=s*bm:=IntWalk.i64_in _ (by rcases hs with rfl|rfl<;>omega);have hw2:IntKind.i64.wrap (s*bd)=s*bd:=IntWalk.i64_in _ (by rcases hs with rfl|rfl<;>omega);have hw3:IntKind.i64.wrap (am+s*bm)=pm:=by rw[hpm];exact IntWalk.i64_in _ (by rcases hs with rfl|rfl<;>omega)
 have hw4:IntKind.i64.wrap (ad+s*bd)=pd:=by rw[Gw];exact IntWalk.i64_in _ (by rcases hs with rfl|rfl<;>omega)
 unfold oC Ty.v;simp only[<-hpm,<-Gw]
 clear hs a1 a2 a3 a4 c1 c2 c3 c4 hpm Gw ha hb' hr hat q0 q1 hfb;go_enter func280,ntmps280
 go_upto_region 1 with fail
 generalize hX:(w.alloc _).alloc _=W;have hfr:=jP.new (own:=⟨tr,m,d⟩) hX;clear hX;refine jL (jP w ⟨tr,m,d⟩) 99 (hfr.below (aI _ _ 1)) (fun X _ hS=>?_)
 iterate 28 refine dR ?_
 refine ng 28 (fun _=>hS.below (zB _ _)) (fun hS1=>?_);generalize hX:X.alloc _=Z;have hz:=(zA hX).1;have h3:Ag w ⟨tr,m,d⟩ X.heap.size _ Z:=⟨hX ▸ hS1,hz,hS.r.elim fun x h=>h.elim fun y h=>h.elim fun z h=>h.lt⟩
 have cz:=hz.cells;have fz:=hz.bH;have h4:=((h3.set 0 (.bool false)).set 1 (.int .i64 pm)).set 2 (.int .i64 pd);refine nZ 29 (fun _=>h4.f) (fun _=>?_);refine iW ?_;simp only[set_cons_zero,set_cons_succ] at h4;generalize X.heap.size=G at h4⊢;generalize World.setCell _ _ _=V at h4⊢;clear hS hS1 hX hz h3 cz fz hfr hw1 hw2 hw3 hw4
 go_upto_region 2 with fail
 have hc:=fun X (h:Ag w ⟨tr,m,d⟩ G [.bool false,.int .i64 pm,.int .i64 pd] X)=>And.intro (hc X h.f) (And.intro (h.p.cells 0) (And.intro (h.p.cells 1) (h.p.cells 2)))
 refine jL (Ag w ⟨tr,m,d⟩ G [.bool false,.int .i64 pm,.int .i64 pd]) 99 (h4.below (aI _ _ 1)) (fun X _ hS=>?_)
 iterate 7 refine dR ?_
 cases at_;cases bt
 iterate 9 refine dR ?_
 refine mg 16 (wZ pm pd X) ?_;rintro e X ⟨rfl,hb⟩;refine⟨_,rfl,hS.below hb,fun hS=>?_⟩;rotate_left
 iterate 7 refine dR ?_
 iterate 3 refine J7 ?_
 rotate_left
 iterate 5 refine J7 ?_
 iterate 2 refine dR ?_
 iterate 3 refine J7 ?_
 all_goals
  refine dR ?_;obtain⟨x0,x1,x2,hr⟩:=hS.f.r;have hcr:=hr.cells;have Oh:=hr.bH;refine nZ 18 (fun _=>hS.put _ _ _) (fun h=>?_);have hS2:=h (by decide);refine dR ?_;refine iW ?_;go_wp2;refine bodyPost_ret (v:=.tuple #[.agg #[.bool false,.int .i64 pm,.int .i64 pd],.bool _]) (by simp[results,results280,go_sem,hcr]) rfl ⟨rfl,?_⟩;exact iD hS.f.w (by omega) _ _ _
theorem Ol (own:Ty) (l:List Ty) (A:Option Addr) (k c:Nat) (w:World) (hL:bT w) (hk:k=l.length) (hm:k<=maxLen) (hr:Rd w A (tys l)):
  Calls prog 281 #[own.v,.slice A k c] w fun e w'=>e=.returned (.tuple #[aB.v,.bool (l.all fun t=>decide (t=aB))])/\Below w.heap.size w w':=by
 obtain⟨tr,m,d⟩:=own;have GU:=zH hk;have hc:=fun X (h:jP w ⟨tr,m,d⟩ X)=>And.intro ((hL.below h.w).truth 0 _ rfl) (And.intro ((hL.below h.w).truth 1 _ rfl) ((hL.below h.w).truth 2 _ rfl))
 have HT:=zH (fun X (h:jP w ⟨tr,m,d⟩ X) {j:Nat} (hj:j<l.length)=>(hr.below h.w).ty hj);have hng:¬(6=w.heap.size+1):=by have h1:=hL.lt.2.2.2.2;omega
 have hm2:k<=9223372036854775807:=by unfold maxLen at hm;omega
 unfold Ty.v;unfold aB at hc⊢;simp only at hc⊢;obtain⟨res,hres⟩:=zE (l.all fun t=>decide (t=(⟨true,0,0⟩:Ty)));rw[<-hres];have MZ:=zH hres;clear hr hL hm hk hres;go_enter func281,ntmps281
 go_upto_region 1 with fail
 generalize hX:(w.alloc _).alloc _=W;have hfr:=jP.new (own:=⟨tr,m,d⟩) hX;clear hX;go_wp2
 go_loopg [10] k (fun g iv wr=>∃j:Nat,j+g=k/\iv=.int .i64 j/\Hid (∀t∈l.take j,t=⟨true,0,0⟩)/\jP w ⟨tr,m,d⟩ wr)
 case atStart=>exact⟨0,by omega,rfl,(fun t ht=>by cases ht),hfr⟩
 case round=>
  clear hfr;obtain⟨j,hj,rfl,hall,hfr⟩:=hrel;by_cases hlt:j<k
  ·have hjl:j<l.length:=by rw[<-GU.out];exact hlt
   obtain⟨b,off,rfl,hb,d0,d1,d2⟩:=HT.out wr hfr hjl;have HX:Hid (l[j]∈l):=getElem_mem hjl;have HS:Hid (l.take (j+1)=l.take j++[l[j]]):=take_succ_eq_append_getElem hjl;generalize l[j]=t at*;obtain⟨tt,tm,td⟩:=t;obtain⟨dq,tZ⟩:=zF (decide ((⟨tt,tm,td⟩:Ty)=⟨true,0,0⟩));have HE:=fun W=>Bj ⟨tt,tm,td⟩ ⟨true,0,0⟩ W
   simp only[tZ,Ty.v] at HE;have hcc:=hc _ (hfr.below (zB wr (.cells #[.bool tt,.int .i64 tm,.int .i64 td] 51)));cases dq
   ·obtain rfl:res=false:=by
     rw[MZ.out,<-Bool.not_eq_true,all_eq_true];exact fun h=>of_decide_eq_false tZ (of_decide_eq_true (h _ HX.out))
    obtain⟨x0,x1,x2,hr⟩:=(hfr.below (zB wr (.cells #[.bool tt,.int .i64 tm,.int .i64 td] 51))).r;have hcr:=hr.cells;have Oh:=hr.bH;have hw:=hfr.w.alloc hfr.w.size (.cells #[.bool tt,.int .i64 tm,.int .i64 td] 51);clear MZ hall HS HX tZ HT hr;go_wp2;refine bodyPost_ret (v:=.tuple #[.agg #[.bool true,.int .i64 0,.int .i64 0],.bool false]) (by simp[results,results281,go_sem,hcr]) rfl ⟨rfl,?_⟩;exact iD hw (by omega) _ _ _
   ·have HA:Hid (∀t∈l.take (j+1),t=⟨true,0,0⟩):=fun t ht=>by
     rw[HS.out] at ht;rcases mem_append.1 ht with ht|ht
     ·exact hall.out t ht
     ·rw[mem_singleton.1 ht];exact of_decide_eq_true tZ
    have hf:=hfr.below (zB wr (.cells #[.bool tt,.int .i64 tm,.int .i64 td] 51));clear hall HS HX tZ;go_wp2
    go_roundg (k-(j+1))
    case measure=>omega
    case rel=>exact⟨j+1,by omega,by go_num,HA,hf⟩
  ·obtain rfl:j=k:=by omega
   obtain rfl:res=true:=by rw[MZ.out];exact all_eq_true.2 fun t ht=>decide_eq_true (hall.out t (by rw[GU.out,take_length];exact ht))
   have hcc:=hc _ hfr;obtain⟨x0,x1,x2,hr⟩:=hfr.r;have hcr:=hr.cells;have Oh:=hr.bH;clear MZ hall HT hr;go_wp2;refine bodyPost_ret (v:=.tuple #[.agg #[.bool true,.int .i64 0,.int .i64 0],.bool true]) (by simp[results,results281,go_sem,hcr]) rfl ⟨rfl,?_⟩;exact iD hfr.w (by omega) _ _ _
def qg (s cs:ByteArray):ByteArray:=⟨(Lib.trimLeftS s.data.toList cs.data.toList).toArray⟩
theorem aaY (s cs:ByteArray):(qg s cs).size<=s.size:=by
 show (Lib.trimLeftS s.data.toList cs.data.toList).toArray.size<=s.data.size;rw[size_toArray,<-Array.length_toList];exact (dropWhile_sublist _).length_le
theorem QD (s cs:ByteArray) (w:World) (hcs:cs.size<4294967281) (ha:∀(j:Nat) b,cs.data.toList[j]?=some b->b.toNat<128):
  Calls prog 259 #[.string s,.string cs] w fun e w'=>e=.returned (.string (qg s cs))/\Below w.heap.size w w':=
 Any.strings_TrimLeft_laid Tryz.lays161 (by kernel_rfl) s cs w hcs ha
theorem aaZ (s cs:ByteArray) (R:Nat) (t:TypeId) (l:List Value) (w:World) (hR:aj w R t (.string s::l)) (h63:s.size<=9223372036854775807)
  (hcs:cs.size<4294967281) (ha:∀(j:Nat) b,cs.data.toList[j]?=some b->b.toNat<128):
  Calls prog 248 #[.pointer (some ⟨R,0,none⟩),.string cs] w fun e w'=>e=.returned (.string (s.extract 0 (s.size-(qg s cs).size)))/\∃W,Below w.heap.size w W/\w'=W.setCell ⟨R,0,none⟩ (.string (qg s cs)):=by
 have HT:=zH (fun W=>QD s cs W hcs ha);have hle:=aaY s cs;generalize qg s cs=r at*;have hc0:=hR.cells;clear hcs ha;obtain⟨k,hk⟩:=zF (s.size-r.size);have hw:IntKind.i64.wrap ((s.size:Int)-(r.size:Int))=(k:Int):=by rw[IntWalk.i64_in _ (by omega)];omega
 have hks:k<=s.size:=by omega
 rw[hk];go_enter func248,ntmps248;go_wp2_with fail;refine (HT.out _).mono ?_;rintro e w1 ⟨rfl,hb1⟩;have hR1:=hR.below hb1 hR.lt;have hc:=hR1.cells;have hf:=hR1.bH;have HB1:=zH hb1;clear hb1 hR hc0 hR1;go_wp2;go_region;go_wp2;go_ret;exact⟨rfl,w1.drew,below_drewN HB1.out 1,rfl⟩
end Go.Proofs.YtjpbmbgincdjaaaGreatDoor
