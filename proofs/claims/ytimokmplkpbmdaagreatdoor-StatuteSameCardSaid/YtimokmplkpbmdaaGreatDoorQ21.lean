/- A part of the proof: Ea S4 S5 S6 S7 Gc Gd Ge Eb K2 Ec Ed Ee Ef Eg. -/
import Derived.Test.YtimokmplkpbmdaaGreatDoorQ20
set_option linter.all false
set_option maxRecDepth 100000
set_option maxHeartbeats 0
namespace Go.Proofs.YtimokmplkpbmdaaGreatDoor
open Go.RowKit
theorem QC (b:Nat) (w:World) (h0:w.cell? ⟨b,0,none⟩=some (.pointer (some ⟨b,0,none⟩))):
  Calls Tryz.prog 162 #[.pointer (some ⟨b,0,none⟩)] w fun e w'=>e=.returned (.tuple #[])/\w'=w:=by
 obtain⟨j,hj,_⟩:=Option.map_eq_some_iff.1 (show (Tryz.prog.info? 78).map (·.size)=some 2 by kernel_rfl);go_enter Tryz.func162,Tryz.ntmps162;go_wp2;rw[Lib.run_neq_ptr_same w _ Tryz.underlying75 hj];go_wp2;go_end0;exact⟨rfl,rfl⟩
theorem Zt (b:Nat) (w:World) (h0:w.cell? ⟨b,0,none⟩=some (.pointer none)) (hsh:w.shape? b=some (78,2)) (hfz:w.frozen? ⟨b,0,none⟩=false):
  Calls Tryz.prog 162 #[.pointer (some ⟨b,0,none⟩)] w fun e w'=>e=.returned (.tuple #[])/\w'=w.setCell ⟨b,0,none⟩ (.pointer (some ⟨b,0,none⟩)):=by
 obtain⟨j,hj,hjs⟩:=Option.map_eq_some_iff.1 (show (Tryz.prog.info? 78).map (·.size)=some 2 by kernel_rfl);go_enter Tryz.func162,Tryz.ntmps162;go_wp2;rw[Lib.run_to_unsafe w ⟨b,0,none⟩ Tryz.underlying75 Tryz.underlying257 hj (by rw[hjs];decide) hsh (Nat.zero_lt_succ 1)];simp only[Result.andThen]
 rw[Oper.upon_value];go_wp2;rw[run_callFunc_extern Tryz.func202 (by kernel_rfl) (by kernel_rfl) (by kernel_rfl) (e:=Extern.AbiNoEscape.same) (by kernel_rfl)];rw[Lib.run_noEscape];simp only[Result.andThen]
 rw[Oper.upon_value];go_wp2;rw[Lib.run_from_unsafe w ⟨b,0,none⟩ Tryz.underlying257 Tryz.underlying75 hj hsh (by kernel_rfl)];simp only[Result.andThen]
 rw[Oper.upon_value];go_wp2;go_end0;exact⟨rfl,rfl⟩
def uK:List PanicEntry:=[{v:=.iface 236 (.agg #[]),recovered:=false}]
theorem Zu (s p:ByteArray) (R:Nat) (t:TypeId) (l:List Value) (w:World) (hR:aj w R t (.string s::l)) (h:Lib.hasPrefix s.data.toList p.data.toList=true):
  Calls Tryz.prog 216 #[.pointer (some ⟨R,0,none⟩),.string p] w fun e w'=>e=.returned (.tuple #[])/\w'=w.setCell ⟨R,0,none⟩ (.string ⟨(Lib.trimPrefix s.data.toList p.data.toList).toArray⟩):=by
 have hc:=hR.cells;have hf:=hR.aI;clear hR;go_enter Tryz.func216,Tryz.ntmps216;go_wp2_with fail;refine (Tryz.strings_CutPrefix s p _).mono ?_;rintro e w' ⟨rfl,rfl⟩;go_wp2;go_end0;exact⟨rfl,rfl⟩
theorem acM (s p:ByteArray) (R:Nat) (t:TypeId) (l:List Value) (w:World) (hR:aj w R t (.string s::l)) (h:Lib.hasPrefix s.data.toList p.data.toList=false):
  Calls Tryz.prog 216 #[.pointer (some ⟨R,0,none⟩),.string p] w fun e w'=>e=.panicked uK/\w'=w:=by
 have hc:=hR.cells;have hf:=hR.aI;clear hR;go_enter Tryz.func216,Tryz.ntmps216;go_wp2_with fail;refine (Tryz.strings_CutPrefix s p _).mono ?_;rintro e w' ⟨rfl,rfl⟩;go_wp2;exact⟨rfl,rfl,rfl⟩
structure Sg where
 op:Int
 name:ByteArray
 ty:Ty
deriving DecidableEq
def Sg.cells (s:Sg):List Value:=[.int .i64 s.op,.string s.name,.bool s.ty.truth,.int .i64 s.ty.aN,.int .i64 s.ty.days]
def jf (l:List Sg):List Value:=l.flatMap Sg.cells
def jB (n:Nd) (s:Sg):Bool:=decide (s.op=n.op)&&(decide (s.name=n.name)&&(bH s.ty&&(decide (s.op≠24)|| !s.ty.truth)))
def dP (l:List Sg) (n:Nd):Option Ty:=(l.find? (jB n)).map Sg.ty
theorem Rd.row {α:Type} (enc:α->List Value) (m:Nat) (hm:∀a,(enc a).length=m) (h0:0<m) {w:World} {A:Option Addr} {l:List α} (h:Rd w A (l.flatMap enc)) {j:Nat} (hj:j<l.length):
  ∃b off,A=some ⟨b,off,none⟩/\b<w.heap.size/\∀i v,(enc l[j])[i]?=some v->w.cell? ⟨b,off+j*m+i,none⟩=some v:=by
 have hlen:(l.flatMap enc).length=l.length*m:=by
  clear h hj
  induction l with
  |nil=>simp
  |cons a l ih=>rw[List.flatMap_cons,List.length_append,hm,ih,List.length_cons,Nat.succ_mul];omega
 have hpos:(l.flatMap enc).length≠0:=by rw[hlen];exact Nat.ne_of_gt (Nat.mul_pos (by omega) h0)
 rcases h with h|⟨b,off,hA,hb,hc⟩
 ·rw[h] at hpos;exact absurd rfl hpos
 ·refine⟨b,off,hA,hb,fun i v hv=>?_⟩;have hi:i<m:=by rw[<-hm l[j]];exact (List.getElem?_eq_some_iff.1 hv).1
  have h1:=uf enc m hm l j i hi;rw[List.getElem?_eq_getElem hj] at h1;have h2:(l.flatMap enc)[j*m+i]?=some v:=h1.trans hv;obtain⟨h3,h4⟩:=List.getElem?_eq_some_iff.1 h2;have:=hc (j*m+i) h3;rw[h4] at this;rw[Nat.add_assoc];exact this
theorem Zv {l:List Sg} {n:Nd} (h:∀i (hi:i<l.length),jB n l[i]=false):dP l n=none:=by
 unfold dP;rw[List.find?_eq_none.2]
 ·rfl
 ·intro s hs;obtain⟨i,hi,rfl⟩:=List.getElem_of_mem hs;rw[h i hi];simp
theorem Zw {l:List Sg} {n:Nd} {j:Nat} (hj:j<l.length) (h:∀i (hi:i<j),jB n (l[i]'(by omega))=false) (hf:jB n l[j]=true):dP l n=some l[j].ty:=by
 unfold dP
 have:l.find? (jB n)=some l[j]:=by
  rw[List.find?_eq_some_iff_getElem];exact⟨hf,j,hj,rfl,fun i hi=>by rw[h i hi];rfl⟩
 rw[this];rfl
def Ag (z:Int):List PanicEntry:=[{v:=.iface 46 (.int .i64 z),recovered:=false}]
def QD (q:Option Ty) (e:Ending):Prop:=match q with
 |some t=>e=.returned t.v
 |none=>e=.panicked (Ag 12)
theorem Zx (l:List Sg) (A:Option Addr) (k c:Nat) (n:Nd) (w:World) (hL:cZ w) (hk:k=l.length) (hm:k<=maxLen) (hr:Rd w A (jf l)):
  Calls Tryz.prog 160 #[.slice A k c,.agg #[.int .i64 n.op,.bool n.num.neg,.string n.num.num,.string n.num.den,.string n.name]] w fun e w'=>QD (dP l n) e/\Below w.heap.size w w':=by
 have HNO:=zH (fun h=>Zv (l:=l) (n:=n) h);have HAT:=zH (fun j hj h hf=>Zw (l:=l) (n:=n) (j:=j) hj h hf);obtain⟨q,hq⟩:=zF (dP l n);rw[hq] at HNO HAT⊢;obtain⟨nop,⟨Fg,Fh,Fj⟩,kV⟩:=n;have TV:Hid (∀s:Sg,jB ⟨nop,⟨Fg,Fh,Fj⟩,kV⟩ s=(decide (s.op=nop)&&(decide (s.name=kV)&&(bH s.ty&&(decide (s.op≠24)|| !s.ty.truth))))):=fun s=>rfl
 generalize jB ⟨nop,⟨Fg,Fh,Fj⟩,kV⟩=fit at*;simp only
 obtain⟨W,hW⟩:=zE ((w.alloc (.cells #[.int .i64 nop,.bool Fg,.string Fh,.string Fj,.string kV] 49)).alloc (.cells #[.bool false,.int .i64 0,.int .i64 0] 34));obtain⟨B,hB⟩:=zE w.heap.size;have jF:Hid (aj W B 49 [.int .i64 nop,.bool Fg,.string Fh,.string Fj,.string kV]):=by show aj _ _ _ _;rw[hW,hB];exact (aj.new w _ _).alloc _
 have iF:Hid (aj W (B+1) 34 [.bool false,.int .i64 0,.int .i64 0]):=by
  show aj _ _ _ _;have h:=aj.new (w.alloc (.cells #[.int .i64 nop,.bool Fg,.string Fh,.string Fj,.string kV] 49)) 34 #[.bool false,.int .i64 0,.int .i64 0];rw[World.size_alloc] at h;rw[hW,hB];exact h
 have bC:Hid (Below w.heap.size w W):=by show Below _ _ _;rw[hW];exact (zB _ _).alloc (by rw[World.size_alloc];omega) _
 have iC:=zH hB;have HL:Hid (∀W,Below w.heap.size w W->cZ W):=fun W hb=>hL.below hb
 have HR:=zH hr;have jG:=zH hk;have hm2:k<=9223372036854775807:=by unfold maxLen at hm;omega
 clear hq hr hL hk hm;go_enter Tryz.func160,Tryz.ntmps160
 go_upto_region 1 with fail
 simp only[<-hW,<-hB]
 clear hW hB;go_wp2
 go_loopg [9] k (fun g iv wr=>∃j:Nat,j+g=k/\iv=.int .i64 j/\Hid (∀i (hi:i<l.length),i<j->fit l[i]=false)/\Hid (Below W.heap.size W wr))
 case atStart=>exact⟨0,by omega,rfl,(fun i hi h=>absurd h (by omega)),Below.refl _ _⟩
 case round=>
  obtain⟨j,hj,rfl,hall,hbr⟩:=hrel;by_cases hlt:j<k
  ·have hjl:j<l.length:=by rw[<-jG.out];exact hlt
   obtain⟨b,off,hA,hb,hc⟩:=Rd.row Sg.cells 5 (fun _=>rfl) (by omega) HR.out hjl;subst hA;have HAJ:=zH (HAT.out j hjl);have hfs:=TV.out l[j]
   have zT:Hid (fit l[j]=false->∀i (hi:i<l.length),i<j+1->fit l[i]=false):=fun h i hi hij=>by
    by_cases hij2:i<j
    ·exact hall.out i hi hij2
    ·obtain rfl:i=j:=by omega
     exact h
   have KW:Hid (∀i (hi:i<j),fit (l[i]'(by omega))=false):=fun i hi=>hall.out i (by omega) hi
   generalize fit l[j]=ff at*;generalize l[j]=s at*;obtain⟨dQ,iD,⟨st,sm,sd⟩⟩:=s;simp only at hfs;have sN:=ah bC.out hbr.out;have d0:=(sN.cell hb).trans (hc 0 _ rfl);have d1:=(sN.cell hb).trans (hc 1 _ rfl);have d2:=(sN.cell hb).trans (hc 2 _ rfl);have d3:=(sN.cell hb).trans (hc 3 _ rfl);have d4:=(sN.cell hb).trans (hc 4 _ rfl);simp only[Nat.add_zero] at d0;have pF:=zH hfs;clear hc hfs sN hall HAT
   go_upto_region 4 with fail
   obtain⟨W5,QE⟩:=zE (wr.alloc (.cells #[.int .i64 dQ,.string iD,.bool st,.int .i64 sm,.int .i64 sd] 102));obtain⟨N,hN⟩:=zE wr.heap.size;have QF:Hid (aj W5 B 49 [.int .i64 nop,.bool Fg,.string Fh,.string Fj,.string kV]):=by show aj _ _ _ _;rw[QE];exact (jF.out.below hbr.out jF.out.lt).alloc _
   have GI:Hid (aj W5 (B+1) 34 [.bool false,.int .i64 0,.int .i64 0]):=by show aj _ _ _ _;rw[QE];exact (iF.out.below hbr.out iF.out.lt).alloc _
   have HC2:Hid (aj W5 N 102 [.int .i64 dQ,.string iD,.bool st,.int .i64 sm,.int .i64 sd]):=by show aj _ _ _ _;rw[QE,hN];exact aj.new wr _ _
   have jA:Hid (Below W.heap.size W W5):=by show Below _ _ _;rw[QE];exact ah hbr.out (zB _ _)
   simp only[<-QE,<-hN]
   clear QE hN hbr d0 d1 d2 d3 d4
   go_cut [9,40] from 9 to 43 (fun jv qv wc=>jv=.int .i64 (j:Int)/\qv=.bool ff/\aj wc B 49 [.int .i64 nop,.bool Fg,.string Fh,.string Fj,.string kV]/\aj wc (B+1) 34 [.bool false,.int .i64 0,.int .i64 0]/\aj wc N 102 [.int .i64 dQ,.string iD,.bool st,.int .i64 sm,.int .i64 sd]/\Below W.heap.size W wc)
   case first=>
    clear HAJ zT KW HNO;have hc0:=QF.out.cells;have hc2:=HC2.out.cells;by_cases h1:dQ=nop
    ·subst h1;by_cases h2:iD=kV
     ·subst h2;have oD:=zH (fun W h=>TI ⟨st,sm,sd⟩ W h);obtain⟨rb,hrb⟩:=zF (bH ⟨st,sm,sd⟩);rw[hrb] at oD;have y5:ff=(rb&&(decide (dQ≠24)|| !st)):=by rw[pF.out,hrb,decide_eq_true rfl,decide_eq_true rfl];rfl
      clear pF hrb TV;unfold Ty.v at oD;go_wp2_with fail;refine (oD.out _ (HL.out _ (ah bC.out jA.out))).mono ?_;rintro e w6 ⟨rfl,hb6⟩;have hm0:=QF.out.below hb6 QF.out.lt;have hm1:=GI.out.below hb6 GI.out.lt;have wR:=HC2.out.below hb6 HC2.out.lt;replace jA:=zH (ah jA.out hb6);have hc0:=hm0.cells;have hc2:=wR.cells;have BZ:=zH hm0;have lH:=zH hm1;have rW:=zH wR;clear hb6 hm0 hm1 wR QF GI HC2 oD;cases rb
      ·obtain rfl:ff=false:=by rw[y5];rfl
       clear y5;go_wp2
       go_meet
       case rel=>exact⟨rfl,rfl,BZ.out,lH.out,rW.out,jA.out⟩
      ·by_cases h3:dQ=24
       ·subst h3;cases st
        ·obtain rfl:ff=true:=by rw[y5];rfl
         clear y5;go_wp2
         go_meet
         case rel=>exact⟨rfl,rfl,BZ.out,lH.out,rW.out,jA.out⟩
        ·obtain rfl:ff=false:=by rw[y5];rfl
         clear y5;go_wp2
         go_meet
         case rel=>exact⟨rfl,rfl,BZ.out,lH.out,rW.out,jA.out⟩
       ·obtain rfl:ff=true:=by rw[y5,decide_eq_true h3];rfl
        have h3b:(dQ !=24)=true:=by simp[h3]
        have h3c:(dQ==24)=false:=by simp[h3]
        clear y5;go_wp2
        go_meet
        case rel=>exact⟨rfl,rfl,BZ.out,lH.out,rW.out,jA.out⟩
     ·obtain rfl:ff=false:=by rw[pF.out,decide_eq_false h2,Bool.false_and,Bool.and_false]
      have h2b:¬(iD.toList=kV.toList):=fun h=>h2 (by rw[ByteArray.toList_eq,ByteArray.toList_eq] at h;exact ByteArray.ext (Array.toList_inj.1 h))
      have h2c:(iD.toList==kV.toList)=false:=beq_eq_false_iff_ne.2 h2b;clear pF TV;go_wp2
      go_meet
      case rel=>exact⟨rfl,rfl,QF.out,GI.out,HC2.out,jA.out⟩
    ·obtain rfl:ff=false:=by rw[pF.out,decide_eq_false h1,Bool.false_and]
     have h1b:(dQ==nop)=false:=beq_eq_false_iff_ne.2 h1;clear pF TV;go_wp2
     go_meet
     case rel=>exact⟨rfl,rfl,QF.out,GI.out,HC2.out,jA.out⟩
   case rest=>
    obtain⟨rfl,rfl,hm0,hm1,wR,hbc⟩:=hcut;cases ff
    ·have HAN:=zH (zT.out rfl);have jg:=zH hbc;clear hm0 hm1 wR hbc zT KW HAJ;go_wp2
     go_roundg (k-(j+1))
     case measure=>omega
     case rel=>exact⟨j+1,by omega,by go_num,HAN,jg⟩
    ·have HQ:=zH (HAJ.out KW.out rfl)
     have lV:Hid (∀i0 i1 i2 v0 v1 v2,Below w.heap.size w (((wc.setCell ⟨B+1,i0,none⟩ v0).setCell ⟨B+1,i1,none⟩ v1).setCell ⟨B+1,i2,none⟩ v2)):=fun i0 i1 i2 v0 v1 v2=>by
      have h:=ah bC.out hbc;have hle:w.heap.size<=B+1:=by have:=iC.out;omega
      exact ((h.setCell (p:=⟨B+1,i0,none⟩) hle v0).setCell (p:=⟨B+1,i1,none⟩) hle v1).setCell (p:=⟨B+1,i2,none⟩) hle v2
     have hc1:=hm1.cells;have hf1:=hm1.aI;have hc2:=wR.cells;have lH:=zH hm1;clear zT KW HAJ hm0 wR hbc hm1;go_wp2;refine bodyPost_ret (v:=.agg #[.bool st,.int .i64 sm,.int .i64 sd]) (by simp[results,Tryz.results160,go_sem,hc1]) rfl ?_;rw[HQ.out];exact⟨rfl,lV.out _ _ _ _ _ _⟩
  ·obtain rfl:j=k:=by omega
   have HQ:=zH (HNO.out (fun i hi=>hall.out i hi (by rw[jG.out];exact hi)));have lV:Hid (Below w.heap.size w wr):=ah bC.out hbr.out;clear hall hbr;go_wp2;rw[HQ.out];exact⟨rfl,rfl,lV.out⟩
def qc (s cs:ByteArray):ByteArray:=⟨(Lib.trimLeftS s.data.toList cs.data.toList).toArray⟩
theorem Zy (s cs:ByteArray):(qc s cs).size<=s.size:=by
 show (Lib.trimLeftS s.data.toList cs.data.toList).toArray.size<=s.data.size;rw[List.size_toArray,<-Array.length_toList];exact (List.dropWhile_sublist _).length_le
theorem Pm (s cs:ByteArray) (w:World) (hcs:cs.size<4294967281) (ha:∀(j:Nat) b,cs.data.toList[j]?=some b->b.toNat<128):
  Calls Tryz.prog 208 #[.string s,.string cs] w fun e w'=>e=.returned (.string (qc s cs))/\Below w.heap.size w w':=
 Any.strings_TrimLeft_laid Tryz.lays161 (by kernel_rfl) s cs w hcs ha
theorem Zz (s cs:ByteArray) (R:Nat) (t:TypeId) (l:List Value) (w:World) (hR:aj w R t (.string s::l)) (h63:s.size<=9223372036854775807)
  (hcs:cs.size<4294967281) (ha:∀(j:Nat) b,cs.data.toList[j]?=some b->b.toNat<128):
  Calls Tryz.prog 215 #[.pointer (some ⟨R,0,none⟩),.string cs] w fun e w'=>e=.returned (.string (s.extract 0 (s.size-(qc s cs).size)))/\∃W,Below w.heap.size w W/\w'=W.setCell ⟨R,0,none⟩ (.string (qc s cs)):=by
 have HT:=zH (fun W=>Pm s cs W hcs ha);have hle:=Zy s cs;generalize qc s cs=r at*;have hc0:=hR.cells;clear hcs ha;obtain⟨k,hk⟩:=zF (s.size-r.size);have hw:IntKind.i64.wrap ((s.size:Int)-(r.size:Int))=(k:Int):=by rw[IntWalk.i64_in _ (by omega)];omega
 have hks:k<=s.size:=by omega
 rw[hk];go_enter Tryz.func215,Tryz.ntmps215;go_wp2_with fail;refine (HT.out _).mono ?_;rintro e w1 ⟨rfl,hb1⟩;have hR1:=hR.below hb1 hR.lt;have hc:=hR1.cells;have hf:=hR1.aI;have HB1:=zH hb1;clear hb1 hR hc0 hR1;go_wp2;go_region;go_wp2;go_ret;exact⟨rfl,w1.drew,below_drewN HB1.out 1,rfl⟩
def Under (R:Nat) (w:World):Prop:=∃w0:World,Laid w0/\Below w0.heap.size w0 w/\w0.heap.size<=R
theorem Under.dG {R:Nat} {w w':World} (h:Under R w) (ho:aF R w w'):Under R w':=by
 obtain⟨w0,h1,h2,h3⟩:=h;exact⟨w0,h1,h2.trans (ho.below h3 h2.size),h3⟩
theorem Under.laid {R:Nat} {w:World} (h:Under R w):Laid w:=by
 obtain⟨w0,h1,h2,_⟩:=h;exact h1.below h2
theorem aF.fresh {G b:Nat} {w w':World} (h:aF G w w') (hb:w.heap.size<=b) (i:Nat) (u:Value):aF G w (w'.setCell ⟨b,i,none⟩ u):=
 ⟨h.os,h.tape,h.output,by simpa [World.setCell] using h.size,fun k hk hne=>(Below.heap_setCell w' _ u k (by show k≠b;omega)).trans (h.block k hk hne)⟩
theorem QG (s cs:ByteArray) (R:Nat) (t:TypeId) (l:List Value) (w:World) (hR:aj w R t (.string s::l)) (h63:s.size<=9223372036854775807)
  (hcs:cs.size<4294967281) (ha:∀(j:Nat) b,cs.data.toList[j]?=some b->b.toNat<128):
  Calls Tryz.prog 215 #[.pointer (some ⟨R,0,none⟩),.string cs] w fun e w'=>e=.returned (.string (s.extract 0 (s.size-(qc s cs).size)))/\aj w' R t (.string (qc s cs)::l)/\aF R w w':=
 (Zz s cs R t l w hR h63 hcs ha).mono (by
   rintro e w' ⟨rfl,W,hb,rfl⟩;exact⟨rfl,(hR.below hb hR.lt).set 0 _,(aF.of_below hb).set 0 _⟩)
def MO:ByteArray:=⟨#[45,47,48,49,50,51,52,53,54,55,56,57]⟩
theorem JL (s:ByteArray) (R:Nat) (t:TypeId) (l:List Value) (w:World) (hR:aj w R t (.string s::l)) (hU:Under R w) (hs:s.size<=1048576) (x:ByteArray) (hx:s.extract 0 (s.size-(qc s MO).size)=x):
  Calls Tryz.prog 219 #[.pointer (some ⟨R,0,none⟩)] w fun e w'=>(if (dU x).2 then e=.returned (dU x).1.v else e=.panicked uK)/\aj w' R t (.string (qc s MO)::l)/\aF R w w':=by
 have hxs:x.size<=1048576:=by rw[<-hx,ByteArray.size_extract];omega
 have HS:=fun (W:World) (h:aj W R t (.string s::l))=>QG s MO R t l W h (by omega) (by decide) (ascii_of_all (by decide))
 simp only[hx] at HS;have HQ:=fun (W:World) (h:Laid W)=>Gy x W h hxs
 generalize qc s MO=q at*;clear hx hxs;generalize dU x=v at*;obtain⟨⟨vn,vu,vd⟩,vb⟩:=v;unfold Ra.v at HQ⊢;simp only at HQ⊢;unfold MO at HS;have HS:=zH HS;have HQ:=zH HQ;obtain⟨W,hW⟩:=zE (w.alloc (.cells #[.bool false,.string ⟨#[]⟩,.string ⟨#[]⟩] 43));have hba:Below w.heap.size w W:=by rw[hW];exact zB _ _
 have hk0:aj W w.heap.size 43 [.bool false,.string ⟨#[]⟩,.string ⟨#[]⟩]:=by rw[hW];exact aj.new w _ _
 have hsz:W.heap.size=w.heap.size+1:=by rw[hW];exact Array.size_push _
 obtain⟨B,hB⟩:=zE w.heap.size;have HB:=zH hB;rw[<-hB] at hba hsz hk0;have hRB:R<B:=by rw[HB.out];exact hR.lt
 have hRW:=hR.below hba hRB;have hUW:Under R W:=hU.dG (aF.of_below (by rw[<-HB.out];exact hba));have HOW:Hid (aF R w W):=aF.of_below (by rw[<-HB.out];exact hba);clear hR hU hba;cases vb
 all_goals
  simp only[if_true,if_false,Bool.false_eq_true]
  go_enter Tryz.func219,Tryz.ntmps219;go_wp2_with fail;simp only[<-hW,<-hB]
  clear hW hB;refine (HS.out _ hRW).mono ?_;rintro e w1 ⟨rfl,hk1,ho1⟩;have hr1:=ho1.blk hk0 (by omega);have hl1:=(hUW.dG ho1).laid;have y7:=zH (HOW.out.trans ho1);clear hk0 hRW hUW HOW ho1;go_wp2_with fail;refine (HQ.out _ hl1).mono ?_;rintro e w2 ⟨rfl,hb2⟩;have hr2:=(hr1.below hb2 hr1.lt).alloc (.cells #[.bool vn,.string vu,.string vd] 43);have hk2:=(hk1.below hb2 hk1.lt).alloc (.cells #[.bool vn,.string vu,.string vd] 43);have rV:Hid (aF R w (w2.alloc (.cells #[.bool vn,.string vu,.string vd] 43))):=(y7.out.trans (aF.of_below hb2)).trans (aF.of_below (zB _ _));have jQ:=zH hk2;have hc:=hr2.cells;have hf:=hr2.aI;clear hl1 hr1 hk1 y7 hb2 hr2 hk2;go_wp2
 ·exact⟨rfl,rfl,jQ.out,rV.out⟩
 ·refine bodyPost_ret (v:=.agg #[.bool vn,.string vu,.string vd]) (by simp[results,Tryz.results219,go_sem,hc]) rfl ⟨rfl,?_,?_⟩
  ·exact ((jQ.out.other (p:=⟨B,0,none⟩) (by show R≠B;omega) _).other (p:=⟨B,1,none⟩) (by show R≠B;omega) _).other (p:=⟨B,2,none⟩) (by show R≠B;omega) _
  ·have h:=HB.out;exact ((rV.out.fresh (by omega) 0 _).fresh (by omega) 1 _).fresh (by omega) 2 _
def uM (q:ByteArray) (x:Sh):Bool:=decide ((⟨x.word.toArray⟩:ByteArray)=q)&& !decide (q=⟨#[]⟩)
theorem TW (x:Sh) (q:ByteArray) (b:Nat) (t:TypeId) (w:World) (hb:aj w b t [.string q]):
  Calls Tryz.prog 218 #[x.v,.pointer (some ⟨b,0,none⟩)] w fun e w'=>e=.returned (.bool (uM q x))/\Below w.heap.size w w':=by
 unfold uM Sh.v;obtain⟨wd,ops,lit,dF,dJ⟩:=x;simp only
 generalize (⟨wd.toArray⟩:ByteArray)=d;obtain⟨W,hW⟩:=zE (w.alloc (.cells #[.string d,.int .i64 (ops:Int),.bool lit,.bool dF,.bool dJ] 168));have bC:Hid (Below w.heap.size w W):=by show Below _ _ _;rw[hW];exact zB _ _
 have hk0:aj W w.heap.size 168 [.string d,.int .i64 (ops:Int),.bool lit,.bool dF,.bool dJ]:=by rw[hW];exact aj.new w _ _
 have hc0:=hk0.cells;have hc1:=(hb.below bC.out hb.lt).cells;clear hk0 hb;rw[hW] at hc0 hc1 bC;clear hW W;by_cases h1:d=q
 ·subst h1;by_cases h2:d=⟨#[]⟩
  ·subst h2;rw[decide_eq_true rfl];go_enter Tryz.func218,Tryz.ntmps218;go_wp2;go_ret;exact⟨rfl,bC.out⟩
  ·have h3:(d.toList==(⟨#[]⟩:ByteArray).toList)=false:=beq_eq_false_iff_ne.2 (fun h=>h2 (toList_inj h));have h4:=h3;rw[show (⟨#[]⟩:ByteArray).toList=[] by rw[ByteArray.toList_eq]] at h4;rw[decide_eq_true rfl,decide_eq_false h2];go_enter Tryz.func218,Tryz.ntmps218;go_wp2;go_ret;exact⟨rfl,bC.out⟩
 ·have h3:(d.toList==q.toList)=false:=beq_eq_false_iff_ne.2 (fun h=>h1 (toList_inj h));rw[decide_eq_false h1];go_enter Tryz.func218,Tryz.ntmps218;go_wp2;go_ret;exact⟨rfl,bC.out⟩
instance abA:Inhabited Sh:=⟨vF⟩
theorem MP (q:ByteArray) (b:Nat) (t:TypeId) (w:World) (hb:aj w b t [.string q]):
  PredBelow Tryz.prog 218 #[.pointer (some ⟨b,0,none⟩)] (fun x=>.agg (Sh.cells x).toArray) (uM q) w:=fun W x hW=>by
 refine (TW x q b t W (hb.below hW hb.lt)).mono ?_;rintro e w' ⟨rfl,h⟩;exact⟨rfl,ah hW h⟩
def placeOf (q:ByteArray):Int:=Lib.idxBy (fun _ y=>uM q y) iQ default
theorem TY (q:ByteArray) (b:Nat) (t:TypeId) (g off c:Nat) (w:World) (hb:aj w b t [.string q]) (hg:g<w.heap.size)
  (hc:∀j,j<iQ.length->∀i v,(Sh.cells iQ[j]!)[i]?=some v->w.cell? ⟨g,off+j*5+i,none⟩=some v):
  Calls Tryz.prog 217 #[.slice (some ⟨g,off,none⟩) iQ.length c,.func (.func 218) #[] #[.pointer (some ⟨b,0,none⟩)]] w fun e w'=>e=.returned (.int .i64 (placeOf q))/\Below w.heap.size w w':=by
 have eg:∀args w,(callFunc 218 args).run Tryz.prog w=.ok (.enter 218 args) w:=enters_of Tryz.func218 (by kernel_rfl) rfl
 have h:=AnyQ.slices_IndexFunc Tryz.idxN 5 Tryz.isAgg168 Tryz.sizeOf168 Sh.cells (fun _=>rfl) (uM q) 218 #[.pointer (some ⟨b,0,none⟩)] eg g off iQ.length c iQ w
  (MP q b t w hb) (Nat.le_refl _) (by decide) hg hc
 rw[List.take_length] at h;exact h
end Go.Proofs.YtimokmplkpbmdaaGreatDoor
