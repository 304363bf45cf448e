/- A part of the proof: K2 W2 W3 W4 W5 W6. -/
import Derived.Deep.Cut
import Derived.Deep.CutRange
import Derived.Test.YtmmbjngbeiokeaaGreatDoorF01
import Derived.Test.YtmmbjngbeiokeaaGreatDoorF16
import Derived.Test.YtmmbjngbeiokeaaGreatDoorF18
import Derived.Test.YtmmbjngbeiokeaaGreatDoorF19
import Derived.Test.YtmmbjngbeiokeaaGreatDoorF22
set_option linter.unusedVariables false
set_option linter.unusedSimpArgs false
set_option maxRecDepth 100000
set_option maxHeartbeats 40000000
namespace Go.Proofs.YtmmbjngbeiokeaaGreatDoor
open Go.RowKit
structure Sg where
 op:Int
 name:ByteArray
 ty:Ty
deriving DecidableEq
def Sg.cells (s:Sg):List Value:=[.int .i64 s.op,.string s.name,.bool s.ty.truth,.int .i64 s.ty.money,.int .i64 s.ty.days]
def sgs (l:List Sg):List Value:=l.flatMap Sg.cells
def sigFit (n:Nd) (s:Sg):Bool:=decide (s.op=n.op)&&(decide (s.name=n.name)&&(rightB s.ty&&(decide (s.op≠24)|| !s.ty.truth)))
def sigOf (l:List Sg) (n:Nd):Option Ty:=(l.find? (sigFit n)).map Sg.ty
theorem Rd.row {α:Type} (enc:α→List Value) (m:Nat) (hm:∀a,(enc a).length=m) (h0:0<m) {w:World} {A:Option Addr} {l:List α} (h:Rd w A (l.flatMap enc)) {j:Nat} (hj:j<l.length):
  ∃b off,A=some ⟨b,off,none⟩∧b<w.heap.size∧∀i v,(enc l[j])[i]?=some v→w.cell? ⟨b,off+j*m+i,none⟩=some v:=by
 have hlen:(l.flatMap enc).length=l.length*m:=by
  clear h hj
  induction l with
  |nil=>simp
  |cons a l ih=>rw[List.flatMap_cons,List.length_append,hm,ih,List.length_cons,Nat.succ_mul];omega
 have hpos:(l.flatMap enc).length≠0:=by rw[hlen];exact Nat.ne_of_gt (Nat.mul_pos (by omega) h0)
 rcases h with h|⟨b,off,hA,hb,hc⟩
 ·rw[h] at hpos;exact absurd rfl hpos
 ·refine⟨b,off,hA,hb,fun i v hv=>?_⟩;have hi:i<m:=by rw[←hm l[j]];exact (List.getElem?_eq_some_iff.1 hv).1
  have h1:=flatMap_get enc m hm l j i hi;rw[List.getElem?_eq_getElem hj] at h1;have h2:(l.flatMap enc)[j*m+i]?=some v:=h1.trans hv;obtain⟨h3,h4⟩:=List.getElem?_eq_some_iff.1 h2;have:=hc (j*m+i) h3;rw[h4] at this;rw[Nat.add_assoc];exact this
theorem sigOf_no {l:List Sg} {n:Nd} (h:∀i (hi:i<l.length),sigFit n l[i]=false):sigOf l n=none:=by
 unfold sigOf;rw[List.find?_eq_none.2]
 ·rfl
 ·intro s hs;obtain⟨i,hi,rfl⟩:=List.getElem_of_mem hs;rw[h i hi];simp
theorem sigOf_at {l:List Sg} {n:Nd} {j:Nat} (hj:j<l.length) (h:∀i (hi:i<j),sigFit n (l[i]'(by omega))=false) (hf:sigFit n l[j]=true):sigOf l n=some l[j].ty:=by
 unfold sigOf
 have:l.find? (sigFit n)=some l[j]:=by
  rw[List.find?_eq_some_iff_getElem];exact⟨hf,j,hj,rfl,fun i hi=>by rw[h i hi];rfl⟩
 rw[this];rfl
def errPanic (z:Int):List PanicEntry:=[{v:=.iface 44 (.int .i64 z),recovered:=false}]
def SigPost (q:Option Ty) (e:Ending):Prop:=match q with
 |some t=>e=.returned t.v
 |none=>e=.panicked (errPanic 12)
theorem kSig_any (l:List Sg) (A:Option Addr) (k c:Nat) (n:Nd) (w:World) (hL:LaidK w) (hk:k=l.length) (hm:k≤maxLen) (hr:Rd w A (sgs l)):
  Calls Tryz.prog 147 #[.slice A k c,.agg #[.int .i64 n.op,.bool n.num.neg,.string n.num.num,.string n.num.den,.string n.name]] w fun e w'=>SigPost (sigOf l n) e∧Below w.heap.size w w':=by
 have HNO:=zH (fun h=>sigOf_no (l:=l) (n:=n) h);have HAT:=zH (fun j hj h hf=>sigOf_at (l:=l) (n:=n) (j:=j) hj h hf);obtain⟨q,hq⟩:=zF (sigOf l n);rw[hq] at HNO HAT⊢;obtain⟨nop,⟨nneg,nnum,nden⟩,nnm⟩:=n;have HFIT:Hid (∀s:Sg,sigFit ⟨nop,⟨nneg,nnum,nden⟩,nnm⟩ s=(decide (s.op=nop)&&(decide (s.name=nnm)&&(rightB s.ty&&(decide (s.op≠24)|| !s.ty.truth))))):=fun s=>rfl
 generalize sigFit ⟨nop,⟨nneg,nnum,nden⟩,nnm⟩=fit at*;simp only
 obtain⟨W,hW⟩:=zE ((w.alloc (.cells #[.int .i64 nop,.bool nneg,.string nnum,.string nden,.string nnm] 87)).alloc (.cells #[.bool false,.int .i64 0,.int .i64 0] 35));obtain⟨B,hB⟩:=zE w.heap.size;have HK0:Hid (Blk W B 87 [.int .i64 nop,.bool nneg,.string nnum,.string nden,.string nnm]):=by show Blk _ _ _ _;rw[hW,hB];exact (Blk.new w _ _).alloc _
 have HK1:Hid (Blk W (B+1) 35 [.bool false,.int .i64 0,.int .i64 0]):=by
  show Blk _ _ _ _;have h:=Blk.new (w.alloc (.cells #[.int .i64 nop,.bool nneg,.string nnum,.string nden,.string nnm] 87)) 35 #[.bool false,.int .i64 0,.int .i64 0];rw[World.size_alloc] at h;rw[hW,hB];exact h
 have HBW:Hid (Below w.heap.size w W):=by show Below _ _ _;rw[hW];exact (zB _ _).alloc (by rw[World.size_alloc];omega) _
 have HBB:=zH hB;have HL:Hid (∀W,Below w.heap.size w W→LaidK W):=fun W hb=>hL.below hb
 have HR:=zH hr;have HKL:=zH hk;have hm2:k≤9223372036854775807:=by unfold maxLen at hm;omega
 clear hq hr hL hk hm;go_enter Tryz.func147,Tryz.ntmps147
 go_upto_region 1 with fail
 simp only[←hW,←hB]
 clear hW hB;go_wp2
 go_loopg [9] k (fun g iv wr=>∃j:Nat,j+g=k∧iv=.int .i64 j∧Hid (∀i (hi:i<l.length),i<j→fit l[i]=false)∧Hid (Below W.heap.size W wr))
 case atStart=>exact⟨0,by omega,rfl,(fun i hi h=>absurd h (by omega)),Below.refl _ _⟩
 case round=>
  obtain⟨j,hj,rfl,hall,hbr⟩:=hrel;by_cases hlt:j<k
  ·have hjl:j<l.length:=by rw[←HKL.out];exact hlt
   obtain⟨b,off,hA,hb,hc⟩:=Rd.row Sg.cells 5 (fun _=>rfl) (by omega) HR.out hjl;subst hA;have HAJ:=zH (HAT.out j hjl);have hfs:=HFIT.out l[j]
   have HALL:Hid (fit l[j]=false→∀i (hi:i<l.length),i<j+1→fit l[i]=false):=fun h i hi hij=>by
    by_cases hij2:i<j
    ·exact hall.out i hi hij2
    ·obtain rfl:i=j:=by omega
     exact h
   have HALL0:Hid (∀i (hi:i<j),fit (l[i]'(by omega))=false):=fun i hi=>hall.out i (by omega) hi
   generalize fit l[j]=ff at*;generalize l[j]=s at*;obtain⟨sop,snm,⟨st,sm,sd⟩⟩:=s;simp only at hfs;have hbr0:=bstep HBW.out hbr.out;have d0:=(hbr0.cell hb).trans (hc 0 _ rfl);have d1:=(hbr0.cell hb).trans (hc 1 _ rfl);have d2:=(hbr0.cell hb).trans (hc 2 _ rfl);have d3:=(hbr0.cell hb).trans (hc 3 _ rfl);have d4:=(hbr0.cell hb).trans (hc 4 _ rfl);simp only[Nat.add_zero] at d0;have HFS:=zH hfs;clear hc hfs hbr0 hall HAT
   go_upto_region 4 with fail
   obtain⟨W5,hW5⟩:=zE (wr.alloc (.cells #[.int .i64 sop,.string snm,.bool st,.int .i64 sm,.int .i64 sd] 75));obtain⟨N,hN⟩:=zE wr.heap.size;have HC0:Hid (Blk W5 B 87 [.int .i64 nop,.bool nneg,.string nnum,.string nden,.string nnm]):=by show Blk _ _ _ _;rw[hW5];exact (HK0.out.below hbr.out HK0.out.lt).alloc _
   have HC1:Hid (Blk W5 (B+1) 35 [.bool false,.int .i64 0,.int .i64 0]):=by show Blk _ _ _ _;rw[hW5];exact (HK1.out.below hbr.out HK1.out.lt).alloc _
   have HC2:Hid (Blk W5 N 75 [.int .i64 sop,.string snm,.bool st,.int .i64 sm,.int .i64 sd]):=by show Blk _ _ _ _;rw[hW5,hN];exact Blk.new wr _ _
   have HBR:Hid (Below W.heap.size W W5):=by show Below _ _ _;rw[hW5];exact bstep hbr.out (zB _ _)
   simp only[←hW5,←hN]
   clear hW5 hN hbr d0 d1 d2 d3 d4
   go_cut [9,40] from 9 to 43 (fun jv qv wc=>jv=.int .i64 (j:Int)∧qv=.bool ff∧Blk wc B 87 [.int .i64 nop,.bool nneg,.string nnum,.string nden,.string nnm]∧Blk wc (B+1) 35 [.bool false,.int .i64 0,.int .i64 0]∧Blk wc N 75 [.int .i64 sop,.string snm,.bool st,.int .i64 sm,.int .i64 sd]∧Below W.heap.size W wc)
   case first=>
    clear HAJ HALL HALL0 HNO;have hc0:=HC0.out.cells;have hc2:=HC2.out.cells;by_cases h1:sop=nop
    ·subst h1;by_cases h2:snm=nnm
     ·subst h2;have HRT:=zH (fun W h=>kRight_any ⟨st,sm,sd⟩ W h);obtain⟨rb,hrb⟩:=zF (rightB ⟨st,sm,sd⟩);rw[hrb] at HRT;have hff:ff=(rb&&(decide (sop≠24)|| !st)):=by rw[HFS.out,hrb,decide_eq_true rfl,decide_eq_true rfl];rfl
      clear HFS hrb HFIT;unfold Ty.v at HRT;go_wp2_with fail;refine (HRT.out _ (HL.out _ (bstep HBW.out HBR.out))).mono ?_;rintro e w6 ⟨rfl,hb6⟩;have hm0:=HC0.out.below hb6 HC0.out.lt;have hm1:=HC1.out.below hb6 HC1.out.lt;have hm2':=HC2.out.below hb6 HC2.out.lt;replace HBR:=zH (bstep HBR.out hb6);have hc0:=hm0.cells;have hc2:=hm2'.cells;have HM0:=zH hm0;have HM1:=zH hm1;have HM2:=zH hm2';clear hb6 hm0 hm1 hm2' HC0 HC1 HC2 HRT;cases rb
      ·obtain rfl:ff=false:=by rw[hff];rfl
       clear hff;go_wp2
       go_meet
       case rel=>exact⟨rfl,rfl,HM0.out,HM1.out,HM2.out,HBR.out⟩
      ·by_cases h3:sop=24
       ·subst h3;cases st
        ·obtain rfl:ff=true:=by rw[hff];rfl
         clear hff;go_wp2
         go_meet
         case rel=>exact⟨rfl,rfl,HM0.out,HM1.out,HM2.out,HBR.out⟩
        ·obtain rfl:ff=false:=by rw[hff];rfl
         clear hff;go_wp2
         go_meet
         case rel=>exact⟨rfl,rfl,HM0.out,HM1.out,HM2.out,HBR.out⟩
       ·obtain rfl:ff=true:=by rw[hff,decide_eq_true h3];rfl
        have h3b:(sop !=24)=true:=by simp[h3]
        have h3c:(sop==24)=false:=by simp[h3]
        clear hff;go_wp2
        go_meet
        case rel=>exact⟨rfl,rfl,HM0.out,HM1.out,HM2.out,HBR.out⟩
     ·obtain rfl:ff=false:=by rw[HFS.out,decide_eq_false h2,Bool.false_and,Bool.and_false]
      have h2b:¬(snm.toList=nnm.toList):=fun h=>h2 (by rw[ByteArray.toList_eq,ByteArray.toList_eq] at h;exact ByteArray.ext (Array.toList_inj.1 h))
      have h2c:(snm.toList==nnm.toList)=false:=beq_eq_false_iff_ne.2 h2b;clear HFS HFIT;go_wp2
      go_meet
      case rel=>exact⟨rfl,rfl,HC0.out,HC1.out,HC2.out,HBR.out⟩
    ·obtain rfl:ff=false:=by rw[HFS.out,decide_eq_false h1,Bool.false_and]
     have h1b:(sop==nop)=false:=beq_eq_false_iff_ne.2 h1;clear HFS HFIT;go_wp2
     go_meet
     case rel=>exact⟨rfl,rfl,HC0.out,HC1.out,HC2.out,HBR.out⟩
   case rest=>
    obtain⟨rfl,rfl,hm0,hm1,hm2',hbc⟩:=hcut;cases ff
    ·have HAN:=zH (HALL.out rfl);have HBC:=zH hbc;clear hm0 hm1 hm2' hbc HALL HALL0 HAJ;go_wp2
     go_roundg (k-(j+1))
     case measure=>omega
     case rel=>exact⟨j+1,by omega,by go_num,HAN,HBC⟩
    ·have HQ:=zH (HAJ.out HALL0.out rfl)
     have HBE:Hid (∀i0 i1 i2 v0 v1 v2,Below w.heap.size w (((wc.setCell ⟨B+1,i0,none⟩ v0).setCell ⟨B+1,i1,none⟩ v1).setCell ⟨B+1,i2,none⟩ v2)):=fun i0 i1 i2 v0 v1 v2=>by
      have h:=bstep HBW.out hbc;have hle:w.heap.size≤B+1:=by have:=HBB.out;omega
      exact ((h.setCell (p:=⟨B+1,i0,none⟩) hle v0).setCell (p:=⟨B+1,i1,none⟩) hle v1).setCell (p:=⟨B+1,i2,none⟩) hle v2
     have hc1:=hm1.cells;have hf1:=hm1.froz;have hc2:=hm2'.cells;have HM1:=zH hm1;clear HALL HALL0 HAJ hm0 hm2' hbc hm1;go_wp2;refine bodyPost_ret (v:=.agg #[.bool st,.int .i64 sm,.int .i64 sd]) (by simp[results,Tryz.results147,go_sem,hc1]) rfl ?_;rw[HQ.out];exact⟨rfl,HBE.out _ _ _ _ _ _⟩
  ·obtain rfl:j=k:=by omega
   have HQ:=zH (HNO.out (fun i hi=>hall.out i hi (by rw[HKL.out];exact hi)));have HBE:Hid (Below w.heap.size w wr):=bstep HBW.out hbr.out;clear hall hbr;go_wp2;rw[HQ.out];exact⟨rfl,rfl,HBE.out⟩
theorem cell_other4 {b C:Nat} (w:World) (x y z:Value) (h:b≠C) (i:Nat):(((w.setCell ⟨C,0,none⟩ x).setCell ⟨C,1,none⟩ y).setCell ⟨C,2,none⟩ z).cell? ⟨b,i,none⟩=w.cell? ⟨b,i,none⟩:=
 World.cell?_of_block (((Below.heap_setCell _ ⟨C,2,none⟩ z b h).trans (Below.heap_setCell _ ⟨C,1,none⟩ y b h)).trans (Below.heap_setCell _ ⟨C,0,none⟩ x b h))
theorem wquo_yes (a b va vb r:Ra) (M1 M2:ByteArray) (w:World)
  (HV1:Hid (∀W,Calls Tryz.prog 119 #[a.v] W fun e w'=>e=.returned va.v∧Below W.heap.size W w'))
  (HV2:Hid (∀W,Calls Tryz.prog 119 #[b.v] W fun e w'=>e=.returned vb.v∧Below W.heap.size W w'))
  (e1:vb.num.toList.isEmpty=false)
  (HM1:Hid (∀W,Calls Tryz.prog 121 #[.string va.num,.string vb.den] W fun e w'=>e=.returned (.string M1)∧Below W.heap.size W w'))
  (HM2:Hid (∀W,Calls Tryz.prog 121 #[.string va.den,.string vb.num] W fun e w'=>e=.returned (.string M2)∧Below W.heap.size W w'))
  (HLW:Hid (∀W,Calls Tryz.prog 120 #[.bool (va.neg !=vb.neg),.string M1,.string M2] W fun e w'=>e=.returned r.v∧Below W.heap.size W w')):
  Calls Tryz.prog 83 #[a.v,b.v] w fun e w'=>e=.returned (.tuple #[r.v,.bool true])∧Below w.heap.size w w':=by
 obtain⟨an,au,ad⟩:=a;obtain⟨bn,bu,bd⟩:=b;obtain⟨vn,vu,vd⟩:=va;obtain⟨xn,xu,xd⟩:=vb;obtain⟨rn,ru,rd⟩:=r;unfold Ra.v at*;simp only at e1 HM1 HM2 HLW;obtain⟨W,hW⟩:=zE (((w.alloc (.cells #[.bool an,.string au,.string ad] 39)).alloc (.cells #[.bool bn,.string bu,.string bd] 39)).alloc (.cells #[.bool false,.string ⟨#[]⟩,.string ⟨#[]⟩] 39));have htwo:=Three.new w 39 39 39 #[.bool an,.string au,.string ad] #[.bool bn,.string bu,.string bd] #[.bool false,.string ⟨#[]⟩,.string ⟨#[]⟩];rw[←hW] at htwo;obtain⟨hk0,hk1,hk2,hba,hsz⟩:=htwo;obtain⟨B,hB⟩:=zE w.heap.size;have HB:=zH hB;rw[←hB] at hba hsz hk0 hk1 hk2;have hc0:=hk0.cells;go_enter Tryz.func83,Tryz.ntmps83;go_wp2_with fail;simp only[←hW,←hB]
 clear hW hB;refine (HV1.out _).mono ?_;rintro e w1 ⟨rfl,hb1⟩;have ha1:=hk0.below hb1 hk0.lt;have hx1:=hk1.below hb1 hk1.lt;have hr1:=hk2.below hb1 hk2.lt;have hB1:Below B w w1:=hba.trans (hb1.mono (by omega));have hsz1:B+3≤w1.heap.size:=by have:=hb1.size;omega
 have hc1:=ha1.cells;have hf1:=ha1.froz;have hd1:=hx1.cells;have ha2:=((ha1.set 0 (.bool vn)).set 1 (.string vu)).set 2 (.string vd);have hx2:=((hx1.other (p:=⟨B,0,none⟩) (by show B+1≠B;omega) (.bool vn)).other (p:=⟨B,1,none⟩) (by show B+1≠B;omega) (.string vu)).other (p:=⟨B,2,none⟩) (by show B+1≠B;omega) (.string vd);have hr2:=((hr1.other (p:=⟨B,0,none⟩) (by show B+2≠B;omega) (.bool vn)).other (p:=⟨B,1,none⟩) (by show B+2≠B;omega) (.string vu)).other (p:=⟨B,2,none⟩) (by show B+2≠B;omega) (.string vd);have hB2:=below_set3 hB1 (.bool vn) (.string vu) (.string vd);have hz2:B+3≤(((w1.setCell ⟨B,0,none⟩ (.bool vn)).setCell ⟨B,1,none⟩ (.string vu)).setCell ⟨B,2,none⟩ (.string vd)).heap.size:=by simp only[World.size_setCell];exact hsz1
 clear hc0 hk0 hk1 hk2 hba hb1;obtain⟨w2,hw2⟩:∃x,x=(((w1.setCell ⟨B,0,none⟩ (.bool vn)).setCell ⟨B,1,none⟩ (.string vu)).setCell ⟨B,2,none⟩ (.string vd)):=⟨_,rfl⟩
 rw[←hw2] at ha2 hx2 hr2 hB2 hz2;have hd2:=hx2.cells;go_wp2_with fail;simp only[←hw2]
 clear hw2 hc1 hf1 hd1 ha1 hx1 hr1 hB1;refine (HV2.out _).mono ?_;rintro e w3 ⟨rfl,hb3⟩;have ha3:=ha2.below hb3 ha2.lt;have hx3:=hx2.below hb3 hx2.lt;have hr3:=hr2.below hb3 hr2.lt;have hB3:Below B w w3:=hB2.trans (hb3.mono (by omega));have hz3:B+3≤w3.heap.size:=by have:=hb3.size;omega
 have hc3:=hx3.cells;have hf3:=hx3.froz;have ha4:=((ha3.other (p:=⟨B+1,0,none⟩) (by show B≠B+1;omega) (.bool xn)).other (p:=⟨B+1,1,none⟩) (by show B≠B+1;omega) (.string xu)).other (p:=⟨B+1,2,none⟩) (by show B≠B+1;omega) (.string xd);have hr4:=((hr3.other (p:=⟨B+1,0,none⟩) (by show B+2≠B+1;omega) (.bool xn)).other (p:=⟨B+1,1,none⟩) (by show B+2≠B+1;omega) (.string xu)).other (p:=⟨B+1,2,none⟩) (by show B+2≠B+1;omega) (.string xd);have hx4:=((hx3.set 0 (.bool xn)).set 1 (.string xu)).set 2 (.string xd);have hB4:=below_at hB3 (Nat.le_succ B) (.bool xn) (.string xu) (.string xd);have hz4:B+3≤(((w3.setCell ⟨B+1,0,none⟩ (.bool xn)).setCell ⟨B+1,1,none⟩ (.string xu)).setCell ⟨B+1,2,none⟩ (.string xd)).heap.size:=by simp only[World.size_setCell];exact hz3
 have hd4:=hx4.cells;have hv4:=ha4.cells;simp only[List.set_cons_zero,List.set_cons_succ] at hd4 hv4 ha4 hx4;clear hb3 hd2;obtain⟨w4,hw4⟩:∃x,x=(((w3.setCell ⟨B+1,0,none⟩ (.bool xn)).setCell ⟨B+1,1,none⟩ (.string xu)).setCell ⟨B+1,2,none⟩ (.string xd)):=⟨_,rfl⟩
 rw[←hw4] at ha4 hx4 hr4 hB4 hz4 hd4 hv4
 have HK:Hid (∀w' w1:World,((∀i,w'.cell? ⟨B,i,none⟩=([.bool vn,.string vu,.string vd]:List Value)[i]?)∧(∀i,w'.cell? ⟨B+1,i,none⟩=([.bool xn,.string xu,.string xd]:List Value)[i]?)∧(∃c0 c1 c2,Blk w' (B+2) 39 [c0,c1,c2])∧B+1<w'.heap.size∧Below B w w')→Below w'.heap.size w' w1→((∀i,w1.cell? ⟨B,i,none⟩=([.bool vn,.string vu,.string vd]:List Value)[i]?)∧(∀i,w1.cell? ⟨B+1,i,none⟩=([.bool xn,.string xu,.string xd]:List Value)[i]?)∧(∃c0 c1 c2,Blk w1 (B+2) 39 [c0,c1,c2])∧B+1<w1.heap.size∧Below B w w1)):=by
  rintro w' w1 ⟨h0,h1,h2,h3,h4⟩ hb1;exact⟨fun i=>(hb1.cell (by show B<_;omega)).trans (h0 i),fun i=>(hb1.cell h3).trans (h1 i),(by obtain⟨c0,c1,c2,h2⟩:=h2;exact⟨c0,c1,c2,h2.below hb1 h2.lt⟩),Nat.lt_of_lt_of_le h3 hb1.size,h4.trans (hb1.mono (by omega))⟩
 have HS:Hid ((∀i,w4.drew.cell? ⟨B,i,none⟩=([.bool vn,.string vu,.string vd]:List Value)[i]?)∧(∀i,w4.drew.cell? ⟨B+1,i,none⟩=([.bool xn,.string xu,.string xd]:List Value)[i]?)∧(∃c0 c1 c2,Blk w4.drew (B+2) 39 [c0,c1,c2])∧B+1<w4.drew.heap.size∧Below B w w4.drew):=⟨hv4,hd4,⟨_,_,_,hr4⟩,by show B+1<w4.heap.size;omega,below_drewN hB4 1⟩
 clear ha2 hx2 hr2 hB2 hz2 ha3 hx3 hr3 hB3 hz3 hr4 hB4;go_wp2_with fail;simp only[←hw4]
 clear hw4 hc3 hf3 ha4 hx4;go_wp2_with fail;refine wp_region_noPanic ?_;refine wp_region_held_drew (S:=fun w'=>(∀i,w'.cell? ⟨B,i,none⟩=([.bool vn,.string vu,.string vd]:List Value)[i]?)∧(∀i,w'.cell? ⟨B+1,i,none⟩=([.bool xn,.string xu,.string xd]:List Value)[i]?)∧(∃c0 c1 c2,Blk w' (B+2) 39 [c0,c1,c2])∧B+1<w'.heap.size∧Below B w w') (by kernel_rfl) HS.out (fun hHeld=>?_);refine tkZ 0 ?_;refine tkZ 1 ?_;refine tkZ 2 ?_;refine tkZ 3 ?_;refine tkZ 4 ?_;refine tkZ 5 ?_;refine tkZ 6 ?_;refine tkZ 7 ?_;refine tkZ 8 ?_;refine tkZ 10 ?_;refine tkZ 11 ?_;refine tkZ 12 ?_;refine tkZ 13 ?_;refine tkR 9 fun K hK=>?_
 go_simp;refine (HM1.out _).mono ?_;rintro e w1 ⟨rfl,hb1⟩;go_wp2_with fail;refine tkK hK (HK.out _ _ (by assumption) hb1) fun hHeld=>?_
 clear hK K;refine tkR 14 fun K hK=>?_
 go_simp;refine (HM2.out _).mono ?_;rintro e w1 ⟨rfl,hb1⟩;go_wp2_with fail;refine tkK hK (HK.out _ _ (by assumption) hb1) fun hHeld=>?_
 clear hK K;refine tkR 15 fun K hK=>?_
 go_simp;refine (HLW.out _).mono ?_;rintro e w1 ⟨rfl,hb1⟩;go_wp2_with fail;refine tkK hK (HK.out _ _ (by assumption) hb1) fun hHeld=>?_
 clear hK K;obtain⟨q0,q1,⟨c0,c1,c2,q2⟩,q3,q4⟩:=hHeld;have hr9:=q2.cells;have hf9:=q2.froz;refine tkR 16 fun K hK=>?_
 go_simp;go_wp2_with fail;refine hK.out _ _ ?_ (fun _=>?_)
 ·have x2:=((q2.set 0 (.bool rn)).set 1 (.string ru)).set 2 (.string rd);refine⟨fun i=>?_,fun i=>?_,⟨_,_,_,x2⟩,?_,below_at q4 (by omega) _ _ _⟩
  ·exact (cell_other4 _ _ _ _ (by omega) i).trans (q0 i)
  ·exact (cell_other4 _ _ _ _ (by omega) i).trans (q1 i)
  ·simp only[World.size_setCell];exact q3
 clear hK K
 try simp only[Act.put,tk1,tk2,tk3,tk4,tk5,tk6]
 refine tkZ 17 ?_;refine wpAnyH_done (by kernel_rfl) ?_ _;refine NoPanic.normal ?_;have HB9:=zH q4;clear q0 q1 q3 q4 HK HS;go_wp2;refine bodyPost_ret (v:=.tuple #[.agg #[.bool rn,.string ru,.string rd],.bool true]) (by simp[results,Tryz.results83,go_sem,hr9]) rfl ⟨rfl,?_⟩;rw[←HB.out];exact below_at HB9.out (by omega) _ _ _
theorem wquo_no (a b va vb:Ra) (w:World)
  (HV1:Hid (∀W,Calls Tryz.prog 119 #[a.v] W fun e w'=>e=.returned va.v∧Below W.heap.size W w'))
  (HV2:Hid (∀W,Calls Tryz.prog 119 #[b.v] W fun e w'=>e=.returned vb.v∧Below W.heap.size W w'))
  (e1:vb.num.toList.isEmpty=true):
  Calls Tryz.prog 83 #[a.v,b.v] w fun e w'=>e=.returned (.tuple #[(⟨false,⟨#[]⟩,⟨#[]⟩⟩:Ra).v,.bool false])∧Below w.heap.size w w':=by
 obtain⟨an,au,ad⟩:=a;obtain⟨bn,bu,bd⟩:=b;obtain⟨vn,vu,vd⟩:=va;obtain⟨xn,xu,xd⟩:=vb;unfold Ra.v at*;simp only at e1;obtain⟨W,hW⟩:=zE (((w.alloc (.cells #[.bool an,.string au,.string ad] 39)).alloc (.cells #[.bool bn,.string bu,.string bd] 39)).alloc (.cells #[.bool false,.string ⟨#[]⟩,.string ⟨#[]⟩] 39));have htwo:=Three.new w 39 39 39 #[.bool an,.string au,.string ad] #[.bool bn,.string bu,.string bd] #[.bool false,.string ⟨#[]⟩,.string ⟨#[]⟩];rw[←hW] at htwo;obtain⟨hk0,hk1,hk2,hba,hsz⟩:=htwo;obtain⟨B,hB⟩:=zE w.heap.size;have HB:=zH hB;rw[←hB] at hba hsz hk0 hk1 hk2;have hc0:=hk0.cells;go_enter Tryz.func83,Tryz.ntmps83;go_wp2_with fail;simp only[←hW,←hB]
 clear hW hB;refine (HV1.out _).mono ?_;rintro e w1 ⟨rfl,hb1⟩;have ha1:=hk0.below hb1 hk0.lt;have hx1:=hk1.below hb1 hk1.lt;have hr1:=hk2.below hb1 hk2.lt;have hB1:Below B w w1:=hba.trans (hb1.mono (by omega));have hsz1:B+3≤w1.heap.size:=by have:=hb1.size;omega
 have hc1:=ha1.cells;have hf1:=ha1.froz;have hd1:=hx1.cells;have ha2:=((ha1.set 0 (.bool vn)).set 1 (.string vu)).set 2 (.string vd);have hx2:=((hx1.other (p:=⟨B,0,none⟩) (by show B+1≠B;omega) (.bool vn)).other (p:=⟨B,1,none⟩) (by show B+1≠B;omega) (.string vu)).other (p:=⟨B,2,none⟩) (by show B+1≠B;omega) (.string vd);have hr2:=((hr1.other (p:=⟨B,0,none⟩) (by show B+2≠B;omega) (.bool vn)).other (p:=⟨B,1,none⟩) (by show B+2≠B;omega) (.string vu)).other (p:=⟨B,2,none⟩) (by show B+2≠B;omega) (.string vd);have hB2:=below_set3 hB1 (.bool vn) (.string vu) (.string vd);have hz2:B+3≤(((w1.setCell ⟨B,0,none⟩ (.bool vn)).setCell ⟨B,1,none⟩ (.string vu)).setCell ⟨B,2,none⟩ (.string vd)).heap.size:=by simp only[World.size_setCell];exact hsz1
 clear hc0 hk0 hk1 hk2 hba hb1;obtain⟨w2,hw2⟩:∃x,x=(((w1.setCell ⟨B,0,none⟩ (.bool vn)).setCell ⟨B,1,none⟩ (.string vu)).setCell ⟨B,2,none⟩ (.string vd)):=⟨_,rfl⟩
 rw[←hw2] at ha2 hx2 hr2 hB2 hz2;have hd2:=hx2.cells;go_wp2_with fail;simp only[←hw2]
 clear hw2 hc1 hf1 hd1 ha1 hx1 hr1 hB1;refine (HV2.out _).mono ?_;rintro e w3 ⟨rfl,hb3⟩;have ha3:=ha2.below hb3 ha2.lt;have hx3:=hx2.below hb3 hx2.lt;have hr3:=hr2.below hb3 hr2.lt;have hB3:Below B w w3:=hB2.trans (hb3.mono (by omega));have hz3:B+3≤w3.heap.size:=by have:=hb3.size;omega
 have hc3:=hx3.cells;have hf3:=hx3.froz;have ha4:=((ha3.other (p:=⟨B+1,0,none⟩) (by show B≠B+1;omega) (.bool xn)).other (p:=⟨B+1,1,none⟩) (by show B≠B+1;omega) (.string xu)).other (p:=⟨B+1,2,none⟩) (by show B≠B+1;omega) (.string xd);have hr4:=((hr3.other (p:=⟨B+1,0,none⟩) (by show B+2≠B+1;omega) (.bool xn)).other (p:=⟨B+1,1,none⟩) (by show B+2≠B+1;omega) (.string xu)).other (p:=⟨B+1,2,none⟩) (by show B+2≠B+1;omega) (.string xd);have hx4:=((hx3.set 0 (.bool xn)).set 1 (.string xu)).set 2 (.string xd);have hB4:=below_at hB3 (Nat.le_succ B) (.bool xn) (.string xu) (.string xd);have hz4:B+3≤(((w3.setCell ⟨B+1,0,none⟩ (.bool xn)).setCell ⟨B+1,1,none⟩ (.string xu)).setCell ⟨B+1,2,none⟩ (.string xd)).heap.size:=by simp only[World.size_setCell];exact hz3
 have hd4:=hx4.cells;have hv4:=ha4.cells;simp only[List.set_cons_zero,List.set_cons_succ] at hd4 hv4 ha4 hx4;clear hb3 hd2;have hr6:Blk w3 (B+1+1) 39 [.bool false,.string ⟨#[]⟩,.string ⟨#[]⟩]:=hr3;have hr5:=hr6.cells;have hf5:=hr6.froz;have HB9:=zH hB4;clear ha2 hx2 hr2 hB2 hz2 ha3 hx3 hr3 hB3 hz3 hr4 hB4 hd4 hv4 hr6;go_wp2;refine bodyPost_ret (v:=.tuple #[.agg #[.bool false,.string ⟨#[]⟩,.string ⟨#[]⟩],.bool false]) (by simp[results,Tryz.results83,go_sem,hr5]) rfl ⟨rfl,?_⟩;rw[←HB.out];exact below_at HB9.out (by omega) _ _ _
theorem wmul_of (a b va vb r:Ra) (M1 M2:ByteArray) (w:World)
  (HV1:Hid (∀W,Calls Tryz.prog 119 #[a.v] W fun e w'=>e=.returned va.v∧Below W.heap.size W w'))
  (HV2:Hid (∀W,Calls Tryz.prog 119 #[b.v] W fun e w'=>e=.returned vb.v∧Below W.heap.size W w'))
  (HM1:Hid (∀W,Calls Tryz.prog 121 #[.string va.num,.string vb.num] W fun e w'=>e=.returned (.string M1)∧Below W.heap.size W w'))
  (HM2:Hid (∀W,Calls Tryz.prog 121 #[.string va.den,.string vb.den] W fun e w'=>e=.returned (.string M2)∧Below W.heap.size W w'))
  (HLW:Hid (∀W,Calls Tryz.prog 120 #[.bool (va.neg !=vb.neg),.string M1,.string M2] W fun e w'=>e=.returned r.v∧Below W.heap.size W w')):
  Calls Tryz.prog 82 #[a.v,b.v] w fun e w'=>e=.returned r.v∧Below w.heap.size w w':=by
 obtain⟨an,au,ad⟩:=a;obtain⟨bn,bu,bd⟩:=b;obtain⟨vn,vu,vd⟩:=va;obtain⟨xn,xu,xd⟩:=vb;obtain⟨rn,ru,rd⟩:=r;unfold Ra.v at*;simp only at HM1 HM2 HLW;obtain⟨W,hW⟩:=zE (((w.alloc (.cells #[.bool an,.string au,.string ad] 39)).alloc (.cells #[.bool bn,.string bu,.string bd] 39)).alloc (.cells #[.bool false,.string ⟨#[]⟩,.string ⟨#[]⟩] 39));have htwo:=Three.new w 39 39 39 #[.bool an,.string au,.string ad] #[.bool bn,.string bu,.string bd] #[.bool false,.string ⟨#[]⟩,.string ⟨#[]⟩];rw[←hW] at htwo;obtain⟨hk0,hk1,hk2,hba,hsz⟩:=htwo;obtain⟨B,hB⟩:=zE w.heap.size;have HB:=zH hB;rw[←hB] at hba hsz hk0 hk1 hk2;have hc0:=hk0.cells;go_enter Tryz.func82,Tryz.ntmps82;go_wp2_with fail;simp only[←hW,←hB]
 clear hW hB;refine (HV1.out _).mono ?_;rintro e w1 ⟨rfl,hb1⟩;have ha1:=hk0.below hb1 hk0.lt;have hx1:=hk1.below hb1 hk1.lt;have hr1:=hk2.below hb1 hk2.lt;have hB1:Below B w w1:=hba.trans (hb1.mono (by omega));have hsz1:B+3≤w1.heap.size:=by have:=hb1.size;omega
 have hc1:=ha1.cells;have hf1:=ha1.froz;have hd1:=hx1.cells;have ha2:=((ha1.set 0 (.bool vn)).set 1 (.string vu)).set 2 (.string vd);have hx2:=((hx1.other (p:=⟨B,0,none⟩) (by show B+1≠B;omega) (.bool vn)).other (p:=⟨B,1,none⟩) (by show B+1≠B;omega) (.string vu)).other (p:=⟨B,2,none⟩) (by show B+1≠B;omega) (.string vd);have hr2:=((hr1.other (p:=⟨B,0,none⟩) (by show B+2≠B;omega) (.bool vn)).other (p:=⟨B,1,none⟩) (by show B+2≠B;omega) (.string vu)).other (p:=⟨B,2,none⟩) (by show B+2≠B;omega) (.string vd);have hB2:=below_set3 hB1 (.bool vn) (.string vu) (.string vd);have hz2:B+3≤(((w1.setCell ⟨B,0,none⟩ (.bool vn)).setCell ⟨B,1,none⟩ (.string vu)).setCell ⟨B,2,none⟩ (.string vd)).heap.size:=by simp only[World.size_setCell];exact hsz1
 clear hc0 hk0 hk1 hk2 hba hb1;obtain⟨w2,hw2⟩:∃x,x=(((w1.setCell ⟨B,0,none⟩ (.bool vn)).setCell ⟨B,1,none⟩ (.string vu)).setCell ⟨B,2,none⟩ (.string vd)):=⟨_,rfl⟩
 rw[←hw2] at ha2 hx2 hr2 hB2 hz2;have hd2:=hx2.cells;go_wp2_with fail;simp only[←hw2]
 clear hw2 hc1 hf1 hd1 ha1 hx1 hr1 hB1;refine (HV2.out _).mono ?_;rintro e w3 ⟨rfl,hb3⟩;have ha3:=ha2.below hb3 ha2.lt;have hx3:=hx2.below hb3 hx2.lt;have hr3:=hr2.below hb3 hr2.lt;have hB3:Below B w w3:=hB2.trans (hb3.mono (by omega));have hz3:B+3≤w3.heap.size:=by have:=hb3.size;omega
 have hc3:=hx3.cells;have hf3:=hx3.froz;have ha4:=((ha3.other (p:=⟨B+1,0,none⟩) (by show B≠B+1;omega) (.bool xn)).other (p:=⟨B+1,1,none⟩) (by show B≠B+1;omega) (.string xu)).other (p:=⟨B+1,2,none⟩) (by show B≠B+1;omega) (.string xd);have hr4:=((hr3.other (p:=⟨B+1,0,none⟩) (by show B+2≠B+1;omega) (.bool xn)).other (p:=⟨B+1,1,none⟩) (by show B+2≠B+1;omega) (.string xu)).other (p:=⟨B+1,2,none⟩) (by show B+2≠B+1;omega) (.string xd);have hx4:=((hx3.set 0 (.bool xn)).set 1 (.string xu)).set 2 (.string xd);have hB4:=below_at hB3 (Nat.le_succ B) (.bool xn) (.string xu) (.string xd);have hz4:B+3≤(((w3.setCell ⟨B+1,0,none⟩ (.bool xn)).setCell ⟨B+1,1,none⟩ (.string xu)).setCell ⟨B+1,2,none⟩ (.string xd)).heap.size:=by simp only[World.size_setCell];exact hz3
 have hd4:=hx4.cells;have hv4:=ha4.cells;simp only[List.set_cons_zero,List.set_cons_succ] at hd4 hv4 ha4 hx4;clear hb3 hd2;obtain⟨w4,hw4⟩:∃x,x=(((w3.setCell ⟨B+1,0,none⟩ (.bool xn)).setCell ⟨B+1,1,none⟩ (.string xu)).setCell ⟨B+1,2,none⟩ (.string xd)):=⟨_,rfl⟩
 rw[←hw4] at ha4 hx4 hr4 hB4 hz4 hd4 hv4
 have HK:Hid (∀w' w1:World,((∀i,w'.cell? ⟨B,i,none⟩=([.bool vn,.string vu,.string vd]:List Value)[i]?)∧(∀i,w'.cell? ⟨B+1,i,none⟩=([.bool xn,.string xu,.string xd]:List Value)[i]?)∧(∃c0 c1 c2,Blk w' (B+2) 39 [c0,c1,c2])∧B+1<w'.heap.size∧Below B w w')→Below w'.heap.size w' w1→((∀i,w1.cell? ⟨B,i,none⟩=([.bool vn,.string vu,.string vd]:List Value)[i]?)∧(∀i,w1.cell? ⟨B+1,i,none⟩=([.bool xn,.string xu,.string xd]:List Value)[i]?)∧(∃c0 c1 c2,Blk w1 (B+2) 39 [c0,c1,c2])∧B+1<w1.heap.size∧Below B w w1)):=by
  rintro w' w1 ⟨h0,h1,h2,h3,h4⟩ hb1;exact⟨fun i=>(hb1.cell (by show B<_;omega)).trans (h0 i),fun i=>(hb1.cell h3).trans (h1 i),(by obtain⟨c0,c1,c2,h2⟩:=h2;exact⟨c0,c1,c2,h2.below hb1 h2.lt⟩),Nat.lt_of_lt_of_le h3 hb1.size,h4.trans (hb1.mono (by omega))⟩
 have HS:Hid ((∀i,w4.drew.cell? ⟨B,i,none⟩=([.bool vn,.string vu,.string vd]:List Value)[i]?)∧(∀i,w4.drew.cell? ⟨B+1,i,none⟩=([.bool xn,.string xu,.string xd]:List Value)[i]?)∧(∃c0 c1 c2,Blk w4.drew (B+2) 39 [c0,c1,c2])∧B+1<w4.drew.heap.size∧Below B w w4.drew):=⟨hv4,hd4,⟨_,_,_,hr4⟩,by show B+1<w4.heap.size;omega,below_drewN hB4 1⟩
 clear ha2 hx2 hr2 hB2 hz2 ha3 hx3 hr3 hB3 hz3 hr4 hB4;go_wp2_with fail;simp only[←hw4]
 clear hw4 hc3 hf3 ha4 hx4;go_wp2_with fail;refine wp_region_noPanic ?_;refine wp_region_held_drew (S:=fun w'=>(∀i,w'.cell? ⟨B,i,none⟩=([.bool vn,.string vu,.string vd]:List Value)[i]?)∧(∀i,w'.cell? ⟨B+1,i,none⟩=([.bool xn,.string xu,.string xd]:List Value)[i]?)∧(∃c0 c1 c2,Blk w' (B+2) 39 [c0,c1,c2])∧B+1<w'.heap.size∧Below B w w') (by kernel_rfl) HS.out (fun hHeld=>?_);refine tkZ 0 ?_;refine tkZ 1 ?_;refine tkZ 2 ?_;refine tkZ 3 ?_;refine tkZ 4 ?_;refine tkZ 5 ?_;refine tkZ 6 ?_;refine tkZ 7 ?_;refine tkZ 8 ?_;refine tkZ 10 ?_;refine tkZ 11 ?_;refine tkZ 12 ?_;refine tkZ 13 ?_;refine tkR 9 fun K hK=>?_
 go_simp;refine (HM1.out _).mono ?_;rintro e w1 ⟨rfl,hb1⟩;go_wp2_with fail;refine tkK hK (HK.out _ _ (by assumption) hb1) fun hHeld=>?_
 clear hK K;refine tkR 14 fun K hK=>?_
 go_simp;refine (HM2.out _).mono ?_;rintro e w1 ⟨rfl,hb1⟩;go_wp2_with fail;refine tkK hK (HK.out _ _ (by assumption) hb1) fun hHeld=>?_
 clear hK K;refine tkR 15 fun K hK=>?_
 go_simp;refine (HLW.out _).mono ?_;rintro e w1 ⟨rfl,hb1⟩;go_wp2_with fail;refine tkK hK (HK.out _ _ (by assumption) hb1) fun hHeld=>?_
 clear hK K;obtain⟨q0,q1,⟨c0,c1,c2,q2⟩,q3,q4⟩:=hHeld;have hr9:=q2.cells;have hf9:=q2.froz;refine tkR 16 fun K hK=>?_
 go_simp;go_wp2_with fail;refine hK.out _ _ ?_ (fun _=>?_)
 ·have x2:=((q2.set 0 (.bool rn)).set 1 (.string ru)).set 2 (.string rd);refine⟨fun i=>?_,fun i=>?_,⟨_,_,_,x2⟩,?_,below_at q4 (by omega) _ _ _⟩
  ·exact (cell_other4 _ _ _ _ (by omega) i).trans (q0 i)
  ·exact (cell_other4 _ _ _ _ (by omega) i).trans (q1 i)
  ·simp only[World.size_setCell];exact q3
 clear hK K
 try simp only[Act.put,tk1,tk2,tk3,tk4,tk5,tk6]
 refine wpAnyH_done (by kernel_rfl) ?_ _;refine NoPanic.normal ?_;have HB9:=zH q4;clear q0 q1 q3 q4 HK HS;go_wp2;refine bodyPost_ret (v:=.agg #[.bool rn,.string ru,.string rd]) (by simp[results,Tryz.results82,go_sem,hr9]) rfl ⟨rfl,?_⟩;rw[←HB.out];exact below_at HB9.out (by omega) _ _ _
theorem valR_den4 (a:Ra):rightS (valR a).den=true∧0<vbs (valR a).den:=by
 unfold valR;split
 ·next h=>
  unfold okR at h;simp only[Bool.and_eq_true,decide_eq_true_eq] at h;exact⟨h.1.1.1,h.1.1.2⟩
 ·exact⟨by decide,by decide⟩
theorem valR_num4 (a:Ra):rightS (valR a).num=true:=by
 unfold valR;split
 ·next h=>exact (okR_prts h).2.2.1
 ·decide
theorem emp_nil4 (s:ByteArray):s.toList.isEmpty=true↔s=⟨#[]⟩:=by
 have e0:(⟨#[]⟩:ByteArray).toList=[]:=by rw[ByteArray.toList_eq]
 rw[List.isEmpty_iff];exact⟨fun h=>toList_inj (by rw[h,e0]),fun h=>by rw[h,e0]⟩
theorem low_size4 (neg:Bool) (n d K:Nat) (hn:n<256 ^ K) (hd:d<256 ^ K):(low neg n d).num.size≤K∧(low neg n d).den.size≤K:=
 ⟨nbs_size_le _ _ (Nat.lt_of_le_of_lt (Nat.div_le_self _ _) hn),nbs_size_le _ _ (Nat.lt_of_le_of_lt (Nat.div_le_self _ _) hd)⟩
theorem mul_lt4 {x y K:Nat} (hx:x<256 ^ K) (hy:y<256 ^ K):x*y<256 ^ (2*K):=by
 rw[Nat.two_mul,Nat.pow_add];exact Nat.mul_lt_mul'' hx hy
def SzR (K:Nat) (a:Ra):Prop:=a.num.size≤K∧a.den.size≤K
theorem wQuo_any (a b:Ra) (K:Nat) (w:World) (ha:SzR K a) (hb:SzR K b) (h0:0<K) (hK:K≤1048576):Calls Tryz.prog 83 #[a.v,b.v] w fun e w'=>∃r o,e=.returned (.tuple #[Ra.v r,.bool o])∧SzR (2*K) r∧Below w.heap.size w w':=by
 obtain⟨a1,a2⟩:=valR_size a K h0 ha.1 ha.2;obtain⟨b1,b2⟩:=valR_size b K h0 hb.1 hb.2;have HV1:=zH (fun W=>svalue_any a W (Nat.le_trans ha.1 (by omega)) (Nat.le_trans ha.2 (by omega)));have HV2:=zH (fun W=>svalue_any b W (Nat.le_trans hb.1 (by omega)) (Nat.le_trans hb.2 (by omega)));by_cases he:(valR b).num.toList.isEmpty=true
 ·exact (wquo_no a b _ _ w HV1 HV2 he).mono fun e w' h=>⟨_,_,h.1,⟨Nat.zero_le _,Nat.zero_le _⟩,h.2⟩
 ·have hp:0<vbs (valR b).num:=vbs_pos (valR_num4 b) (fun hh=>he ((emp_nil4 _).2 hh));have n1:=mul_lt4 (vbs_le _ K a1) (vbs_le _ K b2);have n2:=mul_lt4 (vbs_le _ K a2) (vbs_le _ K b1);have n3:=Nat.mul_pos (valR_den4 a).2 hp;exact (wquo_yes a b _ _ _ _ _ w HV1 HV2 (by simpa using he) (fun W=>rMul_any _ _ W (by omega) (by omega)) (fun W=>rMul_any _ _ W (by omega) (by omega)) (fun W=>slowest_any _ _ _ (2*K) W (by omega) n1 n2 n3)).mono fun e w' h=>⟨_,_,h.1,low_size4 _ _ _ _ n1 n2,h.2⟩
theorem wMul_any (a b:Ra) (K:Nat) (w:World) (ha:SzR K a) (hb:SzR K b) (h0:0<K) (hK:K≤1048576):Calls Tryz.prog 82 #[a.v,b.v] w fun e w'=>∃r,e=.returned (Ra.v r)∧SzR (2*K) r∧Below w.heap.size w w':=by
 obtain⟨a1,a2⟩:=valR_size a K h0 ha.1 ha.2;obtain⟨b1,b2⟩:=valR_size b K h0 hb.1 hb.2;have n1:=mul_lt4 (vbs_le _ K a1) (vbs_le _ K b1);have n2:=mul_lt4 (vbs_le _ K a2) (vbs_le _ K b2);have n3:=Nat.mul_pos (valR_den4 a).2 (valR_den4 b).2;exact (wmul_of a b _ _ _ _ _ w (fun W=>svalue_any a W (Nat.le_trans ha.1 (by omega)) (Nat.le_trans ha.2 (by omega))) (fun W=>svalue_any b W (Nat.le_trans hb.1 (by omega)) (Nat.le_trans hb.2 (by omega))) (fun W=>rMul_any _ _ W (by omega) (by omega)) (fun W=>rMul_any _ _ W (by omega) (by omega)) (fun W=>slowest_any _ _ _ (2*K) W (by omega) n1 n2 n3)).mono fun e w' h=>⟨_,h.1,low_size4 _ _ _ _ n1 n2,h.2⟩
theorem ofI_sz (n:Int) (h0:-9223372036854775808≤n) (h1:n≤9223372036854775807):SzR 9 (ofI n):=
 ⟨nbs_size_le _ 9 (by have:(256:Nat) ^ 9=4722366482869645213696:=by decide
                      omega),nbs_size_le _ 9 (by decide)⟩
theorem wfrac_any (a b:Int) (w:World) (a0:-9223372036854775808≤a) (a1:a≤9223372036854775807) (b0:-9223372036854775808≤b) (b1:b≤9223372036854775807):
  Calls Tryz.prog 40 #[.int .i64 a,.int .i64 b] w fun e w'=>∃r,e=.returned (Ra.v r)∧SzR 18 r∧Below w.heap.size w w':=by
 have H1:=zH (fun W=>sOf_any a W a0 a1);have H2:=zH (fun W=>sOf_any b W b0 b1);have H3:=zH (fun W=>wQuo_any (ofI a) (ofI b) 9 W (ofI_sz a a0 a1) (ofI_sz b b0 b1) (by omega) (by omega));clear a0 a1 b0 b1;generalize ofI a=va at*;generalize ofI b=vb at*;obtain⟨W,hW⟩:=zE (w.alloc (.cells #[.bool false,.string ⟨#[]⟩,.string ⟨#[]⟩] 39));have hba:Below w.heap.size w W:=by rw[hW];exact zB _ _
 have hk0:Blk W w.heap.size 39 [.bool false,.string ⟨#[]⟩,.string ⟨#[]⟩]:=by rw[hW];exact Blk.new w _ _
 obtain⟨B,hB⟩:=zE w.heap.size;have HB:=zH hB;rw[←hB] at hba hk0;go_enter Tryz.func40,Tryz.ntmps40;go_wp2_with fail;simp only[←hW,←hB]
 clear hW hB;refine (H1.out _).mono ?_;rintro e w1 ⟨rfl,hb1⟩;have hk1:=hk0.below hb1 hk0.lt;have hB1:=hba.trans (hb1.mono (Nat.le_of_lt hk0.lt));clear hba hb1 hk0;go_wp2_with fail;refine (H2.out _).mono ?_;rintro e w2 ⟨rfl,hb2⟩;have hk2:=hk1.below hb2 hk1.lt;have hB2:=hB1.trans (hb2.mono (Nat.le_of_lt hk1.lt));clear hB1 hb2 hk1;go_wp2_with fail;refine (H3.out _).mono ?_;rintro e w3 ⟨r,o,rfl,hz,hb3⟩;have hk3:=hk2.below hb3 hk2.lt;have hB3:=hB2.trans (hb3.mono (Nat.le_of_lt hk2.lt));have HZ:=zH hz;clear hB2 hb3 hk2 hz;obtain⟨rn,ru,rd⟩:=r;unfold Ra.v
 go_upto_region 2 with fail
 have hy:=(Blk.new w3 39 #[.bool rn,.string ru,.string rd]).cells;have hk4:=hk3.alloc (.cells #[.bool rn,.string ru,.string rd] 39);have hB4:=hB3.alloc (Nat.le_of_lt hk3.lt) (.cells #[.bool rn,.string ru,.string rd] 39);have hne:¬w3.heap.size=B:=by have:=hk3.lt;omega
 have hne':¬B=w3.heap.size:=fun h=>hne h.symm
 generalize w3.alloc (.cells #[.bool rn,.string ru,.string rd] 39)=w4 at*;generalize w3.heap.size=C at*;have hc:=hk4.cells;have hf:=hk4.froz;have HB4:=zH hB4;clear hk3 hB3 hk4 hB4;go_wp2;refine bodyPost_ret (v:=.agg #[.bool rn,.string ru,.string rd]) (by simp[results,Tryz.results40,go_sem,hc]) rfl ⟨⟨rn,ru,rd⟩,rfl,HZ.out,?_⟩;rw[←HB.out];exact below_at HB4.out (Nat.le_refl _) _ _ _
theorem wratio_any (D u:Nat) (a:Int) (w:World) (hd:DS w D u) (hu:u≤w.heap.size) (a0:-1000000000≤a) (a1:a≤1000000000):
  Calls Tryz.prog 117 #[.pointer (some ⟨D,0,none⟩),.int .i64 a] w fun e w'=>∃r,e=.returned (Ra.v r)∧SzR 18 r∧DS w' D u∧Onl D w w':=by
 obtain⟨W,hW⟩:=zE (w.alloc (.cells #[.bool false,.string ⟨#[]⟩,.string ⟨#[]⟩] 39));have hba:Below w.heap.size w W:=by rw[hW];exact zB _ _
 have hk0:Blk W w.heap.size 39 [.bool false,.string ⟨#[]⟩,.string ⟨#[]⟩]:=by rw[hW];exact Blk.new w _ _
 have hDB:=hd.lt;have hd0:=hd.below hba;have ho0:Onl D w W:=Onl.of_below hba;obtain⟨B,hB⟩:=zE w.heap.size;have HB:=zH hB;rw[←hB] at hba hk0 hDB hu;have HU:=zH hu;clear hu;have hBD:B≠D:=by omega
 clear hd hba;go_enter Tryz.func117,Tryz.ntmps117;go_wp2_with fail;simp only[←hW,←hB]
 clear hW hB;refine (next_any _ D u 40 hd0 (by omega) (by omega)).mono ?_;rintro e w1 ⟨k,hk,rfl,hd1,ho1⟩;have hk1:=ho1.blk hk0 hBD;have ho1:=ho0.trans ho1;have hw:IntKind.i64.wrap (a+(k:Int))=a+(k:Int):=IntWalk.i64_in _ (by omega);have HO:=zH (fun W=>sOf_any (a+(k:Int)) W (by omega) (by omega));have HS:=zH (ofI_sz (a+(k:Int)) (by omega) (by omega));clear hk0 ho0 hd0 a0 a1 hk;go_wp2_with fail;refine (HO.out _).mono ?_;rintro e w2 ⟨rfl,hb2⟩;have hk2:=hk1.below hb2 hk1.lt;have hd2:=hd1.below hb2;have ho2:=ho1.trans (Onl.of_below hb2);clear hk1 hd1 ho1 hb2 HO hw;generalize ofI (a+(k:Int))=va at*;go_wp2_with fail;refine (next_any _ D u 4 hd2 (by omega) (by omega)).mono ?_;rintro e w3 ⟨j,hj,rfl,hd3,ho3⟩;have hk3:=ho3.blk hk2 hBD;have ho3:=ho2.trans ho3;clear hk2 hd2 ho2
 obtain⟨c,hc0,hc1,hcx⟩:∃c:Int,0<c∧c≤10∧Sem.run Tryz.prog (Instr.index 192 (.agg #[.int .i64 1,.int .i64 1,.int .i64 2,.int .i64 10]) (.int .i64 (j:Int))) w3=Result.ok (.int .i64 c) w3:=by
  have:j=0∨j=1∨j=2∨j=3:=by omega
  rcases this with rfl|rfl|rfl|rfl
  ·exact⟨1,by omega,by omega,by first|rfl|(simp[go_sem])|kernel_rfl⟩
  ·exact⟨1,by omega,by omega,by first|rfl|(simp[go_sem])|kernel_rfl⟩
  ·exact⟨2,by omega,by omega,by first|rfl|(simp[go_sem])|kernel_rfl⟩
  ·exact⟨10,by omega,by omega,by first|rfl|(simp[go_sem])|kernel_rfl⟩
 have HO:=zH (fun W=>sOf_any c W (by omega) (by omega));have HS2:=zH (ofI_sz c (by omega) (by omega));clear hc0 hc1 hj;go_wp2_with fail;clear hcx;generalize hvb:ofI c=vb at*;clear hvb;refine (HO.out _).mono ?_;rintro e w4 ⟨rfl,hb4⟩;have hk4:=hk3.below hb4 hk3.lt;have hd4:=hd3.below hb4;have ho4:=ho3.trans (Onl.of_below hb4);clear hk3 hd3 ho3 hb4;go_wp2_with fail;refine (wQuo_any va vb 9 _ HS.out HS2.out (by omega) (by omega)).mono ?_;rintro e w5 ⟨r,o,rfl,hz,hb5⟩;have hk5:=hk4.below hb5 hk4.lt;have hd5:=hd4.below hb5;have ho5:=ho4.trans (Onl.of_below hb5);have HZ:=zH hz;clear hk4 hd4 ho4 hb5 hz;obtain⟨rn,ru,rd⟩:=r;unfold Ra.v
 go_upto_region 3 with fail
 have hy:=(Blk.new w5 39 #[.bool rn,.string ru,.string rd]).cells;have hk6:=hk5.alloc (.cells #[.bool rn,.string ru,.string rd] 39);have hb6:Below w5.heap.size w5 (w5.alloc (.cells #[.bool rn,.string ru,.string rd] 39)):=(Below.refl _ _).alloc (Nat.le_refl _) _;have hd6:=hd5.below hb6;have ho6:=ho5.trans (Onl.of_below hb6);have hne:¬w5.heap.size=B:=by have:=hk5.lt;omega
 have hne':¬B=w5.heap.size:=fun h=>hne h.symm
 generalize w5.alloc (.cells #[.bool rn,.string ru,.string rd] 39)=w6 at*;generalize w5.heap.size=C at*;have hc:=hk6.cells;have hf:=hk6.froz;have HK6:=zH hk6;have HD6:=zH hd6;have HO6:=zH ho6;clear hk5 hd5 ho5 hb6 hk6 hd6 ho6;go_wp2;refine bodyPost_ret (v:=.agg #[.bool rn,.string ru,.string rd]) (by simp[results,Tryz.results117,go_sem,hc]) rfl ⟨⟨rn,ru,rd⟩,rfl,HZ.out,?_,?_⟩
 ·exact ((HD6.out.set HU.out _ _).set HU.out _ _).set HU.out _ _
 ·exact ((HO6.out.fresh (by rw[←HB.out];omega) 0 _).fresh (by rw[←HB.out];omega) 1 _).fresh (by rw[←HB.out];omega) 2 _
def Ty4 (m d:Int):Prop:=(m=1∧d=0)∨(m=0∧d=1)∨(m=0∧d=0)
def NdRet (k D u:Nat) (w:World) (e:Ending) (w':World):Prop:=∃v ns,e=.returned v∧ns.length≤k∧w'.ownsRow w.heap.size 87 5 v ns.length (nds ns)∧DS w' D u∧Onl D w w'
theorem own_one (w:World) (n:Nd) (base:Nat) (h:base≤w.heap.size):(w.alloc (.cells n.cells.toArray 87)).ownsRow base 87 5 (.slice (some ⟨w.heap.size,0,none⟩) 1 1) [n].length (nds [n]):=by
 refine⟨rfl,.inr ⟨w.heap.size,1,n.cells.toArray,rfl,h,?_,Nat.le_refl _,by decide,rfl,rfl⟩⟩;show (Array.push _ _)[w.heap.size]?=_;simp
theorem wconst_any (D u:Nat) (t:Bool) (m d:Int) (w:World) (hd:DS w D u) (hu:u≤w.heap.size) (ht:Ty4 m d):
  Calls Tryz.prog 151 #[.pointer (some ⟨D,0,none⟩),.agg #[.bool t,.int .i64 m,.int .i64 d]] w (NdRet 1 D u w):=by
 obtain⟨W,hW⟩:=zE (w.alloc (.cells #[.bool t,.int .i64 m,.int .i64 d] 35));have hba:Below w.heap.size w W:=by rw[hW];exact zB _ _
 have hk0:Blk W w.heap.size 35 [.bool t,.int .i64 m,.int .i64 d]:=by rw[hW];exact Blk.new w _ _
 have hDB:=hd.lt;have hd0:=hd.below hba;have ho0:Onl D w W:=Onl.of_below hba;have hsz:u≤W.heap.size:=Nat.le_trans hu hba.size;obtain⟨B,hB⟩:=zE w.heap.size;have HB:=zH hB;rw[←hB] at hba hk0 hDB hu;have hBD:B≠D:=by omega
 clear hd hba;go_enter Tryz.func151,Tryz.ntmps151;go_wp2_with fail;simp only[←hW,←hB]
 clear hW hB;refine (wratio_any D u (-8) _ hd0 hsz (by omega) (by omega)).mono ?_;rintro e w1 ⟨r,rfl,hz,hd1,ho1⟩;have hk1:=ho1.blk hk0 hBD;have ho1:=ho0.trans ho1;clear hk0 ho0 hd0 hsz;obtain⟨rn,ru,rd⟩:=r;unfold Ra.v
 go_upto_region 2 with fail
 have hy:=(Blk.new w1 39 #[.bool rn,.string ru,.string rd]).cells;have hk2:=hk1.alloc (.cells #[.bool rn,.string ru,.string rd] 39);have hb2:Below w1.heap.size w1 (w1.alloc (.cells #[.bool rn,.string ru,.string rd] 39)):=(Below.refl _ _).alloc (Nat.le_refl _) _;have hd2:=hd1.below hb2;have ho2:=ho1.trans (Onl.of_below hb2);generalize w1.alloc (.cells #[.bool rn,.string ru,.string rd] 39)=w2 at*;generalize w1.heap.size=C at*;have hc:=hk2.cells;have HD2:=zH hd2;have HK2:=zH hk2;have HO2:=zH ho2;have HBD:=zH hBD;clear hk1 hd1 ho1 hb2 hk2 hd2 ho2 hz hBD hDB hu;rcases ht with⟨rfl,rfl⟩|⟨rfl,rfl⟩|⟨rfl,rfl⟩
 ·go_wp2;refine bodyPost_ret (v:=.slice (some ⟨w2.heap.size,0,none⟩) 1 1) (by simp[results,Tryz.results151,go_sem]) rfl ⟨_,[⟨1,⟨rn,ru,rd⟩,⟨#[]⟩⟩],rfl,Nat.le_refl _,own_one _ _ _ HO2.out.size,HD2.out.below (zB _ _),HO2.out.trans (Onl.of_below (zB _ _))⟩
 ·go_wp2;refine bodyPost_ret (v:=.slice (some ⟨w2.heap.size,0,none⟩) 1 1) (by simp[results,Tryz.results151,go_sem]) rfl ⟨_,[⟨2,⟨rn,ru,rd⟩,⟨#[]⟩⟩],rfl,Nat.le_refl _,own_one _ _ _ HO2.out.size,HD2.out.below (zB _ _),HO2.out.trans (Onl.of_below (zB _ _))⟩
 ·go_upto_region 8 with fail
  have HW:=zH (own_one w2 ⟨3,⟨rn,ru,rd⟩,⟨#[]⟩⟩ w.heap.size HO2.out.size);have hb:Below w2.heap.size w2 (w2.alloc (.cells #[.int .i64 3,.bool rn,.string ru,.string rd,.string ⟨#[]⟩] 87)):=(Below.refl _ _).alloc (Nat.le_refl _) _;have hk3:=HK2.out.alloc (.cells #[.int .i64 3,.bool rn,.string ru,.string rd,.string ⟨#[]⟩] 87);have HD3:=zH (HD2.out.below hb);have HO3:=zH (HO2.out.trans (Onl.of_below hb));have HW':Hid ((w2.alloc (.cells #[.int .i64 3,.bool rn,.string ru,.string rd,.string ⟨#[]⟩] 87)).ownsRow w.heap.size 87 5 (.slice (some ⟨w2.heap.size,0,none⟩) 1 1) 1 (nds [⟨3,⟨rn,ru,rd⟩,⟨#[]⟩⟩])):=HW;clear HW hb hc hy;generalize w2.alloc (.cells #[.int .i64 3,.bool rn,.string ru,.string rd,.string ⟨#[]⟩] 87)=w3 at*;generalize w2.heap.size=E at*;have hc:=hk3.cells;clear hk3
  go_upto_region 10 with fail
  refine wp_loop_once ?_;go_wp2;refine bodyPost_ret (v:=.slice (some ⟨E,0,none⟩) 1 1) (by simp[results,Tryz.results151,go_sem]) rfl ⟨_,[⟨3,⟨rn,ru,rd⟩,⟨#[]⟩⟩],rfl,Nat.le_refl _,HW'.out,HD3.out,HO3.out⟩
def BoolRet (w:World) (e:Ending) (w':World):Prop:=∃o:Bool,e=.returned (.bool o)∧Below w.heap.size w w'
theorem wNamed_any (n:Int) (w:World):Calls Tryz.prog 198 #[.int .i64 n] w (BoolRet w):=by
 obtain⟨a,ha⟩:=zF (decide (n≥5));obtain⟨b,hb⟩:=zF (decide (n≤8));cases a<;>cases b<;>simp only[decide_eq_true_eq,decide_eq_false_iff_not] at ha hb
 all_goals
  go_enter Tryz.func198,Tryz.ntmps198;go_wp2;go_ret;exact⟨_,rfl,Below.refl _ _⟩
theorem below_one (w:World) (o:Obj):Below w.heap.size w (w.alloc o):=(Below.refl _ _).alloc (Nat.le_refl _) _
theorem wUnit_any (m d:Int) (w:World):Calls Tryz.prog 232 #[.agg #[.int .i64 m,.int .i64 d]] w (BoolRet w):=by
 obtain⟨a,ha⟩:=zF (decide (m≥-3));obtain⟨b,hb⟩:=zF (decide (m≤3));obtain⟨c,hc⟩:∃a,decide (d≥-3)=a:=⟨_,rfl⟩
 obtain⟨f,hf⟩:∃a,decide (d≤3)=a:=⟨_,rfl⟩
 cases a<;>cases b<;>cases c<;>cases f<;>simp only[decide_eq_true_eq,decide_eq_false_iff_not] at ha hb hc hf
 all_goals try (exfalso;omega)
 all_goals
  have hk:=(Blk.new w 33 #[.int .i64 m,.int .i64 d]).cells;have hw:=below_one w (.cells #[.int .i64 m,.int .i64 d] 33);go_enter Tryz.func232,Tryz.ntmps232
  go_upto_region 1 with fail
  generalize w.alloc (.cells #[.int .i64 m,.int .i64 d] 33)=W at*;go_wp2;go_ret;exact⟨_,rfl,hw⟩
theorem wRight_any (t:Bool) (m d:Int) (w:World):Calls Tryz.prog 199 #[.agg #[.bool t,.int .i64 m,.int .i64 d]] w (BoolRet w):=by
 have hk:=(Blk.new w 35 #[.bool t,.int .i64 m,.int .i64 d]).cells;have hw:=below_one w (.cells #[.bool t,.int .i64 m,.int .i64 d] 35);have HU:=zH (fun W=>wUnit_any m d W);cases t
 ·go_enter Tryz.func199,Tryz.ntmps199
  go_upto_region 1 with fail
  generalize w.alloc (.cells #[.bool false,.int .i64 m,.int .i64 d] 35)=W at*;go_wp2_with fail;refine (HU.out _).mono ?_;rintro e w1 ⟨o,rfl,hb⟩;go_wp2;go_ret;exact⟨_,rfl,hw.trans (hb.mono hw.size)⟩
 ·obtain⟨a,ha⟩:=zF (decide (m=0));obtain⟨b,hb⟩:∃a,decide (d=0)=a:=⟨_,rfl⟩
  cases a<;>cases b<;>simp only[decide_eq_true_eq,decide_eq_false_iff_not] at ha hb
  all_goals
   go_enter Tryz.func199,Tryz.ntmps199
   go_upto_region 1 with fail
   generalize w.alloc (.cells #[.bool true,.int .i64 m,.int .i64 d] 35)=W at*;go_wp2;go_ret
   first|exact⟨_,rfl,hw⟩|exact⟨_,rfl,below_one _ _⟩
def FindRet (w:World) (e:Ending) (w':World):Prop:=∃t m d o,e=.returned (.tuple #[.agg #[.bool t,.int .i64 m,.int .i64 d],.bool o])∧Below w.heap.size w w'
theorem wFind_any (l:List Sg) (A:Option Addr) (k c:Nat) (nop:Int) (nnm:ByteArray) (w:World) (hk:k=l.length) (hm:k≤maxLen) (hr:Rd w A (sgs l)):
  Calls Tryz.prog 150 #[.slice A k c,.int .i64 nop,.string nnm] w (FindRet w):=by
 obtain⟨W,hW⟩:=zE (w.alloc (.cells #[.bool false,.int .i64 0,.int .i64 0] 35));obtain⟨B,hB⟩:=zE w.heap.size;have HK1:Hid (Blk W B 35 [.bool false,.int .i64 0,.int .i64 0]):=by show Blk _ _ _ _;rw[hW,hB];exact Blk.new w _ _
 have HBW:Hid (Below w.heap.size w W):=by show Below _ _ _;rw[hW];exact zB _ _
 have HBB:=zH hB;have HR:=zH hr;have HKL:=zH hk;have HN:=zH (fun W=>wNamed_any nop W);have hm2:k≤9223372036854775807:=by unfold maxLen at hm;omega
 clear hr hk hm;go_enter Tryz.func150,Tryz.ntmps150
 go_upto_region 1 with fail
 simp only[←hW,←hB]
 clear hW hB;go_wp2
 go_loopg [8] k (fun g iv wr=>∃j:Nat,j+g=k∧iv=.int .i64 j∧Hid (Below W.heap.size W wr))
 case atStart=>exact⟨0,by omega,rfl,Below.refl _ _⟩
 case round=>
  obtain⟨j,hj,rfl,hbr⟩:=hrel;by_cases hlt:j<k
  ·have hjl:j<l.length:=by rw[←HKL.out];exact hlt
   obtain⟨b,off,hA,hb,hc⟩:=Rd.row Sg.cells 5 (fun _=>rfl) (by omega) HR.out hjl;subst hA;generalize l[j]=s at*;obtain⟨sop,snm,⟨st,sm,sd⟩⟩:=s;have hbr0:=bstep HBW.out hbr.out;have d0:=(hbr0.cell hb).trans (hc 0 _ rfl);have d1:=(hbr0.cell hb).trans (hc 1 _ rfl);have d2:=(hbr0.cell hb).trans (hc 2 _ rfl);have d3:=(hbr0.cell hb).trans (hc 3 _ rfl);have d4:=(hbr0.cell hb).trans (hc 4 _ rfl);simp only[Nat.add_zero] at d0;clear hc hbr0
   go_upto_region 5 with fail
   obtain⟨W5,hW5⟩:=zE (wr.alloc (.cells #[.int .i64 sop,.string snm,.bool st,.int .i64 sm,.int .i64 sd] 75));obtain⟨N,hN⟩:=zE wr.heap.size;have HC1:Hid (Blk W5 B 35 [.bool false,.int .i64 0,.int .i64 0]):=by show Blk _ _ _ _;rw[hW5];exact (HK1.out.below hbr.out HK1.out.lt).alloc _
   have HC2:Hid (Blk W5 N 75 [.int .i64 sop,.string snm,.bool st,.int .i64 sm,.int .i64 sd]):=by show Blk _ _ _ _;rw[hW5,hN];exact Blk.new wr _ _
   have HBR:Hid (Below W.heap.size W W5):=by show Below _ _ _;rw[hW5];exact bstep hbr.out (zB _ _)
   simp only[←hW5,←hN]
   clear hW5 hN hbr d0 d1 d2 d3 d4
   go_cut [8,48] from 10 to 50 (fun jv qv wc=>jv=.int .i64 (j:Int)∧(∃ff,qv=.bool ff)∧Blk wc B 35 [.bool false,.int .i64 0,.int .i64 0]∧Blk wc N 75 [.int .i64 sop,.string snm,.bool st,.int .i64 sm,.int .i64 sd]∧Below W.heap.size W wc)
   case first=>
    have hc2:=HC2.out.cells;by_cases h1:sop=nop
    ·subst h1;by_cases h2:snm=nnm
     ·subst h2;have HRT:=zH (fun W=>wRight_any st sm sd W);go_wp2_with fail;refine (HN.out _).mono ?_;rintro e w6 ⟨o,rfl,hb6⟩;have hm1:=HC1.out.below hb6 HC1.out.lt;have hm2':=HC2.out.below hb6 HC2.out.lt;replace HBR:=zH (bstep HBR.out hb6);have hc2:=hm2'.cells;have HM1:=zH hm1;have HM2:=zH hm2';clear hb6 hm1 hm2' HC1 HC2;cases o
      ·go_wp2
       go_meet
       case rel=>exact⟨rfl,⟨_,rfl⟩,HM1.out,HM2.out,HBR.out⟩
      ·go_wp2_with fail;refine (HRT.out _).mono ?_;rintro e w7 ⟨o,rfl,hb6⟩;have hm1:=HM1.out.below hb6 HM1.out.lt;have hm2':=HM2.out.below hb6 HM2.out.lt;replace HBR:=zH (bstep HBR.out hb6);have hc2:=hm2'.cells;replace HM1:=zH hm1;replace HM2:=zH hm2';clear hb6 hm1 hm2' HRT;cases o
       ·go_wp2
        go_meet
        case rel=>exact⟨rfl,⟨_,rfl⟩,HM1.out,HM2.out,HBR.out⟩
       ·by_cases h3:sop=24
        ·subst h3;go_wp2
         go_meet
         case rel=>exact⟨rfl,⟨_,rfl⟩,HM1.out,HM2.out,HBR.out⟩
        ·have h3b:(sop !=24)=true:=by simp[h3]
         have h3c:(sop==24)=false:=by simp[h3]
         go_wp2
         go_meet
         case rel=>exact⟨rfl,⟨_,rfl⟩,HM1.out,HM2.out,HBR.out⟩
     ·have h2b:¬(snm.toList=nnm.toList):=fun h=>h2 (by rw[ByteArray.toList_eq,ByteArray.toList_eq] at h;exact ByteArray.ext (Array.toList_inj.1 h))
      have h2c:(snm.toList==nnm.toList)=false:=beq_eq_false_iff_ne.2 h2b;go_wp2
      go_meet
      case rel=>exact⟨rfl,⟨_,rfl⟩,HC1.out,HC2.out,HBR.out⟩
    ·have h1b:(sop==nop)=false:=beq_eq_false_iff_ne.2 h1;go_wp2
     go_meet
     case rel=>exact⟨rfl,⟨_,rfl⟩,HC1.out,HC2.out,HBR.out⟩
   case rest=>
    obtain⟨rfl,⟨ff,rfl⟩,hm1,hm2',hbc⟩:=hcut;cases ff
    ·have HBC:=zH hbc;clear hm1 hm2' hbc;go_wp2
     go_roundg (k-(j+1))
     case measure=>omega
     case rel=>exact⟨j+1,by omega,by go_num,HBC⟩
    ·have HBE:Hid (∀i0 i1 i2 v0 v1 v2,Below w.heap.size w (((wc.setCell ⟨B,i0,none⟩ v0).setCell ⟨B,i1,none⟩ v1).setCell ⟨B,i2,none⟩ v2)):=fun i0 i1 i2 v0 v1 v2=>by
      have h:=bstep HBW.out hbc;have hle:w.heap.size≤B:=by have:=HBB.out;omega
      exact ((h.setCell (p:=⟨B,i0,none⟩) hle v0).setCell (p:=⟨B,i1,none⟩) hle v1).setCell (p:=⟨B,i2,none⟩) hle v2
     have hc1:=hm1.cells;have hf1:=hm1.froz;have hc2:=hm2'.cells;clear hm2' hbc hm1;go_wp2;refine bodyPost_ret (v:=.tuple #[.agg #[.bool st,.int .i64 sm,.int .i64 sd],.bool true]) (by simp[results,Tryz.results150,go_sem,hc1]) rfl ⟨_,_,_,_,rfl,HBE.out _ _ _ _ _ _⟩
  ·obtain rfl:j=k:=by omega
   have HBE:Hid (∀i0 i1 i2 v0 v1 v2,Below w.heap.size w (((wr.setCell ⟨B,i0,none⟩ v0).setCell ⟨B,i1,none⟩ v1).setCell ⟨B,i2,none⟩ v2)):=fun i0 i1 i2 v0 v1 v2=>by
    have h:=bstep HBW.out hbr.out;have hle:w.heap.size≤B:=by have:=HBB.out;omega
    exact ((h.setCell (p:=⟨B,i0,none⟩) hle v0).setCell (p:=⟨B,i1,none⟩) hle v1).setCell (p:=⟨B,i2,none⟩) hle v2
   have hm1:=HK1.out.below hbr.out HK1.out.lt;have hc1:=hm1.cells;have hf1:=hm1.froz;clear hbr hm1;go_wp2;refine bodyPost_ret (v:=.tuple #[.agg #[.bool false,.int .i64 0,.int .i64 0],.bool false]) (by simp[results,Tryz.results150,go_sem,hc1]) rfl ⟨_,_,_,_,rfl,HBE.out _ _ _ _ _ _⟩
end Go.Proofs.YtmmbjngbeiokeaaGreatDoor
