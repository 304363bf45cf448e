/- A part of the proof: K2. -/
import Derived.Deep.Cut
import Derived.Deep.CutRange
import Derived.Test.YtfajelpcfnfjkaaGreatDoorA19
import Derived.Test.YtfajelpcfnfjkaaGreatDoorA22
set_option linter.unusedVariables false
set_option linter.unusedSimpArgs false
namespace Go.Proofs.YtfajelpcfnfjkaaGreatDoor
open Go.RowKit
structure Sg where
 op:Int
 name:ByteArray
 ty:Ty
deriving DecidableEq
def Sg.cells (s:Sg):List Value:=[.int .i64 s.op,.string s.name,.bool s.ty.truth,.int .i64 s.ty.money,.int .i64 s.ty.days]
def sgs (l:List Sg):List Value:=l.flatMap Sg.cells
def sigFit (n:Nd) (s:Sg):Bool:=decide (s.op=n.op)&&(decide (s.name=n.name)&&(rightB s.ty&&(decide (s.op≠24)|| !s.ty.truth)))
def sigOf (l:List Sg) (n:Nd):Option Ty:=(l.find? (sigFit n)).map Sg.ty
theorem Rd.row {α:Type} (enc:α→List Value) (m:Nat) (hm:∀a,(enc a).length=m) (h0:0<m) {w:World} {A:Option Addr} {l:List α} (h:Rd w A (l.flatMap enc)) {j:Nat} (hj:j<l.length):
  ∃b off,A=some ⟨b,off,none⟩∧b<w.heap.size∧∀i v,(enc l[j])[i]?=some v→w.cell? ⟨b,off+j*m+i,none⟩=some v:=by
 have hlen:(l.flatMap enc).length=l.length*m:=by
  clear h hj
  induction l with
  |nil=>simp
  |cons a l ih=>rw[List.flatMap_cons,List.length_append,hm,ih,List.length_cons,Nat.succ_mul];omega
 have hpos:(l.flatMap enc).length≠0:=by rw[hlen];exact Nat.ne_of_gt (Nat.mul_pos (by omega) h0)
 rcases h with h|⟨b,off,hA,hb,hc⟩
 ·rw[h] at hpos;exact absurd rfl hpos
 ·refine⟨b,off,hA,hb,fun i v hv=>?_⟩;have hi:i<m:=by rw[←hm l[j]];exact (List.getElem?_eq_some_iff.1 hv).1
  have h1:=flatMap_get enc m hm l j i hi;rw[List.getElem?_eq_getElem hj] at h1;have h2:(l.flatMap enc)[j*m+i]?=some v:=h1.trans hv;obtain⟨h3,h4⟩:=List.getElem?_eq_some_iff.1 h2;have:=hc (j*m+i) h3;rw[h4] at this;rw[Nat.add_assoc];exact this
theorem sigOf_no {l:List Sg} {n:Nd} (h:∀i (hi:i<l.length),sigFit n l[i]=false):sigOf l n=none:=by
 unfold sigOf;rw[List.find?_eq_none.2]
 ·rfl
 ·intro s hs;obtain⟨i,hi,rfl⟩:=List.getElem_of_mem hs;rw[h i hi];simp
theorem sigOf_at {l:List Sg} {n:Nd} {j:Nat} (hj:j<l.length) (h:∀i (hi:i<j),sigFit n (l[i]'(by omega))=false) (hf:sigFit n l[j]=true):sigOf l n=some l[j].ty:=by
 unfold sigOf
 have:l.find? (sigFit n)=some l[j]:=by
  rw[List.find?_eq_some_iff_getElem];exact⟨hf,j,hj,rfl,fun i hi=>by rw[h i hi];rfl⟩
 rw[this];rfl
def errPanic (z:Int):List PanicEntry:=[{v:=.iface 30 (.int .i64 z),recovered:=false}]
def SigPost (q:Option Ty) (e:Ending):Prop:=match q with
 |some t=>e=.returned t.v
 |none=>e=.panicked (errPanic 12)
set_option maxRecDepth 100000 in
set_option maxHeartbeats 1600000 in
theorem kSig_any (l:List Sg) (A:Option Addr) (k c:Nat) (n:Nd) (w:World) (hL:LaidK w) (hk:k=l.length) (hm:k≤maxLen) (hr:Rd w A (sgs l)):
  Calls Tryz.prog 121 #[.slice A k c,.agg #[.int .i64 n.op,.bool n.num.neg,.string n.num.num,.string n.num.den,.string n.name]] w fun e w'=>SigPost (sigOf l n) e∧Below w.heap.size w w':=by
 have HNO:=Lib.hid (fun h=>sigOf_no (l:=l) (n:=n) h);have HAT:=Lib.hid (fun j hj h hf=>sigOf_at (l:=l) (n:=n) (j:=j) hj h hf);obtain⟨q,hq⟩:∃q,sigOf l n=q:=⟨_,rfl⟩
 rw[hq] at HNO HAT⊢;obtain⟨nop,⟨nneg,nnum,nden⟩,nnm⟩:=n;have HFIT:Hid (∀s:Sg,sigFit ⟨nop,⟨nneg,nnum,nden⟩,nnm⟩ s=(decide (s.op=nop)&&(decide (s.name=nnm)&&(rightB s.ty&&(decide (s.op≠24)|| !s.ty.truth))))):=fun s=>rfl
 generalize sigFit ⟨nop,⟨nneg,nnum,nden⟩,nnm⟩=fit at*;simp only
 obtain⟨W,hW⟩:∃W,W=(w.alloc (.cells #[.int .i64 nop,.bool nneg,.string nnum,.string nden,.string nnm] 56)).alloc (.cells #[.bool false,.int .i64 0,.int .i64 0] 40):=⟨_,rfl⟩
 obtain⟨B,hB⟩:∃B,B=w.heap.size:=⟨_,rfl⟩
 have HK0:Hid (Blk W B 56 [.int .i64 nop,.bool nneg,.string nnum,.string nden,.string nnm]):=by show Blk _ _ _ _;rw[hW,hB];exact (Blk.new w _ _).alloc _
 have HK1:Hid (Blk W (B+1) 40 [.bool false,.int .i64 0,.int .i64 0]):=by
  show Blk _ _ _ _;have h:=Blk.new (w.alloc (.cells #[.int .i64 nop,.bool nneg,.string nnum,.string nden,.string nnm] 56)) 40 #[.bool false,.int .i64 0,.int .i64 0];rw[World.size_alloc] at h;rw[hW,hB];exact h
 have HBW:Hid (Below w.heap.size w W):=by show Below _ _ _;rw[hW];exact ((Below.refl _ _).alloc (Nat.le_refl _) _).alloc (by rw[World.size_alloc];omega) _
 have HBB:=Lib.hid hB;have HL:Hid (∀W,Below w.heap.size w W→LaidK W):=fun W hb=>hL.below hb
 have HR:=Lib.hid hr;have HKL:=Lib.hid hk;have hm2:k≤9223372036854775807:=by unfold maxLen at hm;omega
 clear hq hr hL hk hm;go_enter Tryz.func121,Tryz.ntmps121
 go_upto_region 1 with fail
 simp only[←hW,←hB]
 clear hW hB;go_wp2
 go_loopg [9] k (fun g iv wr=>∃j:Nat,j+g=k∧iv=.int .i64 j∧Hid (∀i (hi:i<l.length),i<j→fit l[i]=false)∧Hid (Below W.heap.size W wr))
 case atStart=>exact⟨0,by omega,rfl,(fun i hi h=>absurd h (by omega)),Below.refl _ _⟩
 case round=>
  obtain⟨j,hj,rfl,hall,hbr⟩:=hrel;by_cases hlt:j<k
  ·have hjl:j<l.length:=by rw[←HKL.out];exact hlt
   obtain⟨b,off,hA,hb,hc⟩:=Rd.row Sg.cells 5 (fun _=>rfl) (by omega) HR.out hjl;subst hA;have HAJ:=Lib.hid (HAT.out j hjl);have hfs:=HFIT.out l[j]
   have HALL:Hid (fit l[j]=false→∀i (hi:i<l.length),i<j+1→fit l[i]=false):=fun h i hi hij=>by
    by_cases hij2:i<j
    ·exact hall.out i hi hij2
    ·obtain rfl:i=j:=by omega
     exact h
   have HALL0:Hid (∀i (hi:i<j),fit (l[i]'(by omega))=false):=fun i hi=>hall.out i (by omega) hi
   generalize fit l[j]=ff at*;generalize l[j]=s at*;obtain⟨sop,snm,⟨st,sm,sd⟩⟩:=s;simp only at hfs;have hbr0:=bstep HBW.out hbr.out;have d0:=(hbr0.cell hb).trans (hc 0 _ rfl);have d1:=(hbr0.cell hb).trans (hc 1 _ rfl);have d2:=(hbr0.cell hb).trans (hc 2 _ rfl);have d3:=(hbr0.cell hb).trans (hc 3 _ rfl);have d4:=(hbr0.cell hb).trans (hc 4 _ rfl);simp only[Nat.add_zero] at d0;have HFS:=Lib.hid hfs;clear hc hfs hbr0 hall HAT
   go_upto_region 4 with fail
   obtain⟨W5,hW5⟩:∃W5,W5=wr.alloc (.cells #[.int .i64 sop,.string snm,.bool st,.int .i64 sm,.int .i64 sd] 72):=⟨_,rfl⟩
   obtain⟨N,hN⟩:∃N,N=wr.heap.size:=⟨_,rfl⟩
   have HC0:Hid (Blk W5 B 56 [.int .i64 nop,.bool nneg,.string nnum,.string nden,.string nnm]):=by show Blk _ _ _ _;rw[hW5];exact (HK0.out.below hbr.out HK0.out.lt).alloc _
   have HC1:Hid (Blk W5 (B+1) 40 [.bool false,.int .i64 0,.int .i64 0]):=by show Blk _ _ _ _;rw[hW5];exact (HK1.out.below hbr.out HK1.out.lt).alloc _
   have HC2:Hid (Blk W5 N 72 [.int .i64 sop,.string snm,.bool st,.int .i64 sm,.int .i64 sd]):=by show Blk _ _ _ _;rw[hW5,hN];exact Blk.new wr _ _
   have HBR:Hid (Below W.heap.size W W5):=by show Below _ _ _;rw[hW5];exact bstep hbr.out ((Below.refl _ _).alloc (Nat.le_refl _) _)
   simp only[←hW5,←hN]
   clear hW5 hN hbr d0 d1 d2 d3 d4
   go_cut [9,40] from 9 to 43 (fun jv qv wc=>jv=.int .i64 (j:Int)∧qv=.bool ff∧Blk wc B 56 [.int .i64 nop,.bool nneg,.string nnum,.string nden,.string nnm]∧Blk wc (B+1) 40 [.bool false,.int .i64 0,.int .i64 0]∧Blk wc N 72 [.int .i64 sop,.string snm,.bool st,.int .i64 sm,.int .i64 sd]∧Below W.heap.size W wc)
   case first=>
    clear HAJ HALL HALL0 HNO;have hc0:=HC0.out.cells;have hc2:=HC2.out.cells;by_cases h1:sop=nop
    ·subst h1;by_cases h2:snm=nnm
     ·subst h2;have HRT:=Lib.hid (fun W h=>kRight_any ⟨st,sm,sd⟩ W h);obtain⟨rb,hrb⟩:∃rb,rightB ⟨st,sm,sd⟩=rb:=⟨_,rfl⟩
      rw[hrb] at HRT;have hff:ff=(rb&&(decide (sop≠24)|| !st)):=by rw[HFS.out,hrb,decide_eq_true rfl,decide_eq_true rfl];rfl
      clear HFS hrb HFIT;unfold Ty.v at HRT;go_wp2_with fail;refine (HRT.out _ (HL.out _ (bstep HBW.out HBR.out))).mono ?_;rintro e w6 ⟨rfl,hb6⟩;have hm0:=HC0.out.below hb6 HC0.out.lt;have hm1:=HC1.out.below hb6 HC1.out.lt;have hm2':=HC2.out.below hb6 HC2.out.lt;replace HBR:=Lib.hid (bstep HBR.out hb6);have hc0:=hm0.cells;have hc2:=hm2'.cells;have HM0:=Lib.hid hm0;have HM1:=Lib.hid hm1;have HM2:=Lib.hid hm2';clear hb6 hm0 hm1 hm2' HC0 HC1 HC2 HRT;cases rb
      ·obtain rfl:ff=false:=by rw[hff];rfl
       clear hff;go_wp2
       go_meet
       case rel=>exact⟨rfl,rfl,HM0.out,HM1.out,HM2.out,HBR.out⟩
      ·by_cases h3:sop=24
       ·subst h3;cases st
        ·obtain rfl:ff=true:=by rw[hff];rfl
         clear hff;go_wp2
         go_meet
         case rel=>exact⟨rfl,rfl,HM0.out,HM1.out,HM2.out,HBR.out⟩
        ·obtain rfl:ff=false:=by rw[hff];rfl
         clear hff;go_wp2
         go_meet
         case rel=>exact⟨rfl,rfl,HM0.out,HM1.out,HM2.out,HBR.out⟩
       ·obtain rfl:ff=true:=by rw[hff,decide_eq_true h3];rfl
        have h3b:(sop !=24)=true:=by simp[h3]
        have h3c:(sop==24)=false:=by simp[h3]
        clear hff;go_wp2
        go_meet
        case rel=>exact⟨rfl,rfl,HM0.out,HM1.out,HM2.out,HBR.out⟩
     ·obtain rfl:ff=false:=by rw[HFS.out,decide_eq_false h2,Bool.false_and,Bool.and_false]
      have h2b:¬(snm.toList=nnm.toList):=fun h=>h2 (by rw[ByteArray.toList_eq,ByteArray.toList_eq] at h;exact ByteArray.ext (Array.toList_inj.1 h))
      have h2c:(snm.toList==nnm.toList)=false:=beq_eq_false_iff_ne.2 h2b;clear HFS HFIT;go_wp2
      go_meet
      case rel=>exact⟨rfl,rfl,HC0.out,HC1.out,HC2.out,HBR.out⟩
    ·obtain rfl:ff=false:=by rw[HFS.out,decide_eq_false h1,Bool.false_and]
     have h1b:(sop==nop)=false:=beq_eq_false_iff_ne.2 h1;clear HFS HFIT;go_wp2
     go_meet
     case rel=>exact⟨rfl,rfl,HC0.out,HC1.out,HC2.out,HBR.out⟩
   case rest=>
    obtain⟨rfl,rfl,hm0,hm1,hm2',hbc⟩:=hcut;cases ff
    ·have HAN:=Lib.hid (HALL.out rfl);have HBC:=Lib.hid hbc;clear hm0 hm1 hm2' hbc HALL HALL0 HAJ;go_wp2
     go_roundg (k-(j+1))
     case measure=>omega
     case rel=>exact⟨j+1,by omega,by go_num,HAN,HBC⟩
    ·have HQ:=Lib.hid (HAJ.out HALL0.out rfl)
     have HBE:Hid (∀i0 i1 i2 v0 v1 v2,Below w.heap.size w (((wc.setCell ⟨B+1,i0,none⟩ v0).setCell ⟨B+1,i1,none⟩ v1).setCell ⟨B+1,i2,none⟩ v2)):=fun i0 i1 i2 v0 v1 v2=>by
      have h:=bstep HBW.out hbc;have hle:w.heap.size≤B+1:=by have:=HBB.out;omega
      exact ((h.setCell (p:=⟨B+1,i0,none⟩) hle v0).setCell (p:=⟨B+1,i1,none⟩) hle v1).setCell (p:=⟨B+1,i2,none⟩) hle v2
     have hc1:=hm1.cells;have hf1:=hm1.froz;have hc2:=hm2'.cells;have HM1:=Lib.hid hm1;clear HALL HALL0 HAJ hm0 hm2' hbc hm1;go_wp2;refine bodyPost_ret (v:=.agg #[.bool st,.int .i64 sm,.int .i64 sd]) (by simp[results,Tryz.results121,go_sem,hc1]) rfl ?_;rw[HQ.out];exact⟨rfl,HBE.out _ _ _ _ _ _⟩
  ·obtain rfl:j=k:=by omega
   have HQ:=Lib.hid (HNO.out (fun i hi=>hall.out i hi (by rw[HKL.out];exact hi)));have HBE:Hid (Below w.heap.size w wr):=bstep HBW.out hbr.out;clear hall hbr;go_wp2;rw[HQ.out];exact⟨rfl,rfl,HBE.out⟩
end Go.Proofs.YtfajelpcfnfjkaaGreatDoor
