/- A part of the proof: Y7. -/
import Derived.Deep.CutBlock
import Derived.Test.YtgfeadgafdijaaaGreatDoorJ01
import Derived.Test.YtgfeadgafdijaaaGreatDoorJ25
set_option linter.unusedVariables false
set_option linter.unusedSimpArgs false
set_option maxRecDepth 100000
set_option maxHeartbeats 40000000
namespace Go.Proofs.YtgfeadgafdijaaaGreatDoor
open Go.RowKit
def wK (sg:List Sg) (n:Nd) (l:List Ty):Ty × Int:=match qQ sg n with
 |none=>(aI,12)
 |some own=>if (dU n.op own l).2 then ((dU n.op own l).1,0) else (aI,13)
def Pq (l:List Ty):Bool:=decide (l.length=2)&&decide (tA l=tB l)
theorem X0 (sg:List Sg) (A1:Option Addr) (k1 c1:Nat) (n:Nd) (ts:List Ty) (A:Option Addr) (tn tc:Nat) (w:World) (hk1:k1=sg.length) (hm1:k1≤maxLen) (hr1:Rd w A1 (kM sg)) (ht:Bf w ts A tn tc) (ho:1≤n.op∧n.op≤24) (hl:ts.length=(aC n.op).ops) (hrt:∀t∈ts,aN t=true):
  Calls Tryz.prog 171 #[.slice A1 k1 c1,n.v,.slice A tn tc] w fun e w'=>e=.returned (.tuple #[(wK sg n ts).1.v,.int .i64 (wK sg n ts).2])∧Below w.heap.size w w':=by
 have HF:=zH (fun W (hb:Below w.heap.size w W)=>WR sg A1 k1 c1 n.op n.name W hk1 hm1 (hr1.below hb));have HON:Hid (qQ sg n=if sN n.op then zu sg n.op n.name else some aI):=by show _=_;unfold qQ;rw[abJ];split<;>rfl
 have mY:=zH (fun W=>IK n.op W);obtain⟨y,hy⟩:=zE (wK sg n ts);rw[←hy]
 have HY:Hid (y=match (if sN n.op then zu sg n.op n.name else some aI) with
  |none=>(aI,12)
  |some own=>if (dU n.op own ts).2 then ((dU n.op own ts).1,0) else (aI,13)):=by show _=_;rw[hy];unfold wK;rw[HON.out]
 obtain⟨q,hq⟩:=zF (zu sg n.op n.name);rw[hq] at HF HY;clear hy hk1 hm1 hr1 HON hq;obtain⟨op,⟨nn,nu,nd⟩,nm⟩:=n;unfold Nd.v;simp only at HF mY HY ho hl⊢;have rF:=zH hl;have iH:=zH hrt;have ahk:=zH ho;clear hl hrt ho;obtain⟨hk0,hk6,hba,_⟩:=Two.new w 48 32 #[.int .i64 op,.bool nn,.string nu,.string nd,.string nm] #[.bool false,.int .i64 0,.int .i64 0];go_enter Tryz.func171,Tryz.ntmps171
 go_upto_region 1 with fail
 generalize (w.alloc _).alloc _=W at hk0 hk6 hba⊢;have hc0:=hk0.cells;go_wp2_with fail;refine (HF.out _ hba).mono ?_;unfold WQ Ty.v;rintro e w1 ⟨rfl,hb1⟩
 go_upto_region 2 with fail
 generalize hX:w1.alloc _=W2;obtain⟨hk8,hb8⟩:=zA hX;have hb2:=ah (ah hba hb1) hb8;replace hk0:=(hk0.below hb1 hk0.lt).below hb8 (Nat.lt_of_lt_of_le hk0.lt hb1.size);replace hk6:=(hk6.below hb1 hk6.lt).below hb8 (Nat.lt_of_lt_of_le hk6.lt hb1.size);generalize hN:w1.heap.size=N8 at hk8⊢;have ht2:=ht.below hb2;clear hX hb1 hb8 hc0 hba;have hc:=fun (X:World) (hX:Below W2.heap.size W2 X)=>show (∀i,X.cell? ⟨w.heap.size,i,none⟩=_)∧(∀i,X.cell? ⟨w.heap.size+1,i,none⟩=_)∧(∀i,X.frozen? ⟨w.heap.size+1,i,none⟩=false)∧(∀i,X.cell? ⟨N8,i,none⟩=_) from⟨(hk0.below hX hk0.lt).cells,(hk6.below hX hk6.lt).cells,(hk6.below hX hk6.lt).aF,(hk8.below hX hk8.lt).cells⟩
 obtain⟨o,ho'⟩:=zF (sN op);rw[ho'] at HY mY
 go_cut [29] from 23 to 29 (fun v X=>v=.bool (o&& !q.isSome)∧Below W2.heap.size W2 X)
 case first=>
  have hc2:=hc W2 (Below.refl _ _);go_wp2_with fail;refine (mY.out _).mono ?_;rintro e w3 ⟨rfl,hb3⟩;cases o
  ·go_wp2
   go_meet
   case rel=>exact⟨rfl,hb3⟩
  ·go_wp2
   go_meet
   case rel=>exact⟨by cases q<;>rfl,hb3⟩
 case rest=>
  obtain⟨hv,hb⟩:=hcut;cases hvv:(o&& !q.isSome)
  ·rw[hvv] at hv;subst hv
   obtain⟨own,pI,HO⟩:∃own,Hid (y=if (dU op own ts).2 then ((dU op own ts).1,0) else (aI,13))∧Hid (o=true→own=q.getD aI):=by
    cases o
    ·exact⟨aI,HY.out,fun h=>by cases h⟩
    ·cases q with
     |none=>cases hvv
     |some g=>exact⟨g,HY.out,fun _=>rfl⟩
   clear HY hvv
   go_upto_region 4 with fail
   go_cut [10] from 31 to 42 (fun v X=>(∃z,v=.bool z∧Hid (z=Pq ts))∧Below W2.heap.size W2 X)
   case first=>
    have rP:=zH ht2.len;by_cases h2:tn=2
    ·subst h2;obtain⟨b,off,rfl,_,t0⟩:=ht2.at (j:=0) (by omega);obtain⟨b',off',e,_,t1⟩:=ht2.at (j:=1) (by omega);obtain⟨rfl,rfl⟩:b=b'∧off=off':=by injection e with e;injection e with e1 e2;exact⟨e1,e2⟩
     simp only[Nat.zero_mul,Nat.add_zero,Nat.one_mul,Nat.add_assoc,Nat.reduceAdd] at t0 t1;have HE:Hid (Pq ts=decide (ts.getD 0 aI=ts.getD 1 aI)):=by show _=_;unfold Pq;rw[←rP.out];rfl
     generalize ts.getD 0 aI=x0 at t0 HE;generalize ts.getD 1 aI=x1 at t1 HE;obtain⟨a0,a1,a2⟩:=x0;obtain⟨d0,d1,d2⟩:=x1;simp only at t0 t1;obtain⟨z,hz⟩:=zF (decide ((⟨a0,a1,a2⟩:Ty)=⟨d0,d1,d2⟩));rw[hz] at HE;refine gy (Below W2.heap.size W2) 99 hb.drew (fun w4 h4 hS=>?_)
     iterate 10 refine bU ?_
     refine bW 10 (v:=.bool z) ?_ (hy:=by intro w hS;go_simp;exact Oo hz)
     iterate 2 refine bU ?_
     refine dY ?_;go_wp2
     go_meet
     case rel=>exact⟨⟨_,rfl,HE.out.symm⟩,hS⟩
    ·have e2:((tn:Int)==2)=false:=by rw[beq_eq_false_iff_ne];omega
     have HE:Hid (Pq ts=false):=by show _=_;unfold Pq;rw[←rP.out,decide_eq_false h2];rfl
     clear h2;refine gy (Below W2.heap.size W2) 99 hb.drew (fun w4 h4 hS=>?_)
     iterate 4 refine bU ?_
     refine jw 4 ?_;refine jw 5 ?_;refine jw 6 ?_;refine jw 7 ?_;refine jw 8 ?_;refine jw 9 ?_;refine jw 10 ?_
     iterate 2 refine bU ?_
     refine dY ?_;go_wp2
     go_meet
     case rel=>exact⟨⟨_,rfl,HE.out.symm⟩,hS⟩
   case rest=>
    obtain⟨⟨z,rfl,HZ⟩,hb⟩:=hcut;have hc3:=hc _ hb
    go_upto_region 6 with fail
    generalize hX:wc.alloc _=W5;obtain⟨bY,hb5⟩:=zA hX;have hle:W2.heap.size≤wc.heap.size:=hb.size;generalize wc.heap.size=N at bY hle⊢;replace hb:=ah hb hb5;clear hX hb5 hc3;have hc3:=hc _ hb
    go_upto_block 0 with fail
    clear hc3
    go_cut [12] from 46 to 204 (fun v X=>v=.bool (dU op own ts).2∧∃t,aj X N 32 (Ty.cells t)∧Hid ((dU op own ts).2=true→t=(dU op own ts).1)∧Below W2.heap.size W2 X)
    case first=>
     have LY:=fun (X:World) (h:aj X N 32 (Ty.cells aI))=>And.intro h.cells h.aF
     have ho:=ahk.out;rcases (by omega:(op=1∨op=2∨op=3)∨op=4∨(op=5∨op=6∨op=7∨op=8)∨(op=9∨op=10∨op=13∨op=14)∨(op=11∨op=12)∨op=15∨op=16∨op=17∨(op=18∨op=19∨op=20)∨(op=21∨op=22∨op=23)∨op=24) with h|h|h|h|h|h|h|h|h|h|h
     ·as_aux_lemma=>
       clear ho;rcases h with rfl|rfl|rfl
       ·go_wp2_with fail;refine (og _ _ _).mono ?_;unfold vZ Ty.v;rintro e w6 ⟨rfl,hb6⟩;replace bY:=bY.below hb6 bY.lt;replace hb:=ah hb hb6;have hc4:=bY.cells;have hf4:=bY.aF;have fA:=zH (dL hb hle);have fD:=zH (fC bY);clear bY hb hb6;go_wp2
        go_meet
        case rel=>exact⟨rfl,⟨false,1,0⟩,fD.out ⟨false,1,0⟩,fun _=>rfl,fA.out ⟨false,1,0⟩⟩
       ·go_wp2_with fail;refine (og _ _ _).mono ?_;unfold vZ Ty.v;rintro e w6 ⟨rfl,hb6⟩;replace bY:=bY.below hb6 bY.lt;replace hb:=ah hb hb6;have hc4:=bY.cells;have hf4:=bY.aF;have fA:=zH (dL hb hle);have fD:=zH (fC bY);clear bY hb hb6;go_wp2
        go_meet
        case rel=>exact⟨rfl,⟨false,0,1⟩,fD.out ⟨false,0,1⟩,fun _=>rfl,fA.out ⟨false,0,1⟩⟩
       ·go_wp2_with fail;refine (og _ _ _).mono ?_;unfold vZ Ty.v;rintro e w6 ⟨rfl,hb6⟩;replace bY:=bY.below hb6 bY.lt;replace hb:=ah hb hb6;have hc4:=bY.cells;have hf4:=bY.aF;have fA:=zH (dL hb hle);have fD:=zH (fC bY);clear bY hb hb6;go_wp2
        go_meet
        case rel=>exact⟨rfl,⟨false,0,0⟩,fD.out ⟨false,0,0⟩,fun _=>rfl,fA.out ⟨false,0,0⟩⟩
     ·as_aux_lemma=>
       subst h;clear ho;go_wp2_with fail;refine (wX _).mono ?_;unfold vZ Ty.v aG;rintro e w6 ⟨rfl,hb6⟩;replace bY:=bY.below hb6 bY.lt;replace hb:=ah hb hb6;have hc4:=bY.cells;have hf4:=bY.aF;have fA:=zH (dL hb hle);have fD:=zH (fC bY);clear bY hb hb6;go_wp2
       go_meet
       case rel=>exact⟨rfl,aG,fD.out aG,fun _=>rfl,fA.out aG⟩
     ·as_aux_lemma=>
       have HG:=zH (fun (h:o=true)=>(HO.out h).symm);have hso:o=true:=by rcases h with rfl|rfl|rfl|rfl<;>exact ho'.symm
       have HW:=zH (HG.out hso);have HRR:Hid (dU op own ts=(own,true)):=by show _=_;rcases h with rfl|rfl|rfl|rfl<;>rfl
       clear ho' mY;generalize q.getD aI=g at*;obtain⟨g0,g1,g2⟩:=g;simp only at hc;have hc3:=hc _ hb;have hc4:=bY.cells;have hf4:=bY.aF;have fA:=zH (dL hb hle);have fD:=zH (fC bY);clear ho bY hb;rcases h with rfl|rfl|rfl|rfl
       all_goals
        go_wp2
        go_meet
        case rel=>exact⟨by rw[HRR.out],⟨g0,g1,g2⟩,fD.out ⟨g0,g1,g2⟩,fun _=>by rw[HRR.out];exact HW.out,fA.out ⟨g0,g1,g2⟩⟩
     ·as_aux_lemma=>
       obtain⟨x0,x1,rfl⟩:=DV (rF.out.trans (show (aC op).ops=2 by rcases h with rfl|rfl|rfl|rfl<;>rfl));obtain rfl:tn=2:=ht2.len;obtain⟨b,off,rfl,_,t0⟩:=ht2.at (j:=0) (by omega);obtain⟨b',off',e,_,t1⟩:=ht2.at (j:=1) (by omega);obtain⟨rfl,rfl⟩:b=b'∧off=off':=by injection e with e;injection e with e1 e2;exact⟨e1,e2⟩
       have jO:Hid (z=decide (x0=x1)):=HZ.out;have jc:=zH (fun W hb=>kP [x0,x1] _ 2 tc W (ht2.below hb));have oQ:Hid (jl [x0,x1]=(!x0.truth&&(!x1.truth&&true))):=rfl;have HR2:=zH (And.intro (iH.out x0 (by simp)) (iH.out x1 (by simp)));clear e rF iH ho' mY HF;obtain⟨nb,hnb⟩:=zE (jl [x0,x1]);rw[←hnb] at jc oQ;clear hnb HZ;have HRR:Hid (dU op own [x0,x1]=(x0,decide (x0=x1)&& !x0.truth)):=by show _=_;rcases h with rfl|rfl|rfl|rfl<;>rfl
       obtain⟨a0,a1,a2⟩:=x0;simp only[List.getD_cons_zero,List.getD_cons_succ,Nat.zero_mul,Nat.add_zero,Nat.one_mul,Nat.add_assoc,Nat.reduceAdd] at t0 t1;have hc4:=bY.cells;have hf4:=bY.aF;have hcc:=And.intro (t0 _ hb) (t1 _ hb);have fA:=zH (dL hb hle);have fD:=zH (fC bY);clear ho bY hb t0 t1 pI;rcases h with rfl|rfl|rfl|rfl
       all_goals
        cases z
        ·go_wp2
         go_meet
         case rel=>exact⟨by rw[HRR.out,←jO.out];rfl,⟨a0,a1,a2⟩,fD.out ⟨a0,a1,a2⟩,fun _=>by rw[HRR.out],fA.out ⟨a0,a1,a2⟩⟩
        ·have hx:=of_decide_eq_true jO.out.symm;subst hx;go_wp2_with fail;refine (jc.out _ (fA.out ⟨a0,a1,a2⟩)).mono ?_;rintro e w6 ⟨rfl,hb6⟩;have jJ:=zH ((fD.out ⟨a0,a1,a2⟩).below hb6 (fD.out ⟨a0,a1,a2⟩).lt);have qE:=zH (ah (fA.out ⟨a0,a1,a2⟩) hb6);clear hb6;go_wp2
         go_meet
         case rel=>exact⟨by rw[oQ.out,HRR.out,←jO.out];cases a0<;>rfl,⟨a0,a1,a2⟩,jJ.out,fun _=>by rw[HRR.out],qE.out⟩
     ·as_aux_lemma=>
       rcases h with rfl|rfl
       ·obtain⟨x0,x1,rfl⟩:=DV (rF.out.trans (show (aC 11).ops=2 by rfl));obtain rfl:tn=2:=ht2.len;obtain⟨b,off,rfl,_,t0⟩:=ht2.at (j:=0) (by omega);obtain⟨b',off',e,_,t1⟩:=ht2.at (j:=1) (by omega);obtain⟨rfl,rfl⟩:b=b'∧off=off':=by injection e with e;injection e with e1 e2;exact⟨e1,e2⟩
        have jO:Hid (z=decide (x0=x1)):=HZ.out;have jc:=zH (fun W hb=>kP [x0,x1] _ 2 tc W (ht2.below hb));have oQ:Hid (jl [x0,x1]=(!x0.truth&&(!x1.truth&&true))):=rfl;have HR2:=zH (And.intro (iH.out x0 (by simp)) (iH.out x1 (by simp)));clear e rF iH ho' mY HF;obtain⟨nb,hnb⟩:=zE (jl [x0,x1]);rw[←hnb] at jc oQ;clear hnb HZ;have HRR:Hid (dU 11 own [x0,x1]=(⟨false,x0.aH+x1.aH,x0.days+x1.days⟩, !x0.truth&&(!x1.truth&&dZ (x0.aH+x1.aH) (x0.days+x1.days)))):=rfl;obtain⟨r1,r2,r3,r4⟩:=pX HR2.out.1;obtain⟨r5,r6,r7,r8⟩:=pX HR2.out.2;obtain⟨a0,a1,a2⟩:=x0;obtain⟨d0,d1,d2⟩:=x1;simp only[List.getD_cons_zero,List.getD_cons_succ,Nat.zero_mul,Nat.add_zero,Nat.one_mul,Nat.add_assoc,Nat.reduceAdd] at t0 t1;simp only at r1 r2 r3 r4 r5 r6 r7 r8 HRR;have hw1:IntKind.i64.wrap (a1+d1)=a1+d1:=IntWalk.i64_in _ (by omega);have hw2:IntKind.i64.wrap (a2+d2)=a2+d2:=IntWalk.i64_in _ (by omega);have hcc:=fun (X:World) (h:Below W2.heap.size W2 X∧aj X N 32 [.bool false,.int .i64 0,.int .i64 0])=>And.intro (And.intro (t0 X h.1) (t1 X h.1)) (And.intro h.2.cells h.2.aF)
        clear ho t0 t1 pI hc LY r1 r2 r3 r4 r5 r6 r7 r8
        go_upto_region 28 with fail
        refine gy (fun X=>Below W2.heap.size W2 X∧aj X N 32 [.bool false,.int .i64 0,.int .i64 0]) 23 ⟨hb.drew,bY.drew⟩ (fun w5 h5 hS=>?_)
        iterate 22 refine bU ?_
        refine eY 22 (og _ _ _) ?_;unfold vZ Ty.v;rintro e w6 ⟨rfl,hb6⟩;refine⟨_,rfl,⟨ah hS.1 hb6,hS.2.below hb6 hS.2.lt⟩,fun hS=>?_⟩;refine qg 23 (fun h=>absurd rfl h) (fun _=>?_);refine dY ?_;clear hcc;have fD:=zH (fC hS.2 ⟨false,a1+d1,a2+d2⟩);have fA:=zH (dL hS.1 hle ⟨false,a1+d1,a2+d2⟩);obtain⟨u,hu⟩:=zF (dZ (a1+d1) (a2+d2));have Ce:=zH (fun W=>sU ⟨false,a1+d1,a2+d2⟩ W);rw[show aN ⟨false,a1+d1,a2+d2⟩=u from hu] at Ce;rw[hu] at HRR;clear hS hb bY hb6 h5 hu;go_wp2_with fail;refine (jc.out _ fA.out).mono ?_;rintro e w7 ⟨rfl,hb7⟩;have jJ:=zH (fD.out.below hb7 fD.out.lt);have qE:=zH (ah fA.out hb7);clear hb7;cases nb
        ·go_wp2
         go_meet
         case rel=>exact⟨by rw[HRR.out];have h:=oQ.out;revert h;cases a0<;>cases d0<;>simp,_,jJ.out,fun _=>by rw[HRR.out],qE.out⟩
        ·have hc8:=jJ.out.cells;unfold Ty.cells at hc8;simp only at hc8;go_wp2_with fail;refine (Ce.out _).mono ?_;rintro e w8 ⟨rfl,hb8⟩;have HK9:=zH (jJ.out.below hb8 jJ.out.lt);have lG:=zH (ah qE.out hb8);clear hb8 hc8;go_wp2
         go_meet
         case rel=>exact⟨by rw[HRR.out];have h:=oQ.out;revert h;cases a0<;>cases d0<;>simp,_,HK9.out,fun _=>by rw[HRR.out],lG.out⟩
       ·obtain⟨x0,x1,rfl⟩:=DV (rF.out.trans (show (aC 12).ops=2 by rfl));obtain rfl:tn=2:=ht2.len;obtain⟨b,off,rfl,_,t0⟩:=ht2.at (j:=0) (by omega);obtain⟨b',off',e,_,t1⟩:=ht2.at (j:=1) (by omega);obtain⟨rfl,rfl⟩:b=b'∧off=off':=by injection e with e;injection e with e1 e2;exact⟨e1,e2⟩
        have jO:Hid (z=decide (x0=x1)):=HZ.out;have jc:=zH (fun W hb=>kP [x0,x1] _ 2 tc W (ht2.below hb));have oQ:Hid (jl [x0,x1]=(!x0.truth&&(!x1.truth&&true))):=rfl;have HR2:=zH (And.intro (iH.out x0 (by simp)) (iH.out x1 (by simp)));clear e rF iH ho' mY HF;obtain⟨nb,hnb⟩:=zE (jl [x0,x1]);rw[←hnb] at jc oQ;clear hnb HZ;have HRR:Hid (dU 12 own [x0,x1]=(⟨false,x0.aH-x1.aH,x0.days-x1.days⟩, !x0.truth&&(!x1.truth&&dZ (x0.aH-x1.aH) (x0.days-x1.days)))):=rfl;obtain⟨r1,r2,r3,r4⟩:=pX HR2.out.1;obtain⟨r5,r6,r7,r8⟩:=pX HR2.out.2;obtain⟨a0,a1,a2⟩:=x0;obtain⟨d0,d1,d2⟩:=x1;simp only[List.getD_cons_zero,List.getD_cons_succ,Nat.zero_mul,Nat.add_zero,Nat.one_mul,Nat.add_assoc,Nat.reduceAdd] at t0 t1;simp only at r1 r2 r3 r4 r5 r6 r7 r8 HRR;have hw1:IntKind.i64.wrap (a1-d1)=a1-d1:=IntWalk.i64_in _ (by omega);have hw2:IntKind.i64.wrap (a2-d2)=a2-d2:=IntWalk.i64_in _ (by omega);have hcc:=fun (X:World) (h:Below W2.heap.size W2 X∧aj X N 32 [.bool false,.int .i64 0,.int .i64 0])=>And.intro (And.intro (t0 X h.1) (t1 X h.1)) (And.intro h.2.cells h.2.aF)
        clear ho t0 t1 pI hc LY r1 r2 r3 r4 r5 r6 r7 r8
        go_upto_region 31 with fail
        refine gy (fun X=>Below W2.heap.size W2 X∧aj X N 32 [.bool false,.int .i64 0,.int .i64 0]) 23 ⟨hb.drew,bY.drew⟩ (fun w5 h5 hS=>?_)
        iterate 22 refine bU ?_
        refine eY 22 (og _ _ _) ?_;unfold vZ Ty.v;rintro e w6 ⟨rfl,hb6⟩;refine⟨_,rfl,⟨ah hS.1 hb6,hS.2.below hb6 hS.2.lt⟩,fun hS=>?_⟩;refine qg 23 (fun h=>absurd rfl h) (fun _=>?_);refine dY ?_;clear hcc;have fD:=zH (fC hS.2 ⟨false,a1-d1,a2-d2⟩);have fA:=zH (dL hS.1 hle ⟨false,a1-d1,a2-d2⟩);obtain⟨u,hu⟩:=zF (dZ (a1-d1) (a2-d2));have Ce:=zH (fun W=>sU ⟨false,a1-d1,a2-d2⟩ W);rw[show aN ⟨false,a1-d1,a2-d2⟩=u from hu] at Ce;rw[hu] at HRR;clear hS hb bY hb6 h5 hu;go_wp2_with fail;refine (jc.out _ fA.out).mono ?_;rintro e w7 ⟨rfl,hb7⟩;have jJ:=zH (fD.out.below hb7 fD.out.lt);have qE:=zH (ah fA.out hb7);clear hb7;cases nb
        ·go_wp2
         go_meet
         case rel=>exact⟨by rw[HRR.out];have h:=oQ.out;revert h;cases a0<;>cases d0<;>simp,_,jJ.out,fun _=>by rw[HRR.out],qE.out⟩
        ·have hc8:=jJ.out.cells;unfold Ty.cells at hc8;simp only at hc8;go_wp2_with fail;refine (Ce.out _).mono ?_;rintro e w8 ⟨rfl,hb8⟩;have HK9:=zH (jJ.out.below hb8 jJ.out.lt);have lG:=zH (ah qE.out hb8);clear hb8 hc8;go_wp2
         go_meet
         case rel=>exact⟨by rw[HRR.out];have h:=oQ.out;revert h;cases a0<;>cases d0<;>simp,_,HK9.out,fun _=>by rw[HRR.out],lG.out⟩
     ·as_aux_lemma=>
       subst h;obtain⟨x0,x1,x2,rfl⟩:=Zl (rF.out.trans (show (aC 15).ops=3 by rfl));obtain rfl:tn=3:=ht2.len;obtain⟨b,off,rfl,_,t0⟩:=ht2.at (j:=0) (by omega);obtain⟨b',off',e,_,t1⟩:=ht2.at (j:=1) (by omega);obtain⟨rfl,rfl⟩:b=b'∧off=off':=by injection e with e;injection e with e1 e2;exact⟨e1,e2⟩
       obtain⟨b',off',e',_,t2⟩:=ht2.at (j:=2) (by omega);obtain⟨rfl,rfl⟩:b=b'∧off=off':=by injection e' with e;injection e with e1 e2;exact⟨e1,e2⟩
       have HRR:Hid (dU 15 own [x0,x1,x2]=(x1,decide (x0=aG)&&decide (x1=x2))):=rfl;have HR2:=zH (iH.out x0 (by simp));obtain⟨a0,a1,a2⟩:=x0;obtain⟨d0,d1,d2⟩:=x1;obtain⟨f0,f1,f2⟩:=x2;simp only[List.getD_cons_zero,List.getD_cons_succ,Nat.zero_mul,Nat.add_zero,Nat.one_mul,Nat.add_assoc,Nat.reduceAdd,Nat.reduceMul] at t0 t1 t2;obtain⟨y1,hy1⟩:=zF (decide ((⟨d0,d1,d2⟩:Ty)=⟨f0,f1,f2⟩));rw[hy1] at HRR;have hcc:=fun (X:World) (h:Below W2.heap.size W2 X)=>And.intro (t0 X h) (And.intro (t1 X h) (t2 X h))
       have hc3:=hcc _ hb;have hc4:=bY.cells;have hf4:=bY.aF;have fA:=zH (dL hb hle ⟨d0,d1,d2⟩);have fD:=zH (fC bY ⟨d0,d1,d2⟩);clear ho t0 t1 t2 pI hc LY e e' rF iH ho' mY HF bY hb HZ
       go_upto_region 35 with fail
       clear hc3 hc4 hf4;refine gy (Below W2.heap.size W2) 99 fA.out.drew (fun w5 h5 hS=>?_);replace fD:=zH (fD.out.below h5 fD.out.lt);cases a0
       ·iterate 5 refine bU ?_
        refine jw 5 ?_;refine jw 6 ?_;refine jw 7 ?_;refine jw 8 ?_;refine jw 9 ?_;refine jw 10 ?_;refine jw 11 ?_
        iterate 2 refine bU ?_
        refine dY ?_;clear hcc hy1;go_wp2
        go_meet
        case rel=>exact⟨by rw[HRR.out];unfold aG;simp,_,fD.out,fun _=>by rw[HRR.out],hS⟩
       ·have HT:Hid (decide ((⟨true,a1,a2⟩:Ty)=aG)=true):=HR2.out
        iterate 11 refine bU ?_
        refine bW 11 (v:=.bool y1) ?_ (hy:=by intro w hS;go_simp;exact Oo hy1)
        iterate 2 refine bU ?_
        refine dY ?_;clear hcc hy1;go_wp2
        go_meet
        case rel=>exact⟨by rw[HRR.out,HT.out];rfl,_,fD.out,fun _=>by rw[HRR.out],hS⟩
     ·as_aux_lemma=>
       subst h;obtain⟨x0,x1,rfl⟩:=DV (rF.out.trans (show (aC 16).ops=2 by rfl));obtain rfl:tn=2:=ht2.len;obtain⟨b,off,rfl,_,t0⟩:=ht2.at (j:=0) (by omega);obtain⟨b',off',e,_,t1⟩:=ht2.at (j:=1) (by omega);obtain⟨rfl,rfl⟩:b=b'∧off=off':=by injection e with e;injection e with e1 e2;exact⟨e1,e2⟩
       have jO:Hid (z=decide (x0=x1)):=HZ.out;have jc:=zH (fun W hb=>kP [x0,x1] _ 2 tc W (ht2.below hb));have oQ:Hid (jl [x0,x1]=(!x0.truth&&(!x1.truth&&true))):=rfl;have HR2:=zH (And.intro (iH.out x0 (by simp)) (iH.out x1 (by simp)));clear e rF iH ho' mY HF;obtain⟨nb,hnb⟩:=zE (jl [x0,x1]);rw[←hnb] at jc oQ;clear hnb HZ;have HRR:Hid (dU 16 own [x0,x1]=(aG,decide (x0=x1)&& !x0.truth)):=rfl;clear t0 t1 pI hc LY ho;go_wp2_with fail;refine (wX _).mono ?_;unfold vZ Ty.v aG;rintro e w6 ⟨rfl,hb6⟩;replace bY:=bY.below hb6 bY.lt;replace hb:=ah hb hb6;have hc4:=bY.cells;have hf4:=bY.aF;have fA:=zH (dL hb hle aG);have fD:=zH (fC bY aG);clear bY hb hb6;cases z
       ·go_wp2
        go_meet
        case rel=>exact⟨by rw[HRR.out,←jO.out];rfl,aG,fD.out,fun _=>by rw[HRR.out],fA.out⟩
       ·go_wp2_with fail;refine (jc.out _ fA.out).mono ?_;rintro e w7 ⟨rfl,hb7⟩;have jJ:=zH (fD.out.below hb7 fD.out.lt);have qE:=zH (ah fA.out hb7);clear hb7;go_wp2
        go_meet
        case rel=>exact⟨by have hx:=of_decide_eq_true jO.out.symm;rw[oQ.out,HRR.out,←jO.out,←hx];cases x0.truth<;>rfl,aG,jJ.out,fun _=>by rw[HRR.out],qE.out⟩
     ·as_aux_lemma=>
       subst h;obtain⟨x0,x1,rfl⟩:=DV (rF.out.trans (show (aC 17).ops=2 by rfl));obtain rfl:tn=2:=ht2.len;obtain⟨b,off,rfl,_,t0⟩:=ht2.at (j:=0) (by omega);obtain⟨b',off',e,_,t1⟩:=ht2.at (j:=1) (by omega);obtain⟨rfl,rfl⟩:b=b'∧off=off':=by injection e with e;injection e with e1 e2;exact⟨e1,e2⟩
       have jO:Hid (z=decide (x0=x1)):=HZ.out;have jc:=zH (fun W hb=>kP [x0,x1] _ 2 tc W (ht2.below hb));have oQ:Hid (jl [x0,x1]=(!x0.truth&&(!x1.truth&&true))):=rfl;have HR2:=zH (And.intro (iH.out x0 (by simp)) (iH.out x1 (by simp)));clear e rF iH ho' mY HF;obtain⟨nb,hnb⟩:=zE (jl [x0,x1]);rw[←hnb] at jc oQ;clear hnb HZ;have HRR:Hid (dU 17 own [x0,x1]=(aG,decide (x0=x1))):=rfl;clear t0 t1 pI hc LY ho;go_wp2_with fail;refine (wX _).mono ?_;unfold vZ Ty.v aG;rintro e w6 ⟨rfl,hb6⟩;replace bY:=bY.below hb6 bY.lt;replace hb:=ah hb hb6;have hc4:=bY.cells;have hf4:=bY.aF;have fA:=zH (dL hb hle aG);have fD:=zH (fC bY aG);clear bY hb hb6;go_wp2
       go_meet
       case rel=>exact⟨by rw[HRR.out,←jO.out],aG,fD.out,fun _=>by rw[HRR.out],fA.out⟩
     ·as_aux_lemma=>
       have HRR:Hid (dU op own ts=(aG,ts.all fun t=>t.truth)):=by
        show _=_;rw[show (ts.all fun t=>t.truth)=ts.all fun t=>decide (t=aG) from WU iH.out];rcases h with rfl|rfl|rfl<;>rfl
       have zS:=zH ht2.len;have hm:tn≤9223372036854775807:=by have h1:=ht2.cap;have h2:=ht2.max;unfold maxLen at h2;omega
       clear pI hc LY ho rF iH ho' mY HF HZ;rcases h with rfl|rfl|rfl
       all_goals
        go_wp2_with fail;refine (wX _).mono ?_;unfold vZ Ty.v aG;rintro e w6 ⟨rfl,hb6⟩;have hk12:=bY.below hb6 bY.lt;have eP:=ah hb hb6;have hc4:=hk12.cells;have hf4:=hk12.aF;have fA:=zH (dL eP hle aG);have fD:=zH (fC hk12 aG);clear hk12 eP hb6;go_wp2;clear hc4 hf4
        go_loopg [12,13] tn (fun g v iv X=>∃(j:Nat) (p:Bool),j+g=tn∧v=.bool p∧iv=.int .i64 j∧Hid (Below W2.heap.size W2 X∧aj X N 32 (Ty.cells aG))∧Hid ((p&&(ts.drop j).all fun t=>t.truth)=ts.all fun t=>t.truth))
        case atStart=>exact⟨0,true,by omega,rfl,rfl,⟨fA.out,fD.out⟩,rfl⟩
        case round=>
         clear fA fD;obtain⟨j,p,hj,rfl,rfl,hX,HE⟩:=hrel;by_cases hlt:j<tn
         ·obtain⟨b,off,rfl,_,t0⟩:=ht2.at hlt;have hx:j<ts.length:=by rw[←zS.out];exact hlt
          have he:=HE.out;rw[List.drop_eq_getElem_cons hx,List.all_cons] at he;have e:ts.getD j aI=ts[j]:=by rw[List.getD_eq_getElem?_getD,List.getElem?_eq_getElem hx];rfl
          rw[e] at t0;have hc1:=t0 _ hX.out.1;generalize (ts[j]).truth=x at he hc1;replace HE:=zH he;clear he e t0;cases p
          ·go_wp2
           go_roundg (tn-(j+1))
           case measure=>omega
           case rel=>exact⟨j+1,false,by omega,rfl,by go_num,hX.out,by rw[←HE.out];rfl⟩
          ·go_wp2
           go_roundg (tn-(j+1))
           case measure=>omega
           case rel=>exact⟨j+1,x,by omega,rfl,by go_num,hX.out,by rw[←HE.out];rfl⟩
         ·have HE2:Hid (p=ts.all fun t=>t.truth):=by have h:=HE.out;rw[List.drop_eq_nil_of_le (by have:=zS.out;omega)] at h;show _=_;rw[←h];simp
          clear HE;go_wp2
          go_meet
          case rel=>exact⟨by rw[HRR.out,HE2.out],aG,hX.out.2,fun _=>by rw[HRR.out],hX.out.1⟩
     ·as_aux_lemma=>
       obtain⟨x0,rfl⟩:=WT (rF.out.trans (show (aC op).ops=1 by rcases h with rfl|rfl|rfl<;>rfl));obtain rfl:tn=1:=ht2.len;obtain⟨b,off,rfl,_,t0⟩:=ht2.at (j:=0) (by omega);have jc:=zH (fun W hb=>kP [x0] _ 1 tc W (ht2.below hb));have oQ:Hid (jl [x0]=(!x0.truth&&true)):=rfl;obtain⟨nb,hnb⟩:=zE (jl [x0]);rw[←hnb] at jc oQ;have HRR:Hid (dU op own [x0]=(x0, !x0.truth)):=by show _=_;rcases h with rfl|rfl|rfl<;>rfl
       obtain⟨a0,a1,a2⟩:=x0;simp only[List.getD_cons_zero,Nat.zero_mul,Nat.add_zero] at t0;have hc1:=t0 _ hb;have hc4:=bY.cells;have hf4:=bY.aF;have fA:=zH (dL hb hle ⟨a0,a1,a2⟩);have fD:=zH (fC bY ⟨a0,a1,a2⟩);clear pI hc LY ho rF iH ho' mY HF HZ hnb bY hb t0;rcases h with rfl|rfl|rfl
       all_goals
        go_wp2_with fail;refine (jc.out _ fA.out).mono ?_;rintro e w7 ⟨rfl,hb7⟩;have jJ:=zH (fD.out.below hb7 fD.out.lt);have qE:=zH (ah fA.out hb7);clear hb7;go_wp2
        go_meet
        case rel=>exact⟨by rw[oQ.out,HRR.out];simp,_,jJ.out,fun _=>by rw[HRR.out],qE.out⟩
     ·as_aux_lemma=>
       subst h;obtain⟨x0,rfl⟩:=WT (rF.out.trans (show (aC 24).ops=1 by rfl));obtain rfl:tn=1:=ht2.len;obtain⟨b,off,rfl,_,t0⟩:=ht2.at (j:=0) (by omega);have jc:=zH (fun W hb=>kP [x0] _ 1 tc W (ht2.below hb));have oQ:Hid (jl [x0]=(!x0.truth&&true)):=rfl;obtain⟨nb,hnb⟩:=zE (jl [x0]);rw[←hnb] at jc oQ;have HW:Hid (own=q.getD aI):=HO.out ho'.symm;have HRR:Hid (dU 24 own [x0]=(own,decide (x0=own))):=rfl;rw[HW.out] at HRR;generalize q.getD aI=gg at*;obtain⟨a0,a1,a2⟩:=x0;obtain⟨g0,g1,g2⟩:=gg;simp only[List.getD_cons_zero,Nat.zero_mul,Nat.add_zero] at t0 hc;obtain⟨y1,hy1⟩:=zF (decide ((⟨a0,a1,a2⟩:Ty)=⟨g0,g1,g2⟩));rw[hy1] at HRR;have hc3:=hc _ hb;have hc4:=bY.cells;have hf4:=bY.aF;have fA:=zH (dL hb hle ⟨g0,g1,g2⟩);have fD:=zH (fC bY ⟨g0,g1,g2⟩);have hcc:=fun (X:World) (h:Below W2.heap.size W2 X)=>And.intro (t0 X h) (hc X h).2.2.2
       clear pI hc LY ho rF iH mY HF HZ hnb bY hb t0 HO
       go_upto_region 57 with fail
       clear hc3 hc4 hf4;refine gy (Below W2.heap.size W2) 99 fA.out.drew (fun w5 h5 hS=>?_);replace fD:=zH (fD.out.below h5 fD.out.lt)
       iterate 4 refine bU ?_
       refine bW 4 (v:=.bool y1) ?_ (hy:=by intro w hS;go_simp;exact Oo hy1);refine bU ?_;refine dY ?_;clear hcc hy1;go_wp2
       go_meet
       case rel=>exact⟨by rw[HW.out,HRR.out],_,fD.out,fun _=>by rw[HW.out,HRR.out],hS⟩
    case rest=>
     clear bY hb;obtain⟨rfl,t,hkt,HT,hb⟩:=hcut;have hc3:=hc _ hb;have hct:=hkt.cells;have aeg:=hk6.below hb hk6.lt;cases hp:(dU op own ts).2
     ·have HE:Hid (y=(aI,13)):=by show _=_;rw[pI.out,hp];rfl
      have h1:=(fC aeg aI).cells;have h2:=dL (ah hb2 hb) (Nat.le_succ _) aI;unfold Bd aI at h1 h2;clear hc hkt hct HT;go_wp2;exact bodyPost_ret (v:=.tuple #[Ty.v aI,.int .i64 13]) (by simp[results,Tryz.results171,go_sem,h1,Ty.v,Ty.cells,aI]) rfl ⟨by rw[HE.out],h2⟩
     ·have HE:Hid (y=(t,0)):=by show _=_;rw[pI.out,if_pos hp,HT.out hp]
      obtain⟨t0,t1,t2⟩:=t;unfold Ty.cells at hct;simp only at hct;have h1:=(fC aeg ⟨t0,t1,t2⟩).cells;have h2:=dL (ah hb2 hb) (Nat.le_succ _) ⟨t0,t1,t2⟩;unfold Bd at h1 h2;clear hc hkt HT;go_wp2;exact bodyPost_ret (v:=.tuple #[Ty.v ⟨t0,t1,t2⟩,.int .i64 0]) (by simp[results,Tryz.results171,go_sem,h1,Ty.v,Ty.cells]) rfl ⟨by rw[HE.out],h2⟩
  ·rw[hvv] at hv;subst hv
   have HE:Hid (y=(aI,12)):=by
    show _=_;cases o
    ·cases hvv
    ·cases q with
     |none=>exact HY.out
     |some g=>cases hvv
   clear hvv;have hc3:=hc _ hb;go_wp2;have h1:=(fC (hk6.below hb hk6.lt) aI).cells;have h2:=dL (ah hb2 hb) (Nat.le_succ _) aI;unfold Bd aI at h1 h2;exact bodyPost_ret (v:=.tuple #[Ty.v aI,.int .i64 12]) (by simp[results,Tryz.results171,go_sem,h1,Ty.v,Ty.cells,aI]) rfl ⟨by rw[HE.out],h2⟩
end Go.Proofs.YtgfeadgafdijaaaGreatDoor
