/- A part of the proof: Kb Kc U0 U1 U2. -/
import Derived.Deep.Cut
import Derived.Deep.CutRange
import Derived.Deep.RegionHeld3
import Derived.Test.YtmmbjngbeiokeaaGreatDoorF01
import Derived.Test.YtmmbjngbeiokeaaGreatDoorF16
import Derived.Test.YtmmbjngbeiokeaaGreatDoorF17
import Derived.Test.YtmmbjngbeiokeaaGreatDoorF21
import Derived.Test.YtmmbjngbeiokeaaGreatDoorF26
import Derived.Test.YtmmbjngbeiokeaaGreatDoorF30
set_option linter.unusedVariables false
set_option linter.unusedSimpArgs false
set_option maxRecDepth 100000
set_option maxHeartbeats 40000000
namespace Go.Proofs.YtmmbjngbeiokeaaGreatDoor
open Go.RowKit
theorem Keeps.onl {B lo:Nat} {w W:World} (h:Onl B w W) (hl:B<lo):Keeps lo w W:=⟨h.size,fun b h1 h2=>h.block b h2 (by omega)⟩
theorem Onl.more {G:Nat} {a w w':World} (h:Onl G a w) (hb:Below a.heap.size w w'):Onl G a w':=
 ⟨hb.os.trans h.os,hb.tape.trans h.tape,hb.output.trans h.output,Nat.le_trans h.size hb.size,fun k hk hne=>(hb.block k hk).trans (h.block k hk hne)⟩
theorem Onl.grown {G:Nat} {a w:World} (h:Onl G a w):a.grownBy w (some G):=⟨h.os,h.tape,h.output,h.size,fun k hk hne=>h.block k hk (fun e=>hne (by rw[e]))⟩
theorem info_ty:(Tryz.prog.info? 35).map (fun i=>(i.zero,i.size,i.bytes))=some (some (.agg #[.bool false,.int .i64 0,.int .i64 0]),3,24):=by kernel_rfl
theorem tys_append (a b:List Ty):tys (a++b)=tys a++tys b:=List.flatMap_append
theorem shp_ops3 (op:Int):(shp op).ops≤3:=by
 unfold shp;rw[List.getD_eq_getElem?_getD];rcases Nat.lt_or_ge op.toNat shs.length with h|h
 ·rw[List.getElem?_eq_getElem h];exact (by decide:∀s∈shs,s.ops≤3) _ (List.getElem_mem h)
 ·rw[List.getElem?_eq_none h];decide
theorem types_panic (z:Int) (w wx:World) (B:Nat) (tm:Array Value) (v v':Value) (hk0:Blk wx B 184 [v]) (hk1:Blk wx (B+1) 44 [v']) (hB:B=w.heap.size) (hbe:Below w.heap.size w wx)
  (h4:tm[4]?=some (.pointer (some ⟨B,0,none⟩))) (h5:tm[5]?=some (.pointer (some ⟨B+1,0,none⟩))):
  bodyPostD Tryz.prog Tryz.f111 (RetTys ([],z) w) (Exit.panic (errPanic z)) {tmps:=tm,defers:=[{target:=.fn (.func 145) #[.pointer (some ⟨B,0,none⟩),.pointer (some ⟨B+1,0,none⟩)],args:=#[]}]} wx:=by
 have hc0:wx.cell? ⟨B,0,none⟩=some v:=hk0.cells 0;have hc1:wx.cell? ⟨B+1,0,none⟩=some v':=hk1.cells 0;unfold errPanic;refine leaves_cons (f:=145) (args:=#[.pointer (some ⟨B,0,none⟩),.pointer (some ⟨B+1,0,none⟩)]) (by simp) (by simp[go_sem]) ?_;refine (kcatch_panicking B (B+1) z _ _ [] wx hc0 hc1 (hk0.froz 0) (hk1.froz 0) (by omega) (by omega)).mono ?_;rintro e u' w6 ⟨rfl,rfl,rfl⟩
 have hd0:((wx.setCell ⟨B,0,none⟩ (.slice none 0 0)).setCell ⟨B+1,0,none⟩ (.int .i64 z)).cell? ⟨B,0,none⟩=some (.slice none 0 0):=by
  rw[World.cell?_setCell_other _ _ _ _ (by simp)];exact World.cell?_setCell_same' _ _ _ (by rw[hc0];rfl)
 have hd1:((wx.setCell ⟨B,0,none⟩ (.slice none 0 0)).setCell ⟨B+1,0,none⟩ (.int .i64 z)).cell? ⟨B+1,0,none⟩=some (.int .i64 z):=
  World.cell?_setCell_same' _ _ _ (by rw[World.cell?_setCell_other _ _ _ _ (by simp),hc1];rfl)
 simp[Leaves,settle,results,Tryz.results111,go_sem,hd0,hd1,h4,h5];exact RetTys.bad ((hbe.setCell (p:=⟨B,0,none⟩) (by show _≤B;omega) _).setCell (p:=⟨B+1,0,none⟩) (by show _≤B+1;omega) _)
theorem kTypes_ok (sg:List Sg) (es:List Nd) (A1 A2:Option Addr) (k1 c1 l2 c2:Nat) (w:World) (hL:LaidK w) (hk1:k1=sg.length) (hm1:k1≤maxLen) (hr1:Rd w A1 (sgs sg)) (h2:Es w es A2 l2 c2) (hf:∀n∈es,Fine n) (hz:checkE es=0):
  Calls Tryz.prog 111 #[.slice A1 k1 c1,.slice A2 l2 c2] w (RetTys (typesE sg es) w):=by
 have HC:Hid (∀W,Below w.heap.size w W→Calls Tryz.prog 30 #[.slice A2 l2 c2] W fun e w'=>e=.returned (.int .i64 0)∧Below W.heap.size W w'):=fun W hb=>by
  have h:=check_any es A2 l2 c2 W (hL.below hb).e (h2.below hb).len (h2.below hb).cap (h2.below hb).max (h2.below hb).rd hf;rw[hz] at h;exact h
 have HAG:Hid (∀W,Below w.heap.size w W→Calls Tryz.prog 100 #[.slice A2 l2 c2] W (RetFr true (argsE es) W)):=fun W hb=>by
  have h:=eArgs_fr es A2 l2 c2 W (hL.below hb).e (h2.below hb) hf;rw[hz,if_pos rfl] at h;exact h
 have HARG:=zH (fun j hj=>argsE_ok hz j hj);have h60:=(checkE_pos hz).2
 have HSG:Hid (∀W nd,Below w.heap.size w W→Calls Tryz.prog 147 #[.slice A1 k1 c1,Nd.v nd] W fun e w'=>SigPost (sigOf sg nd) e∧Below W.heap.size W w'):=fun W nd hb=>
  kSig_any sg A1 k1 c1 nd W (hL.below hb) hk1 hm1 (hr1.below hb)
 have HAL:Hid ((argsE es).length=es.length):=runA_length _ _ _;obtain⟨res,hres⟩:∃r,r=typesE sg es:=⟨_,rfl⟩
 have HTR:Hid (tyGo sg es (argsE es) []=res):=by show _=_;rw[hres];unfold typesE;rw[if_pos hz]
 rw[←hres];have H2:=zH h2;have HL:Hid (∀W,Below w.heap.size w W→LaidK W):=fun W hb=>hL.below hb
 have hl2:l2≤60:=by rw[h2.len];exact h60
 generalize argsE es=ags at*;clear hL hk1 hm1 hr1 h2 hf hz h60 hres;have hmf:=mkf_run;obtain⟨W,hW⟩:=zE ((w.alloc (.cells #[.slice none 0 0] 184)).alloc (.cells #[.int .i64 0] 44));have htwo:=kTwo_new w 184 44 #[.slice none 0 0] #[.int .i64 0];rw[←hW] at htwo;obtain⟨hk0,hk1,hba,hsz⟩:=htwo;clear hsz;obtain⟨B,hB⟩:=zE w.heap.size;rw[←hB] at hk0 hk1;have HB:=zH hB;have HK0:=zH hk0;have HK1:=zH hk1;have HBA:=zH hba;clear hk0 hk1 hba
 go_enter_defers Tryz.func111,Tryz.ntmps111
 go_wp2_with fail;simp only[←hW,←hB]
 clear hW hB;refine (HC.out W HBA.out).mono ?_;rintro e w5 ⟨rfl,hb5⟩;replace HK0:=zH (HK0.out.below hb5 HK0.out.lt);replace HK1:=zH (HK1.out.below hb5 HK1.out.lt);replace HBA:=zH (bstep HBA.out hb5);clear hb5 HC;go_wp2_with fail;refine (HAG.out w5 HBA.out).mono ?_;rintro e w6 ⟨A6,n6,c6,rfl,hag,hb6,hfr6,cs6,hrd6,hll6⟩;have HB5:Hid (B+1<w5.heap.size):=HK1.out.lt;replace HK0:=zH (HK0.out.below hb6 HK0.out.lt);replace HK1:=zH (HK1.out.below hb6 HK1.out.lt);replace HBA:=zH (bstep HBA.out hb6);have HN6:=zH hag.len;have HFR:=zH hfr6;have HRD:=zH hrd6;have HLL:=zH hll6;have HS6:Hid (w5.heap.size≤w6.heap.size):=hb6.size;clear hag hb6 hfr6 hrd6 hll6 HAG;go_wp2_with fail;refine (kRules_any w6 (HL.out _ HBA.out)).mono ?_;rintro e w7 ⟨⟨rb,rfl,hru⟩,hb7⟩;replace HK0:=zH (HK0.out.below hb7 HK0.out.lt);replace HK1:=zH (HK1.out.below hb7 HK1.out.lt);replace HBA:=zH (bstep HBA.out hb7);have HRU:=zH hru;have HO7:Hid (Onl B w6 w7):=Onl.of_below hb7;clear hru hb7;go_wp2
 go_loopg [32] l2 (fun g iv wr=>∃(j:Nat) (ts:List Ty) (v:Value),j+g=l2∧iv=.int .i64 j∧ts.length=j∧Hid (tyGo sg (es.drop j) (ags.drop j) ts=res)∧Hid (∀t∈ts,rightB t=true)∧
  Hid (Blk wr B 184 [v])∧Hid (Blk wr (B+1) 44 [.int .i64 0])∧Hid (wr.ownsRow w7.heap.size 35 3 v j (tys ts))∧Hid (Onl B w7 wr)∧Hid (Below w.heap.size w wr))
 case atStart=>exact⟨0,[],.slice none 0 0,by omega,rfl,rfl,HTR.out,(fun t h=>by cases h),HK0,HK1,World.ownsRow_nil _ _ _ _,Onl.refl _ _,HBA⟩
 case round=>
  obtain⟨j,ts,v,hj,rfl,htl,hty,hrt,hk0,hk1,hown,hon,hbr⟩:=hrel;clear HK0 HK1 HBA HTR;by_cases hlt:j<l2
  ·have hje:j<es.length:=by rw[←H2.out.len];exact hlt
   obtain⟨row,hrow,hrl,hrx,hwn⟩:=HARG.out j hje;have hdE:=List.drop_eq_getElem_cons hje
   have hdA:ags.drop j=row::ags.drop (j+1):=by
    have hja:j<ags.length:=by rw[HAL.out];exact hje
    rw[List.drop_eq_getElem_cons hja];rw[List.getElem?_eq_getElem hja] at hrow;injection hrow with hrow;rw[hrow]
   have hty2:=hty.out;rw[hdE,hdA] at hty2;obtain⟨hop1,hop2⟩:=wrong_op hwn;obtain⟨b,off,hA,hb,hc0,hc1,hc2,hc3,hc4⟩:=(H2.out.rd.below hbr.out).nd hje;subst hA;generalize es[j]=nd at*;obtain⟨op,⟨neg,num,den⟩,nm⟩:=nd;simp only at hc0 hc1 hc2 hc3 hc4 hop1 hop2 hrl;obtain⟨p,rfl⟩:∃p:Nat,op=p:=⟨op.toNat,by omega⟩
   have HTY:=zH hty2;have HRX:=zH hrx;have HRL:=zH hrl;obtain⟨vr,hvr,hrow1⟩:=(HLL.out.step (X':=fun _=>False) (HO7.out.trans hon.out).grown (fun g h=>by injection h with h;subst h;have:=HB5.out;show _<_;omega) (fun g h=>h.elim)).row j row hrow;clear hdE hdA hty2 hty hwn hrx hrl;obtain⟨hlo,hrb,hrk⟩:=HRU.out.keeps (Keeps.onl hon.out (by have:=HB5.out;have:=HS6.out;omega));obtain⟨f,hq0,hq1,hrv⟩:=hrk p (by omega) (by omega);rw[Nat.mul_comm] at hq0 hq1;have htwo:=kTwo_new wr 87 35 #[.int .i64 (p:Int),.bool neg,.string num,.string den,.string nm] #[.bool false,.int .i64 0,.int .i64 0];obtain⟨WB,hWB⟩:=zE ((wr.alloc (.cells #[.int .i64 (p:Int),.bool neg,.string num,.string den,.string nm] 87)).alloc (.cells #[.bool false,.int .i64 0,.int .i64 0] 35));obtain⟨N,hN⟩:=zE wr.heap.size;rw[←hWB,←hN] at htwo;obtain⟨hn0,hn1,hnb,hsz⟩:=htwo;rw[hN] at hnb;have HQ0:=zH hq0;have HQ1:=zH hq1;have HRV:=zH hrv;have HRB:=zH hrb;have HN0:=zH hn0;have HN1:=zH hn1;have HNB:=zH hnb;have HNE:=zH hN;clear hsz hlo hrk hq0 hq1 hrv hrb hn0 hn1 hnb
   go_upto_region 12 with fail
   simp only[←hWB,←hN]
   clear hWB hN hc0 hc1 hc2 hc3 hc4;have hn0:=HN0.out.cells;have hq0:=(HNB.out.cell HRB.out).trans HQ0.out;obtain⟨sb,hsb⟩:=zF (sigB (p:Int));rw[hsb] at hq0;have HSB:=zH hsb;clear hsb
   go_upto_if 42 with fail
   clear hn0 hq0
   go_cut [42] from 42 to 45 (fun qv wc=>∃own:Ty,Hid (ownT sg ⟨(p:Int),⟨neg,num,den⟩,nm⟩=some own)∧Hid (Blk wc N 87 [.int .i64 (p:Int),.bool neg,.string num,.string den,.string nm])∧Hid (Blk wc (N+1) 35 own.cells)∧Hid (Below wr.heap.size wr wc))
   case first=>
    have hn0:=HN0.out.cells;cases sb
    ·go_wp2
     go_meet
     case rel=>exact⟨tPlain,(by show _=_;unfold ownT;rw[if_neg (by rw[HSB.out];simp)]),HN0,HN1,HNB⟩
    ·go_wp2_with fail;refine (HSG.out _ ⟨(p:Int),⟨neg,num,den⟩,nm⟩ (bstep hbr.out HNB.out)).mono ?_;rintro e w9 ⟨hsp,hb9⟩;obtain⟨q,hq⟩:=zF (sigOf sg ⟨(p:Int),⟨neg,num,den⟩,nm⟩);rw[hq] at hsp;have hot:ownT sg ⟨(p:Int),⟨neg,num,den⟩,nm⟩=q:=by unfold ownT;rw[if_pos HSB.out,hq]
     cases q with
     |none=>
      obtain rfl:e=.panicked (errPanic 12):=hsp;obtain rfl:res=([],12):=by rw[←HTY.out,tyGo_none hot]
      have hk0':=hk0.out.below (bstep HNB.out hb9) hk0.out.lt;have hk1':=hk1.out.below (bstep HNB.out hb9) hk1.out.lt;have HBE:Hid (Below w.heap.size w w9):=bstep hbr.out (bstep HNB.out hb9);clear hb9 hq hot hn0;go_wp2;exact types_panic 12 w w9 B _ _ _ hk0' hk1' HB.out HBE.out rfl rfl
     |some t=>
      obtain rfl:e=.returned t.v:=hsp;obtain⟨tt,tm,td⟩:=t;have hn1':=HN1.out.below hb9 HN1.out.lt;have hn1c:=hn1'.cells;have hn1f:=hn1'.froz;have HN0':=zH (HN0.out.below hb9 HN0.out.lt);have HN1':=zH hn1';have HB9:=zH (bstep HNB.out hb9);have HOT:=zH hot;clear hb9 hn1' hq hot hn0;unfold Ty.v;go_wp2
      go_meet
      case rel=>
       refine⟨⟨tt,tm,td⟩,HOT,?_,?_,?_⟩
       ·exact ((HN0'.out.other (by show N≠N+1;omega) _).other (by show N≠N+1;omega) _).other (by show N≠N+1;omega) _
       ·exact ((HN1'.out.set 0 _).set 1 _).set 2 _
       ·exact below_st3 (B:=N+1) HB9.out (by have:=HNE.out;omega) _ _ _
   case rest=>
    obtain⟨own,hot,hm0,hm1,hbc⟩:=hcut;have hor:=zH (ownT_right hot.out);obtain⟨Ar,cr,rfl,hr1,hr2,hrd,_⟩:=hrow1;obtain⟨b6,o6,hA6,hb6,hc6⟩:=HRD.out.at_ (k:=j) (by rw[HLL.out.len,HAL.out];exact hje);replace hc6:=hc6 j (by rw[HLL.out.len,HAL.out];exact hje)
    have hv6:cs6[j]'(by rw[HLL.out.len,HAL.out];exact hje)=.slice Ar row.length cr:=by
     rw[List.getElem?_eq_getElem (by rw[HLL.out.len,HAL.out];exact hje)] at hvr;injection hvr
    rw[hv6] at hc6;have hb6B:b6≠B:=by have h1:=HFR.out _ hA6;have h2:=HB5.out;show b6≠B;have h3:w5.heap.size≤b6:=h1;omega
    have hc6c:wc.cell? ⟨b6,o6+j,none⟩=some (.slice Ar row.length cr):=by
     rw[hbc.out.cell (Nat.lt_of_lt_of_le hb6 (HO7.out.trans hon.out).size),World.cell?_of_block ((HO7.out.trans hon.out).block b6 hb6 hb6B)];exact hc6
    subst hA6;have hjn:j<n6:=by rw[HN6.out,HAL.out];exact hje
    have HM0:=hm0;have HM1:=hm1;have HBC:=hbc;have HOT:=hot;have HK0:Hid (Blk wc B 184 [v]):=hk0.out.below hbc.out hk0.out.lt;have HK1:Hid (Blk wc (B+1) 44 [.int .i64 0]):=hk1.out.below hbc.out hk1.out.lt;have HOW:Hid (wc.ownsRow w7.heap.size 35 3 v j (tys ts)):=own_below hown.out hbc.out;have HRW:Hid (Rd wc Ar (I row)):=hrd.below hbc.out;have hrow3:row.length≤3:=by rw[HRL.out];exact shp_ops3 _
    clear hot hm0 hm1 hbc hrd hv6 hc6 hvr hb6 hb6B hk0 hk1 hown hrow;go_wp2
    go_loopg [13,51] row.length (fun g lv iv wq=>∃i:Nat,i+g=row.length∧iv=.int .i64 i∧Hid (wq.ownsRow wc.heap.size 35 3 lv i (tys (rowT ts (row.take i))))∧Hid (Below wc.heap.size wc wq))
    case atStart=>exact⟨0,by omega,rfl,World.ownsRow_nil _ _ _ _,Below.refl _ _⟩
    case round=>
     obtain⟨i,hi,rfl,hol,hbq⟩:=hrel;by_cases hil:i<row.length
     ·have hxj:row[i]<j:=HRX.out _ (List.getElem_mem hil);obtain⟨br,orr,rfl,hbr9,hcr⟩:=HRW.out.i hil;have hgd:row.getD i 0=row[i]:=by rw[List.getD_eq_getElem?_getD,List.getElem?_eq_getElem hil];rfl
      rw[hgd] at hcr;obtain⟨Av,cv,rfl,hv1,hv2,hvr,hvl⟩:=own_rd HOW.out;have hxt:row[i]<ts.length:=by rw[htl];exact hxj
      obtain⟨bv,ov,rfl,hbv,hx0,hx1,hx2⟩:=hvr.ty hxt
      have HST:Hid (tys (rowT ts (row.take (i+1)))=tys (rowT ts (row.take i))++Ty.cells ts[row[i]]):=by
       show _=_;rw[List.take_succ_eq_append_getElem hil];unfold rowT;rw[List.map_append,tys_append];congr 1;show Ty.cells (ts.getD row[i] tPlain)++[]=_;rw[List.append_nil,List.getD_eq_getElem?_getD,List.getElem?_eq_getElem hxt];rfl
      generalize ts[row[i]]=tx at*;obtain⟨tt,tm,td⟩:=tx;generalize row[i]=x at*;have hk0c:wr.cell? ⟨B,0,none⟩=some (.slice (some ⟨bv,ov,none⟩) j cv):=(hbq.out.cell HK0.out.lt).trans (HK0.out.cells 0);have hcr':=(hbq.out.cell hbr9).trans hcr;have hx0':=(hbq.out.cell hbv).trans hx0;have hx1':=(hbq.out.cell hbv).trans hx1;have hx2':=(hbq.out.cell hbv).trans hx2;simp only at hx0' hx1' hx2';clear hx0 hx1 hx2 hcr hvr hvl hxt hgd;go_wp2_with (at_builtin;go_must (refine wpList_push wr #[.bool tt,.int .i64 tm,.int .i64 td] rfl _ _ 184 rfl wc.heap.size 35 _ 3 24 1 Tryz.underlying184 info_ty rfl (by decide) u13 i (tys (rowT ts (row.take i))) rfl hol.out rfl rfl ?_ ?_ ?_ ?_ ?_))
      any_goals first|(unfold maxLen;omega)|omega
      ·exact⟨rfl,rfl,rfl⟩
      ·exact hbq.out.size
      intro v' w' hown' hb';have HOWN2:Hid (w'.ownsRow wc.heap.size 35 3 v' (i+1) (tys (rowT ts (row.take (i+1))))):=by show World.ownsRow _ _ _ _ _ _ _;rw[HST.out];exact hown'
      have HBQ:=zH (hbq.out.trans hb');clear hown' hb';go_wp2
      go_roundg (row.length-(i+1))
      case measure=>omega
      case rel=>exact⟨i+1,by omega,by go_num,HOWN2,HBQ⟩
     ·have hie:i=row.length:=by omega
      have hol2:=hol.out;rw[hie,List.take_length] at hol2;clear hol;have HWB9:=zH (bstep hbr.out (bstep HBC.out hbq.out));obtain⟨g,lb,rfl,heg,hcall⟩:=HRV.out.keeps (Keeps.of (bstep HBC.out hbq.out) _);obtain⟨Al,cl,rfl,hl1,hl2',hlr,_⟩:=own_rd hol2
      have HCALL0:=zH (fun W hb=>hcall own (rowT ts row) Al row.length cl W (Keeps.of hb _) (HL.out _ (bstep HWB9.out hb)) (by unfold rowT;rw[List.length_map]) hl1 (Nat.le_trans hl1 hl2') (hlr.below hb)
       (fun t ht=>by unfold rowT at ht;obtain⟨k,_,rfl⟩:=List.mem_map.1 ht;exact right_getD hrt.out k) (by unfold rowT;rw[List.length_map];exact HRL.out))
      obtain⟨rt,hrt9⟩:=zE ((ruleT (p:Int) own (rowT ts row)).1);obtain⟨ok,hok⟩:=zE ((ruleT (p:Int) own (rowT ts row)).2);rw[←hrt9,←hok] at HCALL0;have HRT:=zH hrt9;have HOK:=zH hok;obtain⟨ra,rm,rd'⟩:=rt;obtain⟨oa,om,od⟩:=own;have hq1:=((bstep HBC.out hbq.out).cell HRB.out).trans HQ1.out;have hn0:wr.cell? ⟨N,0,none⟩=some (.int .i64 (p:Int)):=(hbq.out.cell HM0.out.lt).trans (HM0.out.cells 0);have ho0:wr.cell? ⟨N+1,0,none⟩=some (.bool oa):=(hbq.out.cell HM1.out.lt).trans (HM1.out.cells 0);have ho1:wr.cell? ⟨N+1,1,none⟩=some (.int .i64 om):=(hbq.out.cell HM1.out.lt).trans (HM1.out.cells 1);have ho2:wr.cell? ⟨N+1,2,none⟩=some (.int .i64 od):=(hbq.out.cell HM1.out.lt).trans (HM1.out.cells 2);have HCALL:Hid (∀W,Below wr.heap.size wr W→Calls Tryz.prog g (#[.agg #[.bool oa,.int .i64 om,.int .i64 od],.slice Al row.length cl]++lb) W fun e w'=>e=.returned (.tuple #[.agg #[.bool ra,.int .i64 rm,.int .i64 rd'],.bool ok])∧Below W.heap.size W w'):=HCALL0.out
      have HSS:Hid (∀W,Below wr.heap.size wr W→Below wr.heap.size wr W∧W.cell? ⟨N,0,none⟩=some (.int .i64 (p:Int))∧W.cell? ⟨rb,p*2+1,none⟩=some (.func (.func g) #[] lb)∧W.cell? ⟨N+1,0,none⟩=some (.bool oa)∧W.cell? ⟨N+1,1,none⟩=some (.int .i64 om)∧W.cell? ⟨N+1,2,none⟩=some (.int .i64 od)):=fun W hb=>
       ⟨hb,(hb.cell (Nat.lt_of_lt_of_le HM0.out.lt hbq.out.size)).trans hn0,(hb.cell (Nat.lt_of_lt_of_le HRB.out (bstep HBC.out hbq.out).size)).trans hq1,(hb.cell (Nat.lt_of_lt_of_le HM1.out.lt hbq.out.size)).trans ho0,(hb.cell (Nat.lt_of_lt_of_le HM1.out.lt hbq.out.size)).trans ho1,(hb.cell (Nat.lt_of_lt_of_le HM1.out.lt hbq.out.size)).trans ho2⟩
      clear hrt9 hok hcall HCALL0 hlr hn0 hq1 ho0 ho1 ho2;have hp25:(p:Int)<25:=by omega
      go_upto_region 19 with fail
      go_cut [16,17] from 33 to 74 (fun pv okv wy=>∃b9:Nat,pv=.pointer (some ⟨b9,0,none⟩)∧okv=.bool ok∧Hid (Blk wy b9 35 [.bool ra,.int .i64 rm,.int .i64 rd'])∧Hid (Below wr.heap.size wr wy))
      case first=>
       refine wp_region_noPanic ?_;refine wp_region_held_drew (S:=(fun w'=>Below wr.heap.size wr w'∧w'.cell? ⟨N,0,none⟩=some (.int .i64 (p:Int))∧w'.cell? ⟨rb,p*2+1,none⟩=some (.func (.func g) #[] lb)∧w'.cell? ⟨N+1,0,none⟩=some (.bool oa)∧w'.cell? ⟨N+1,1,none⟩=some (.int .i64 om)∧w'.cell? ⟨N+1,2,none⟩=some (.int .i64 od))) (by kernel_rfl) (HSS.out _ (drewN_below wr.heap.size wr 1)) (fun hHeld=>?_);refine tkZ 0 ?_;refine tkZ 1 ?_;refine tkZ 2 ?_;refine tkZ 3 ?_;refine tkZ 4 ?_;refine tkZ 5 ?_;refine tkZ 6 ?_;refine tkZ 7 ?_;refine tkR2 8 12 (fun K hK=>?_) fun K hK=>?_
       ·skip
        go_simp;have hbS:=hHeld.1;refine (HCALL.out _ hbS).mono ?_;rintro e w10 ⟨rfl,hb10⟩;have HBT:=zH (bstep hbS hb10);go_wp2_with fail;refine tkK hK (HSS.out _ (HBT.out)) fun hHeld=>?_
        clear hK K;refine tkZ 9 ?_;refine tkZ 10 ?_;refine tkZ 11 ?_;refine tkR 12 fun K hK=>?_
        go_simp;go_wp2_with fail;refine tkK hK (HSS.out _ (bstep HBT.out (zB _ _))) fun hHeld=>?_
        clear hK K;refine tkR 13 fun K hK=>?_
        go_simp;go_wp2_with fail;refine tkK hK (HSS.out _ (bstep HBT.out (zB _ _))) fun hHeld=>?_
        clear hK K;refine tkZ 14 ?_;refine wpAnyH_done (by kernel_rfl) ?_ _;refine NoPanic.normal ?_;go_wp2
        go_meet
        case rel=>exact⟨_,rfl,rfl,Blk.new _ _ _,bstep HBT.out (zB _ _)⟩
       ·skip
        go_simp;go_wp2_with fail;refine tkK hK (HSS.out _ (below_drewN (zB _ _) 1)) fun hHeld=>?_
        clear hK K;refine tkR 8 fun K hK=>?_
        go_simp;have hbS:=hHeld.1;refine (HCALL.out _ hbS).mono ?_;rintro e w10 ⟨rfl,hb10⟩;have HBT:=zH (bstep hbS hb10);have HBM:=zH (((Blk.new wr 35 #[.bool false,.int .i64 0,.int .i64 0]).drewN 1).below hb10 ((Blk.new wr _ _).drewN 1).lt);have hcm:=HBM.out.cells;have hfm:=HBM.out.froz;go_wp2_with fail;refine tkK hK (HSS.out _ HBT.out) fun hHeld=>?_
        clear hK K;refine tkZ 9 ?_;refine tkZ 10 ?_;refine tkZ 11 ?_;refine tkR 13 fun K hK=>?_
        go_simp;go_wp2_with fail;refine tkK hK (HSS.out _ (below_st3 (B:=wr.heap.size) HBT.out (Nat.le_refl _) _ _ _)) fun hHeld=>?_
        clear hK K;refine tkZ 14 ?_;refine wpAnyH_done (by kernel_rfl) ?_ _;refine NoPanic.normal ?_;go_wp2
        go_meet
        case rel=>exact⟨_,rfl,rfl,((HBM.out.set 0 _).set 1 _).set 2 _,below_st3 (B:=wr.heap.size) HBT.out (Nat.le_refl _) _ _ _⟩
      case rest=>
       obtain⟨b9,rfl,rfl,hk9,hby⟩:=hcut;have HBY:=zH (bstep HBC.out (bstep hbq.out hby.out));have hk0y:=HK0.out.below (bstep hbq.out hby.out) HK0.out.lt;have hk1y:=HK1.out.below (bstep hbq.out hby.out) HK1.out.lt;have HRO:=HOT;cases ok
       ·obtain rfl:res=([],13):=by rw[←HTY.out,tyGo_bad HOT.out HOK.out.symm]
        have HBE:=zH (bstep hbr.out HBY.out);clear hby hk9;go_wp2;exact types_panic 13 w wc B _ _ _ hk0y hk1y HB.out HBE.out rfl rfl
       ·have HTY2:Hid (tyGo sg (es.drop (j+1)) (ags.drop (j+1)) (ts++[⟨ra,rm,rd'⟩])=res):=by
         show _=_;rw[←HTY.out,tyGo_cons HOT.out HOK.out.symm,←HRT.out]
        have HRR:Hid (rightB ⟨ra,rm,rd'⟩=true):=by
         show _=_;rw[HRT.out];exact ruleT_right _ _ _ hor.out (fun t ht=>by unfold rowT at ht;obtain⟨k,_,rfl⟩:=List.mem_map.1 ht;exact right_getD hrt.out k) HOK.out.symm
        have HOWY:Hid (wc.ownsRow w7.heap.size 35 3 v j (tys ts)):=own_below HOW.out (bstep hbq.out hby.out);have hk9c:=hk9.out.cells;have hk0c:wc.cell? ⟨B,0,none⟩=some v:=hk0y.cells 0;have HD:Hid (B+1<w7.heap.size):=by have h1:=HB5.out;have h2:=HS6.out;have h3:=HO7.out.size;show _<_;omega
        have HSY:Hid (w7.heap.size≤wc.heap.size):=Nat.le_trans hon.out.size HBY.out.size;have HK0Y:=zH hk0y;have HK1Y:=zH hk1y;clear hk0y hk1y hby hk9 hol2;go_wp2_with (at_builtin;go_must (refine wpList_push wc #[.bool ra,.int .i64 rm,.int .i64 rd'] rfl _ _ 184 rfl w7.heap.size 35 _ 3 24 1 Tryz.underlying184 info_ty rfl (by decide) v j (tys ts) rfl HOWY.out rfl rfl ?_ ?_ ?_ ?_ ?_))
        any_goals first|(unfold maxLen;omega)|omega
        ·exact⟨rfl,rfl,rfl⟩
        ·exact HSY.out
        intro v' w' hown' hb';obtain⟨Av',cv',rfl,_⟩:=own_rd hown';have hk0':Blk w' B 184 [v]:=HK0Y.out.of_block (hb'.block B (by have:=HD.out;omega));have hk1':Blk w' (B+1) 44 [.int .i64 0]:=HK1Y.out.of_block (hb'.block (B+1) HD.out);have hk0c':w'.cell? ⟨B,0,none⟩=some v:=hk0'.cells 0;have hk0f':=hk0'.froz;have HK0':=zH hk0';have HK1':=zH hk1';have HBN:=zH hb';have HOWN':=zH hown';clear hk0' hk1' hb' hown' hk0c hk9c;go_wp2
        go_roundg (l2-(j+1))
        case measure=>omega
        case rel=>
         have hgs:=grown_set w' B 0 (.slice Av' (j+1) cv');refine⟨j+1,ts++[⟨ra,rm,rd'⟩],.slice Av' (j+1) cv',by omega,by go_num,by rw[List.length_append,htl];rfl,HTY2,?_,HK0'.out.set 0 _,HK1'.out.other (by show B+1≠B;omega) _,?_,?_,?_⟩
         ·intro t ht;rcases List.mem_append.1 ht with ht|ht
          ·exact hrt.out t ht
          ·rw[List.mem_singleton.1 ht];exact HRR.out
         ·show World.ownsRow _ _ _ _ _ _ _;rw[tys_append];refine HOWN'.out.kept hgs ?_;cases hv:(Value.slice Av' (j+1) cv').ownBlock with
          |none=>exact .inl rfl
          |some g=>exact .inr (fun h=>by have h1:=(HOWN'.out.lt g hv).1;have h2:g=B:=Option.some.inj h;have:=HD.out;omega)
         ·exact (((hon.out.more (HBY.out.mono hon.out.size)).more (HBN.out)).set 0 _)
         ·exact (((bstep hbr.out HBY.out).trans (HBN.out.mono (by have h1:=HB.out;have:=HD.out;omega))).setCell (p:=⟨B,0,none⟩) (by show _≤B;have h1:=HB.out;omega) _)
  ·obtain rfl:j=l2:=by omega
   have hres:res=(ts,0):=by
    rw[←hty.out,H2.out.len,List.drop_length];cases ags.drop es.length<;>rfl
   subst hres;obtain⟨Av,cv,rfl,hv1,hv2,hvr,hvl⟩:=own_rd hown.out;have hc0:wr.cell? ⟨B,0,none⟩=some (.slice Av j cv):=hk0.out.cells 0;have hc1:wr.cell? ⟨B+1,0,none⟩=some (.int .i64 0):=hk1.out.cells 0;have hf0:=hk0.out.froz;have hf1:=hk1.out.froz
   have HNE:Hid (∀ad,Av=some ad→w7.heap.size≤ad.block):=by
    obtain⟨A',c',hv,_,_,_,h4⟩:=own_rd2 hown.out;injection hv with e1 e2 e3;show ∀ad,_→_;rw[e1];exact h4
   have HD:Hid (B+1<w7.heap.size):=by have h1:=HB5.out;have h2:=HS6.out;have h3:=HO7.out.size;show _<_;omega
   have HBW:Hid (∀u u',Below w.heap.size w ((wr.setCell ⟨B,0,none⟩ u).setCell ⟨B+1,0,none⟩ u')):=fun u u'=>
    (hbr.out.setCell (p:=⟨B,0,none⟩) (by show _≤B;have:=HB.out;omega) u).setCell (p:=⟨B+1,0,none⟩) (by show _≤B+1;have:=HB.out;omega) u'
   have HVR:=zH hvr;clear hvr hvl hown hty hbr hk0 hk1;go_wp2;refine leaves_cons (f:=145) (args:=#[.pointer (some ⟨B,0,none⟩),.pointer (some ⟨B+1,0,none⟩)]) (by simp) (by simp[go_sem]) ?_;refine (kcatch_idle B (B+1) _).mono ?_;rintro e u' w7 ⟨rfl,rfl,rfl⟩
   have hd0:((wr.setCell ⟨B,0,none⟩ (.slice Av j cv)).setCell ⟨B+1,0,none⟩ (.int .i64 0)).cell? ⟨B,0,none⟩=some (.slice Av j cv):=by
    rw[World.cell?_setCell_other _ _ _ _ (by simp)];exact World.cell?_setCell_same' _ _ _ (by rw[hc0];rfl)
   have hd1:((wr.setCell ⟨B,0,none⟩ (.slice Av j cv)).setCell ⟨B+1,0,none⟩ (.int .i64 0)).cell? ⟨B+1,0,none⟩=some (.int .i64 0):=
    World.cell?_setCell_same' _ _ _ (by rw[World.cell?_setCell_other _ _ _ _ (by simp),hc1];rfl)
   simp[Leaves,settle,results,Tryz.results111,go_sem,hd0,hd1];refine⟨Av,j,cv,rfl,htl.symm,hv1,hv2,?_,HBW.out _ _⟩;exact rd_other (rd_other HVR.out ⟨B,0,none⟩ _ (fun ad h=>by have h1:=HNE.out ad h;have:=HD.out;show ad.block≠B;omega)) ⟨B+1,0,none⟩ _ (fun ad h=>by have h1:=HNE.out ad h;have:=HD.out;show ad.block≠B+1;omega)
theorem kTypes_any (sg:List Sg) (es:List Nd) (A1 A2:Option Addr) (k1 c1 l2 c2:Nat) (w:World) (hL:LaidK w) (hk1:k1=sg.length) (hm1:k1≤maxLen) (hr1:Rd w A1 (sgs sg)) (h2:Es w es A2 l2 c2) (hf:∀n∈es,Fine n):
  Calls Tryz.prog 111 #[.slice A1 k1 c1,.slice A2 l2 c2] w (RetTys (typesE sg es) w):=by
 by_cases hz:checkE es=0
 ·exact kTypes_ok sg es A1 A2 k1 c1 l2 c2 w hL hk1 hm1 hr1 h2 hf hz
 ·exact kTypes_wrong sg es A1 A2 k1 c1 l2 c2 w hL h2 hf hz
theorem typesE_pos {sg:List Sg} {es:List Nd} (h:(typesE sg es).2=0):0<(typesE sg es).1.length:=by
 by_cases hz:checkE es=0
 ·unfold typesE at h⊢;rw[if_pos hz] at h⊢;rw[tyGo_len es (argsE es) [] (runA_length _ _ _) h];have:=(checkE_pos hz).1;simp;omega
 ·unfold typesE at h;rw[if_neg hz] at h;exact absurd h hz
theorem kType_any (sg:List Sg) (es:List Nd) (A1 A2:Option Addr) (k1 c1 l2 c2:Nat) (w:World) (hL:LaidK w) (hk1:k1=sg.length) (hm1:k1≤maxLen) (hr1:Rd w A1 (sgs sg)) (h2:Es w es A2 l2 c2) (hf:∀n∈es,Fine n):
  Calls Tryz.prog 74 #[.slice A1 k1 c1,.slice A2 l2 c2] w fun e w'=>e=.returned (.tuple #[(typeE sg es).1.v,.int .i64 (typeE sg es).2])∧Below w.heap.size w w':=by
 have HT:=zH (fun W hb=>kTypes_any sg es A1 A2 k1 c1 l2 c2 W (hL.below hb) hk1 hm1 (hr1.below hb) (h2.below hb) hf);have HP:=zH (typesE_pos (sg:=sg) (es:=es));have HE:Hid (typeE sg es=(let r:=typesE sg es;if r.2=0 then (r.1.getD (r.1.length-1) tPlain,0) else (tPlain,r.2))):=rfl;have HV0:Hid ((typesE sg es).2=0→typeE sg es=((typesE sg es).1.getD ((typesE sg es).1.length-1) tPlain,0)):=fun h=>by rw[HE.out];simp only;rw[if_pos h]
 have HV1:Hid ((typesE sg es).2≠0→typeE sg es=(tPlain,(typesE sg es).2)):=fun h=>by rw[HE.out];simp only;rw[if_neg h]
 generalize typeE sg es=R at*;generalize typesE sg es=r at*;obtain⟨ts,z⟩:=r;clear HE hL hk1 hm1 hr1 h2 hf;obtain⟨W,hW⟩:=zE (w.alloc (.cells #[.bool false,.int .i64 0,.int .i64 0] 35));obtain⟨B,hB⟩:=zE w.heap.size;have hk0:Blk W B 35 [.bool false,.int .i64 0,.int .i64 0]:=by rw[hW,hB];exact Blk.new w _ _
 have hba:Below w.heap.size w W:=by rw[hW];exact zB _ _
 have HB:=zH hB;have HK0:=zH hk0;have HBA:=zH hba;clear hk0 hba;go_enter Tryz.func74,Tryz.ntmps74;go_wp2_with fail;simp only[←hW,←hB]
 clear hW hB;refine (HT.out W HBA.out).mono ?_;rintro e w5 ⟨A,n,c,rfl,hn,hnc,hcm,hrd,hb5⟩;have hk0:=HK0.out.below hb5 HK0.out.lt;have hkc:=hk0.cells;have hkf:=hk0.froz;have HBW:=zH (bstep HBA.out hb5);replace hn:n=ts.length:=hn;replace hrd:Rd w5 A (tys ts):=hrd;simp only
 have HFIN:Hid (∀u0 u1 u2,Below w.heap.size w (((w5.setCell ⟨B,0,none⟩ u0).setCell ⟨B,1,none⟩ u1).setCell ⟨B,2,none⟩ u2)):=fun u0 u1 u2=>below_st3 (B:=B) HBW.out (by have:=HB.out;omega) _ _ _
 clear hb5 hk0;by_cases hz:z=0
 ·subst hz;have hp:0<ts.length:=HP.out rfl;have hlast:n-1<ts.length:=by omega
  obtain⟨b,off,hA,hbb,hx0,hx1,hx2⟩:=hrd.ty hlast;subst hA;have HLA:Hid (ts.getD (ts.length-1) tPlain=ts[n-1]):=by show _=_;rw[←hn,List.getD_eq_getElem?_getD,List.getElem?_eq_getElem hlast];rfl
  generalize ts[n-1]=tx at hx0 hx1 hx2 HLA;obtain rfl:R=(tx,0):=by rw[←HLA.out];exact HV0.out rfl
  clear HV0 HV1 HLA;obtain⟨tt,tm,td⟩:=tx;simp only at hx0 hx1 hx2;have hw1:IntKind.i64.wrap ((n:Int)-1)=((n-1:Nat):Int):=by rw[IntWalk.i64_in _ (by unfold maxLen at hcm;omega)];omega
  have hn1:n-1<n:=by omega
  generalize n-1=m at*;have HN:=zH hn;clear hrd hp hlast hn hcm;go_wp2;refine bodyPost_ret (v:=.tuple #[.agg #[.bool tt,.int .i64 tm,.int .i64 td],.int .i64 0]) (by simp[results,Tryz.results74,go_sem,hkc]) rfl ⟨rfl,?_⟩;exact HFIN.out _ _ _
 ·have hzb:(z !=0)=true:=by simp[hz]
  have hzc:(z==0)=false:=by simp[hz]
  obtain rfl:R=(tPlain,z):=HV1.out hz;have HN:=zH hn;clear hz hn hrd;go_wp2;refine bodyPost_ret (v:=.tuple #[.agg #[.bool false,.int .i64 0,.int .i64 0],.int .i64 z]) (by simp[results,Tryz.results74,go_sem,hkc]) rfl ⟨rfl,?_⟩;exact HFIN.out _ _ _
structure Bk where
 fr:Ra
 rt:Ra
deriving DecidableEq
def Bk.cells (b:Bk):List Value:=[.bool b.fr.neg,.string b.fr.num,.string b.fr.den,.bool b.rt.neg,.string b.rt.num,.string b.rt.den]
def bks (l:List Bk):List Value:=l.flatMap Bk.cells
def FineR (a:Ra):Prop:=a.num.size≤1048576∧a.den.size≤1048576
def FineB (b:Bk):Prop:=FineR b.fr∧FineR b.rt
def brB (k:Nat) (p b:Bk):Bool:= !okR b.fr|| !okR b.rt||(if k=0 then decide (signR b.fr≠0) else decide (0≤cmpR p.fr b.fr))
def brGo:Nat→Bk→List Bk→Bool
 |_,_,[]=>false
 |k,p,b::r=>brB k p b||brGo (k+1) b r
def unfitB (b:Bk):Bool:= !fitsR b.fr|| !fitsR b.rt
def rateE (l:List Bk):Int:=if 8<l.length then 2 else if l.length=0 then 11 else if brGo 0 ⟨zR,zR⟩ l then 11 else if l.any unfitB then 3 else 0
theorem rCheck1_any (b:Bk) (hf:FineB b) (w:World):Calls Tryz.prog 72 #[.agg (Bk.cells b).toArray] w fun e w'=>e=.returned (.bool (unfitB b))∧Below w.heap.size w w':=by
 obtain⟨⟨h1,h2⟩,h3,h4⟩:=hf;have HA:=zH (fun W=>mFits_any b.fr W (by omega) (by omega));have HB:=zH (fun W=>mFits_any b.rt W (by omega) (by omega));have HU:Hid (unfitB b=(!fitsR b.fr|| !fitsR b.rt)):=rfl;obtain⟨⟨an,am,ad⟩,⟨bn,bm,bd⟩⟩:=b;unfold Bk.cells;simp only[Ra.v] at HA HB HU⊢;generalize fitsR ⟨an,am,ad⟩=fa at*;generalize fitsR ⟨bn,bm,bd⟩=fb at*;rw[HU.out];clear HU h1 h2 h3 h4;obtain⟨W,hW⟩:=zE (w.alloc (.cells #[.bool an,.string am,.string ad,.bool bn,.string bm,.string bd] 121));obtain⟨B,hB⟩:=zE w.heap.size;have hk0:Blk W B 121 [.bool an,.string am,.string ad,.bool bn,.string bm,.string bd]:=by rw[hW,hB];exact Blk.new w _ _
 have hba:Below w.heap.size w W:=by rw[hW];exact zB _ _
 have HK0:=zH hk0;have HBA:=zH hba;have hkc:=hk0.cells;clear hk0 hba;cases fa
 ·go_enter Tryz.func72,Tryz.ntmps72;go_wp2_with fail;simp only[←hW,←hB]
  clear hW hB;go_wp2_with fail;refine (HA.out W).mono ?_;rintro e w5 ⟨rfl,hb5⟩;have HBE:=zH (bstep HBA.out hb5);clear hb5;go_wp2;go_ret;exact⟨rfl,HBE.out⟩
 ·go_enter Tryz.func72,Tryz.ntmps72;go_wp2_with fail;simp only[←hW,←hB]
  clear hW hB;go_wp2_with fail;refine (HA.out W).mono ?_;rintro e w5 ⟨rfl,hb5⟩;have HBE:=zH (bstep HBA.out hb5);have hk5:=(HK0.out.below hb5 HK0.out.lt).cells;clear hb5;go_wp2_with fail;refine (HB.out _).mono ?_;rintro e w6 ⟨rfl,hb6⟩;have HBF:=zH (bstep HBE.out hb6);clear hb6;go_wp2;go_ret;exact⟨by simp,HBF.out⟩
theorem brGo_zero (p q:Bk) (l:List Bk):brGo 0 p l=brGo 0 q l:=by cases l<;>rfl
theorem brGo_cons (k:Nat) (p b:Bk) (r:List Bk):brGo k p (b::r)=(brB k p b||brGo (k+1) b r):=rfl
theorem Rd.bk {w:World} {A:Option Addr} {l:List Bk} (h:Rd w A (bks l)) {j:Nat} (hj:j<l.length):
  ∃b off,A=some ⟨b,off,none⟩∧b<w.heap.size∧∀k (hk:k<l.length),w.cell? ⟨b,off+k*6,none⟩=some (.bool l[k].fr.neg)∧w.cell? ⟨b,off+k*6+1,none⟩=some (.string l[k].fr.num)∧w.cell? ⟨b,off+k*6+2,none⟩=some (.string l[k].fr.den)∧
   w.cell? ⟨b,off+k*6+3,none⟩=some (.bool l[k].rt.neg)∧w.cell? ⟨b,off+k*6+4,none⟩=some (.string l[k].rt.num)∧w.cell? ⟨b,off+k*6+5,none⟩=some (.string l[k].rt.den):=by
 obtain⟨b,off,hA,hb,_⟩:=Rd.row Bk.cells 6 (fun _=>rfl) (by omega) h hj;refine⟨b,off,hA,hb,fun k hk=>?_⟩;obtain⟨b',off',hA',hb',hc⟩:=Rd.row Bk.cells 6 (fun _=>rfl) (by omega) h hk;rw[hA] at hA';injection hA' with hA';injection hA' with h1 h2;subst h1 h2;exact⟨hc 0 _ rfl,hc 1 _ rfl,hc 2 _ rfl,hc 3 _ rfl,hc 4 _ rfl,hc 5 _ rfl⟩
theorem unfit_below (w:World):PredBelow Tryz.prog 72 #[] (fun x:{b:Bk // FineB b}=>.agg (Bk.cells x.1).toArray) (fun x=>unfitB x.1) w:=fun W x hW=>by
 refine (rCheck1_any x.1 x.2 W).mono ?_;rintro e w' ⟨rfl,h⟩;exact⟨rfl,bstep hW h⟩
instance instInhabitedFB:Inhabited {b:Bk // FineB b}:=⟨⟨⟨zR,zR⟩,⟨Nat.zero_le _,Nat.zero_le _⟩,Nat.zero_le _,Nat.zero_le _⟩⟩
theorem unfit_at (l:List Bk) (A:Option Addr) (n c:Nat) (w:World) (hn:n=l.length) (hm:n≤maxLen) (h0:0<n) (hr:Rd w A (bks l)) (hf:∀b∈l,FineB b):
  Calls Tryz.prog 71 #[.slice A n c,.func (.func 72) #[] #[]] w fun e w'=>e=.returned (.bool (l.any unfitB))∧Below w.heap.size w w':=by
 obtain⟨b,off,rfl,hb,hc⟩:=Rd.row Bk.cells 6 (fun _=>rfl) (by omega) hr (j:=0) (by omega);have eg:∀args w,(callFunc 72 args).run Tryz.prog w=.ok (.enter 72 args) w:=enters_of Tryz.func72 (by kernel_rfl) rfl
 have h:=AnyQ.slices_ContainsFunc Tryz.conB 6 Tryz.isAgg121 Tryz.sizeOf121 (fun x:{b:Bk // FineB b}=>Bk.cells x.1) (fun _=>rfl) (fun x=>unfitB x.1) 72 #[] eg b off n c (l.attach.map fun x=>⟨x.1,hf x.1 x.2⟩) w
  (unfit_below w) (by rw[List.length_map,List.length_attach];omega) (by unfold maxLen at hm;omega) hb (fun j hj i v hv=>by
    rw[List.length_map,List.length_attach] at hj;obtain⟨b',off',hA',hb',hc'⟩:=Rd.row Bk.cells 6 (fun _=>rfl) (by omega) hr hj;injection hA' with hA';injection hA' with h1 h2;subst h1 h2;refine hc' i v ?_;rw[getElem!_pos _ _ (by rw[List.length_map,List.length_attach];exact hj)] at hv;simpa using hv)
 have e1:((l.attach.map fun x=>(⟨x.1,hf x.1 x.2⟩:{b:Bk // FineB b})).take n).any (fun x=>unfitB x.1)=l.any unfitB:=by
  rw[List.take_of_length_le (by rw[List.length_map,List.length_attach];omega),List.any_map];rw[Bool.eq_iff_iff,List.any_eq_true,List.any_eq_true];constructor
  ·rintro⟨x,_,h⟩;exact⟨x.1,x.2,h⟩
  ·rintro⟨x,hx,h⟩;exact⟨⟨x,hx⟩,List.mem_attach _ _,h⟩
 rw[e1] at h;exact h
theorem rCheck_any (nm:ByteArray) (m d:Int) (l:List Bk) (A:Option Addr) (n c:Nat) (w:World) (hn:n=l.length) (hm:n≤maxLen) (hr:Rd w A (bks l)) (hf:∀b∈l,FineB b):
  Calls Tryz.prog 28 #[.agg #[.string nm,.int .i64 m,.int .i64 d,.slice A n c]] w fun e w'=>e=.returned (.int .i64 (rateE l))∧Below w.heap.size w w':=by
 obtain⟨z,hz⟩:=zE (rateE l);have HV8:Hid (8<n→z=2):=fun h=>by rw[hz];unfold rateE;rw[if_pos (by omega)]
 have HV0:Hid (n=0→z=11):=fun h=>by rw[hz];unfold rateE;rw[if_neg (by omega),if_pos (by omega)]
 have HVB:Hid (¬8<n→n≠0→brGo 0 (l.getD (0-1) ⟨zR,zR⟩) l=true→z=11):=fun h h' h2=>by rw[hz];unfold rateE;rw[if_neg (by omega),if_neg (by omega),brGo_zero,if_pos h2]
 have HVN:Hid (¬8<n→n≠0→brGo 0 (l.getD (0-1) ⟨zR,zR⟩) l=false→z=if l.any unfitB then 3 else 0):=fun h h' h2=>by rw[hz];unfold rateE;rw[if_neg (by omega),if_neg (by omega),brGo_zero,h2,if_neg (by simp)]
 have HUF:=zH (fun W (hb:Below w.heap.size w W) h0=>unfit_at l A n c W hn hm h0 (hr.below hb) hf);rw[←hz];have HN:=zH hn;have HR:=zH hr;have HF:=zH hf;have hm2:n≤9223372036854775807:=by unfold maxLen at hm;omega
 clear hz hn hm hr hf;obtain⟨W,hW⟩:=zE (w.alloc (.cells #[.string nm,.int .i64 m,.int .i64 d,.slice A n c] 79));obtain⟨B,hB⟩:=zE w.heap.size;have hk0:Blk W B 79 [.string nm,.int .i64 m,.int .i64 d,.slice A n c]:=by rw[hW,hB];exact Blk.new w _ _
 have hba:Below w.heap.size w W:=by rw[hW];exact zB _ _
 have HBA:=zH hba;have hkc:=hk0.cells;clear hba hk0;by_cases h8:8<n
 ·obtain rfl:=HV8.out h8;go_enter Tryz.func28,Tryz.ntmps28
  go_upto_region 1 with fail
  simp only[←hW,←hB]
  clear hW hB;go_wp2;go_ret;exact⟨rfl,HBA.out⟩
 by_cases h0:n=0
 ·obtain rfl:=HV0.out h0;subst h0;go_enter Tryz.func28,Tryz.ntmps28
  go_upto_region 1 with fail
  simp only[←hW,←hB]
  clear hW hB;go_wp2;go_ret;exact⟨rfl,HBA.out⟩
 replace HVB:=zH (HVB.out h8 h0);replace HVN:=zH (HVN.out h8 h0);have h0b:((n:Int)==0)=false:=by simp[h0]
 have HP:Hid (0<n):=by show _<_;omega
 clear HV8 HV0;go_enter Tryz.func28,Tryz.ntmps28
 go_upto_region 1 with fail
 simp only[←hW,←hB]
 clear hW hB;go_wp2_with fail
 go_loopg [18] n (fun g iv wr=>∃j:Nat,j+g=n∧iv=.int .i64 j∧Hid (brGo 0 (l.getD (0-1) ⟨zR,zR⟩) l=brGo j (l.getD (j-1) ⟨zR,zR⟩) (l.drop j))∧Hid (∀k (hk:k<l.length),k<j→okR l[k].fr=true)∧Hid (Below W.heap.size W wr))
 case atStart=>exact⟨0,by omega,rfl,rfl,(fun k hk h=>absurd h (by omega)),Below.refl _ _⟩
 case round=>
  obtain⟨j,hj,rfl,hgo,hok,hbr⟩:=hrel;by_cases hlt:j<n
  ·have hjl:j<l.length:=by rw[←HN.out];exact hlt
   have hbw:=bstep HBA.out hbr.out;obtain⟨b,off,hA,hbb,hcs⟩:=(HR.out.below hbw).bk hjl;subst hA;obtain⟨c0,c1,c2,c3,c4,c5⟩:=hcs j hjl;obtain⟨⟨f1,f2⟩,f3,f4⟩:=HF.out l[j] (List.getElem_mem hjl);have hgo2:=hgo.out;rw[List.drop_eq_getElem_cons hjl,brGo_cons] at hgo2;have hnx:l.getD (j+1-1) ⟨zR,zR⟩=l[j]:=by rw[Nat.add_sub_cancel,List.getD_eq_getElem?_getD,List.getElem?_eq_getElem hjl];rfl
   rw[←hnx] at hgo2;have HGO:=zH hgo2;have HRF:=zH (fun W=>qRight_any l[j].fr W (by omega) (by omega));have HRT:=zH (fun W=>qRight_any l[j].rt W (by omega) (by omega));have HSG:=zH (fun W=>qSign_any l[j].fr W (by omega) (by omega));have HBR:Hid (brB j (l.getD (j-1) ⟨zR,zR⟩) (l.getD (j+1-1) ⟨zR,zR⟩)=(!okR l[j].fr|| !okR l[j].rt||(if j=0 then decide (signR l[j].fr≠0) else decide (0≤cmpR (l.getD (j-1) ⟨zR,zR⟩).fr l[j].fr)))):=by show _=_;rw[hnx];rfl
   have HCM:Hid (∀W (h:0<j),okR l[j].fr=true→Calls Tryz.prog 70 #[(l[j-1]'(by omega)).fr.v,l[j].fr.v] W fun e w'=>e=.returned (.int .i64 (cmpR (l.getD (j-1) ⟨zR,zR⟩).fr l[j].fr))∧Below W.heap.size W w'):=fun W h ho=>by
    have hj1:j-1<l.length:=by omega
    obtain⟨⟨g1,g2⟩,_⟩:=HF.out l[j-1] (List.getElem_mem hj1);have h1:=qCmp_ok l[j-1].fr l[j].fr W (hok.out _ hj1 (by omega)) ho 1048576 (by omega) g1 g2 f1 f2;have e1:l.getD (j-1) ⟨zR,zR⟩=l[j-1]:=by rw[List.getD_eq_getElem?_getD,List.getElem?_eq_getElem hj1];rfl
    rw[e1];exact h1
   have HPC:Hid (∀h:0<j,wr.cell? ⟨b,off+(j-1)*6,none⟩=some (.bool (l[j-1]'(by omega)).fr.neg)∧wr.cell? ⟨b,off+(j-1)*6+1,none⟩=some (.string (l[j-1]'(by omega)).fr.num)∧wr.cell? ⟨b,off+(j-1)*6+2,none⟩=some (.string (l[j-1]'(by omega)).fr.den)):=fun h=>by
    obtain⟨x0,x1,x2,_⟩:=hcs (j-1) (by omega);exact⟨x0,x1,x2⟩
   have HOKN:Hid (okR l[j].fr=true→∀k (hk:k<l.length),k<j+1→okR l[k].fr=true):=fun h k hk hkj=>by
    by_cases e:k<j
    ·exact hok.out k hk e
    ·obtain rfl:k=j:=by omega
     exact h
   obtain⟨cur,hcur⟩:∃c,c=l.getD (j+1-1) ⟨zR,zR⟩:=⟨_,rfl⟩
   rw[←hcur] at HGO HBR;have HCUR:=zH hcur;clear hcur hgo2 hnx;generalize l.getD (j-1) ⟨zR,zR⟩=prv at*;generalize l[j]=bb at*;obtain⟨⟨an,am,ad⟩,⟨bn,bm,bd⟩⟩:=bb;simp only at c0 c1 c2 c3 c4 c5 HRF HRT HSG HBR HCM HOKN;generalize okR ⟨an,am,ad⟩=okf at*;generalize okR ⟨bn,bm,bd⟩=okr at*;generalize signR ⟨an,am,ad⟩=sg at*;generalize cmpR prv.fr ⟨an,am,ad⟩=cm at*;unfold Ra.v at HRF HRT HSG HCM;simp only at HRF HRT HSG HCM;obtain⟨bx,hbx⟩:∃x,x=brB j prv cur:=⟨_,rfl⟩
   rw[←hbx] at HGO HBR;have HBC:=zH hbb;clear hbx hgo hcs f1 f2 f3 f4 hok hbw;obtain⟨W5,hW5⟩:=zE (wr.alloc (.cells #[.bool an,.string am,.string ad,.bool bn,.string bm,.string bd] 121));obtain⟨N,hN⟩:=zE wr.heap.size;have hk5:Blk W5 N 121 [.bool an,.string am,.string ad,.bool bn,.string bm,.string bd]:=by rw[hW5,hN];exact Blk.new _ _ _
   have hb5:Below wr.heap.size wr W5:=by rw[hW5];exact zB _ _
   have HK5:=zH hk5;have HB5:=zH hb5;clear hk5 hb5
   go_upto_region 9 with fail
   simp only[←hW5,←hN]
   clear hW5 hN c0 c1 c2 c3 c4 c5;have hk5c:=HK5.out.cells;cases okf
   ·obtain rfl:bx=true:=by rw[HBR.out];rfl
    obtain rfl:z=11:=HVB.out (by rw[HGO.out];rfl);go_wp2_with fail;refine (HRF.out _).mono ?_;rintro e w6 ⟨rfl,hb6⟩;have HBE:=zH (bstep HBA.out (bstep hbr.out (bstep HB5.out hb6)));clear hb6;go_wp2;go_ret;exact⟨rfl,HBE.out⟩
   cases okr
   ·obtain rfl:bx=true:=by rw[HBR.out];rfl
    obtain rfl:z=11:=HVB.out (by rw[HGO.out];rfl);go_wp2_with fail;refine (HRF.out _).mono ?_;rintro e w6 ⟨rfl,hb6⟩;have hk6c:=(HK5.out.below hb6 HK5.out.lt).cells;go_wp2_with fail;refine (HRT.out _).mono ?_;rintro e w7 ⟨rfl,hb7⟩;have HBE:=zH (bstep HBA.out (bstep hbr.out (bstep HB5.out (bstep hb6 hb7))));clear hb6 hb7;go_wp2;go_ret;exact⟨rfl,HBE.out⟩
   go_wp2_with fail;refine (HRF.out _).mono ?_;rintro e w6 ⟨rfl,hb6⟩;have hk6c:=(HK5.out.below hb6 HK5.out.lt).cells;go_wp2_with fail;refine (HRT.out _).mono ?_;rintro e w7 ⟨rfl,hb7⟩;have HB7:=zH (bstep HB5.out (bstep hb6 hb7));have HK7:=zH (HK5.out.below (bstep hb6 hb7) HK5.out.lt);clear hb6 hb7 hk5c hk6c HRF HRT;have hn0:w7.cell? ⟨N,0,none⟩=some (.bool an):=HK7.out.cells 0;have hn1:w7.cell? ⟨N,1,none⟩=some (.string am):=HK7.out.cells 1;have hn2:w7.cell? ⟨N,2,none⟩=some (.string ad):=HK7.out.cells 2;have HC0:=zH hn0;have HC1:=zH hn1;have HC2:=zH hn2;clear hn0 hn1 hn2
   go_upto_region 11 with fail
   go_cut [56] from 33 to 56 (fun qv wc=>qv=.bool bx∧Hid (Below w7.heap.size w7 wc))
   case first=>
    by_cases hj0:j=0
    ·subst hj0
     have HSS:Hid (∀W,Below w7.heap.size w7 W→Below w7.heap.size w7 W∧W.cell? ⟨N,0,none⟩=some (.bool an)∧W.cell? ⟨N,1,none⟩=some (.string am)∧W.cell? ⟨N,2,none⟩=some (.string ad)):=fun W hb=>
      ⟨hb,(hb.cell HK7.out.lt).trans HC0.out,(hb.cell HK7.out.lt).trans HC1.out,(hb.cell HK7.out.lt).trans HC2.out⟩
     by_cases hs:sg=0
     ·subst hs;obtain rfl:bx=false:=by rw[HBR.out];rfl
      refine wp_region_noPanic ?_;refine wp_region_held_drew (S:=(fun w'=>Below w7.heap.size w7 w'∧w'.cell? ⟨N,0,none⟩=some (.bool an)∧w'.cell? ⟨N,1,none⟩=some (.string am)∧w'.cell? ⟨N,2,none⟩=some (.string ad))) (by kernel_rfl) (HSS.out _ (drewN_below w7.heap.size w7 1)) (fun hHeld=>?_);refine tkZ 0 ?_;refine tkZ 1 ?_;refine tkZ 2 ?_;refine tkZ 3 ?_;refine tkZ 4 ?_;refine tkR 5 fun K hK=>?_
      go_simp;have hbS:=hHeld.1;refine (HSG.out _).mono ?_;rintro e w10 ⟨rfl,hb10⟩;have HBT:=zH (bstep hbS hb10);go_wp2_with fail;refine tkK hK (HSS.out _ HBT.out) fun hHeld=>?_
      clear hK K;refine tkZ 6 ?_;refine tkZ 7 ?_;refine tkZ 8 ?_;refine tkZ 9 ?_;refine tkZ 10 ?_;refine tkZ 11 ?_;refine tkN 12 rfl ?_
      try simp only[Act.put,tk1,tk2,tk3,tk4,tk5,tk6]
      refine tkN 13 rfl ?_
      try simp only[Act.put,tk1,tk2,tk3,tk4,tk5,tk6]
      refine tkN 14 rfl ?_
      try simp only[Act.put,tk1,tk2,tk3,tk4,tk5,tk6]
      refine tkN 15 rfl ?_
      try simp only[Act.put,tk1,tk2,tk3,tk4,tk5,tk6]
      refine tkN 16 rfl ?_
      try simp only[Act.put,tk1,tk2,tk3,tk4,tk5,tk6]
      refine tkN 17 rfl ?_
      try simp only[Act.put,tk1,tk2,tk3,tk4,tk5,tk6]
      refine tkN 18 rfl ?_
      try simp only[Act.put,tk1,tk2,tk3,tk4,tk5,tk6]
      refine tkN 19 rfl ?_
      try simp only[Act.put,tk1,tk2,tk3,tk4,tk5,tk6]
      refine tkN 20 rfl ?_
      try simp only[Act.put,tk1,tk2,tk3,tk4,tk5,tk6]
      refine tkN 21 rfl ?_
      try simp only[Act.put,tk1,tk2,tk3,tk4,tk5,tk6]
      refine tkZ 22 ?_;refine tkZ 23 ?_;refine wpAnyH_done (by kernel_rfl) ?_ _;refine NoPanic.normal ?_;go_wp2
      go_meet
      case rel=>exact⟨rfl,HBT.out⟩
     ·have hsb:(sg !=0)=true:=by simp[hs]
      obtain rfl:bx=true:=by rw[HBR.out,if_pos rfl,decide_eq_true hs];rfl
      refine wp_region_noPanic ?_;refine wp_region_held_drew (S:=(fun w'=>Below w7.heap.size w7 w'∧w'.cell? ⟨N,0,none⟩=some (.bool an)∧w'.cell? ⟨N,1,none⟩=some (.string am)∧w'.cell? ⟨N,2,none⟩=some (.string ad))) (by kernel_rfl) (HSS.out _ (drewN_below w7.heap.size w7 1)) (fun hHeld=>?_);refine tkZ 0 ?_;refine tkZ 1 ?_;refine tkZ 2 ?_;refine tkZ 3 ?_;refine tkZ 4 ?_;refine tkR 5 fun K hK=>?_
      go_simp;have hbS:=hHeld.1;refine (HSG.out _).mono ?_;rintro e w10 ⟨rfl,hb10⟩;have HBT:=zH (bstep hbS hb10);go_wp2_with fail;refine tkK hK (HSS.out _ HBT.out) fun hHeld=>?_
      clear hK K;refine tkZ 6 ?_;refine tkZ 7 ?_;refine tkZ 8 ?_;refine tkN 9 rfl ?_
      try simp only[Act.put,tk1,tk2,tk3,tk4,tk5,tk6]
      refine tkN 10 rfl ?_
      try simp only[Act.put,tk1,tk2,tk3,tk4,tk5,tk6]
      refine tkN 11 rfl ?_
      try simp only[Act.put,tk1,tk2,tk3,tk4,tk5,tk6]
      refine tkN 12 rfl ?_
      try simp only[Act.put,tk1,tk2,tk3,tk4,tk5,tk6]
      refine tkN 13 rfl ?_
      try simp only[Act.put,tk1,tk2,tk3,tk4,tk5,tk6]
      refine tkN 14 rfl ?_
      try simp only[Act.put,tk1,tk2,tk3,tk4,tk5,tk6]
      refine tkN 15 rfl ?_
      try simp only[Act.put,tk1,tk2,tk3,tk4,tk5,tk6]
      refine tkN 16 rfl ?_
      try simp only[Act.put,tk1,tk2,tk3,tk4,tk5,tk6]
      refine tkN 17 rfl ?_
      try simp only[Act.put,tk1,tk2,tk3,tk4,tk5,tk6]
      refine tkN 18 rfl ?_
      try simp only[Act.put,tk1,tk2,tk3,tk4,tk5,tk6]
      refine tkN 19 rfl ?_
      try simp only[Act.put,tk1,tk2,tk3,tk4,tk5,tk6]
      refine tkN 20 rfl ?_
      try simp only[Act.put,tk1,tk2,tk3,tk4,tk5,tk6]
      refine tkN 21 rfl ?_
      try simp only[Act.put,tk1,tk2,tk3,tk4,tk5,tk6]
      refine tkN 22 rfl ?_
      try simp only[Act.put,tk1,tk2,tk3,tk4,tk5,tk6]
      refine tkZ 23 ?_;refine wpAnyH_done (by kernel_rfl) ?_ _;refine NoPanic.normal ?_;go_wp2
      go_meet
      case rel=>exact⟨rfl,HBT.out⟩
    ·have hj0b:((j:Int)==0)=false:=by simp[hj0]
     have hjp:(0:Int)<(j:Int):=by omega
     have hjn:0<j:=by omega
     obtain⟨x0,x1,x2⟩:=HPC.out hjn;have HCM2:=zH (fun W=>HCM.out W hjn trivial);clear HPC HCM;generalize l[j-1]'(by omega)=pb at x0 x1 x2 HCM2;obtain⟨⟨pn,pm,pd⟩,pr⟩:=pb;simp only[Ra.v] at x0 x1 x2 HCM2;have hw1:IntKind.i64.wrap ((j:Int)-1)=((j-1:Nat):Int):=by rw[IntWalk.i64_in _ (by omega)];omega
     have hin:j-1<n:=by omega
     have hbx:bx=decide (0≤cm):=by rw[HBR.out,if_neg hj0];rfl
     generalize j-1=i at*;have HCM:=HCM2;have HX0:=zH x0;have HX1:=zH x1;have HX2:=zH x2
     have HSS:Hid (∀W,Below w7.heap.size w7 W→Below w7.heap.size w7 W∧W.cell? ⟨N,0,none⟩=some (.bool an)∧W.cell? ⟨N,1,none⟩=some (.string am)∧W.cell? ⟨N,2,none⟩=some (.string ad)∧W.cell? ⟨b,off+i*6,none⟩=some (.bool pn)∧W.cell? ⟨b,off+i*6+1,none⟩=some (.string pm)∧W.cell? ⟨b,off+i*6+2,none⟩=some (.string pd)):=fun W hb=>
      have h7:=bstep HB7.out hb
      ⟨hb,(hb.cell HK7.out.lt).trans HC0.out,(hb.cell HK7.out.lt).trans HC1.out,(hb.cell HK7.out.lt).trans HC2.out,(h7.cell HBC.out).trans HX0.out,(h7.cell HBC.out).trans HX1.out,(h7.cell HBC.out).trans HX2.out⟩
     clear x0 x1 x2;by_cases hcm:0≤cm
     ·obtain rfl:bx=true:=by rw[hbx,decide_eq_true hcm]
      clear hbx;refine wp_region_noPanic ?_;refine wp_region_held_drew (S:=(fun w'=>Below w7.heap.size w7 w'∧w'.cell? ⟨N,0,none⟩=some (.bool an)∧w'.cell? ⟨N,1,none⟩=some (.string am)∧w'.cell? ⟨N,2,none⟩=some (.string ad)∧w'.cell? ⟨b,off+i*6,none⟩=some (.bool pn)∧w'.cell? ⟨b,off+i*6+1,none⟩=some (.string pm)∧w'.cell? ⟨b,off+i*6+2,none⟩=some (.string pd))) (by kernel_rfl) (HSS.out _ (drewN_below w7.heap.size w7 1)) (fun hHeld=>?_);refine tkZ 0 ?_;refine tkZ 1 ?_;refine tkZ 2 ?_;refine tkN 3 rfl ?_
      try simp only[Act.put,tk1,tk2,tk3,tk4,tk5,tk6]
      refine tkN 4 rfl ?_
      try simp only[Act.put,tk1,tk2,tk3,tk4,tk5,tk6]
      refine tkN 5 rfl ?_
      try simp only[Act.put,tk1,tk2,tk3,tk4,tk5,tk6]
      refine tkN 6 rfl ?_
      try simp only[Act.put,tk1,tk2,tk3,tk4,tk5,tk6]
      refine tkZ 7 ?_;refine tkZ 8 ?_;refine tkZ 9 ?_;refine tkZ 10 ?_;refine tkZ 11 ?_;refine tkZ 12 ?_;refine tkZ 13 ?_;refine tkZ 14 ?_;refine tkZ 15 ?_;refine tkZ 16 ?_;refine tkZ 17 ?_;refine tkZ 18 ?_;refine tkZ 19 ?_;refine tkR 20 fun K hK=>?_
      go_simp;have hbS:=hHeld.1;refine (HCM.out _).mono ?_;rintro e w10 ⟨rfl,hb10⟩;have HBT:=zH (bstep hbS hb10);go_wp2_with fail;refine tkK hK (HSS.out _ HBT.out) fun hHeld=>?_
      clear hK K;refine tkZ 21 ?_;refine tkZ 22 ?_;refine tkZ 23 ?_;refine wpAnyH_done (by kernel_rfl) ?_ _;refine NoPanic.normal ?_;go_wp2
      go_meet
      case rel=>exact⟨rfl,HBT.out⟩
     ·obtain rfl:bx=false:=by rw[hbx,decide_eq_false hcm]
      have hcd:decide (0≤cm)=false:=decide_eq_false hcm;clear hbx hcm;refine wp_region_noPanic ?_;refine wp_region_held_drew (S:=(fun w'=>Below w7.heap.size w7 w'∧w'.cell? ⟨N,0,none⟩=some (.bool an)∧w'.cell? ⟨N,1,none⟩=some (.string am)∧w'.cell? ⟨N,2,none⟩=some (.string ad)∧w'.cell? ⟨b,off+i*6,none⟩=some (.bool pn)∧w'.cell? ⟨b,off+i*6+1,none⟩=some (.string pm)∧w'.cell? ⟨b,off+i*6+2,none⟩=some (.string pd))) (by kernel_rfl) (HSS.out _ (drewN_below w7.heap.size w7 1)) (fun hHeld=>?_);refine tkZ 0 ?_;refine tkZ 1 ?_;refine tkZ 2 ?_;refine tkN 3 rfl ?_
      try simp only[Act.put,tk1,tk2,tk3,tk4,tk5,tk6]
      refine tkN 4 rfl ?_
      try simp only[Act.put,tk1,tk2,tk3,tk4,tk5,tk6]
      refine tkN 5 rfl ?_
      try simp only[Act.put,tk1,tk2,tk3,tk4,tk5,tk6]
      refine tkN 6 rfl ?_
      try simp only[Act.put,tk1,tk2,tk3,tk4,tk5,tk6]
      refine tkZ 7 ?_;refine tkZ 8 ?_;refine tkZ 9 ?_;refine tkZ 10 ?_;refine tkZ 11 ?_;refine tkZ 12 ?_;refine tkZ 13 ?_;refine tkZ 14 ?_;refine tkZ 15 ?_;refine tkZ 16 ?_;refine tkZ 17 ?_;refine tkZ 18 ?_;refine tkZ 19 ?_;refine tkR 20 fun K hK=>?_
      go_simp;have hbS:=hHeld.1;refine (HCM.out _).mono ?_;rintro e w10 ⟨rfl,hb10⟩;have HBT:=zH (bstep hbS hb10);go_wp2_with fail;refine tkK hK (HSS.out _ HBT.out) fun hHeld=>?_
      clear hK K;refine tkZ 21 ?_;refine tkZ 22 ?_;refine tkZ 23 ?_;refine wpAnyH_done (by kernel_rfl) ?_ _;refine NoPanic.normal ?_;go_wp2
      go_meet
      case rel=>exact⟨rfl,HBT.out⟩
   case rest=>
    obtain⟨rfl,hbc⟩:=hcut;have HBX:=zH (bstep hbr.out (bstep HB7.out hbc.out));clear hbc;cases bx
    ·have HGN:Hid (brGo 0 (l.getD (0-1) ⟨zR,zR⟩) l=brGo (j+1) (l.getD (j+1-1) ⟨zR,zR⟩) (l.drop (j+1))):=by show _=_;rw[HGO.out,HCUR.out];rfl
     have HON:=zH (HOKN.out trivial);go_wp2
     go_roundg (n-(j+1))
     case measure=>omega
     case rel=>exact⟨j+1,by omega,by go_num,HGN,HON,HBX⟩
    ·obtain rfl:z=11:=HVB.out (by rw[HGO.out];rfl);have HBE:=zH (bstep HBA.out HBX.out);go_wp2;go_ret;exact⟨rfl,HBE.out⟩
  ·obtain rfl:j=n:=by omega
   have hgf:=hgo.out;rw[HN.out,List.drop_length] at hgf;have hz:=HVN.out hgf;have HBE:=zH (bstep HBA.out hbr.out);have HU:=zH (HUF.out _ HBE.out HP.out);generalize l.any unfitB=an at*;clear hgo hok hbr hgf HUF HVN HVB;cases an
   ·obtain rfl:z=0:=hz;go_wp2_with fail;refine HU.out.mono ?_;rintro e w6 ⟨rfl,hb6⟩;have HBF:=zH (bstep HBE.out hb6);clear hb6;go_wp2;go_ret;exact⟨rfl,HBF.out⟩
   ·obtain rfl:z=3:=hz;go_wp2_with fail;refine HU.out.mono ?_;rintro e w6 ⟨rfl,hb6⟩;have HBF:=zH (bstep HBE.out hb6);clear hb6;go_wp2;go_ret;exact⟨rfl,HBF.out⟩
structure Hd where
 a:Option Addr
 n:Nat
 c:Nat
structure RowAt {α:Type} (w:World) (enc:α→List Value) (xs:List α) (h:Hd):Prop where
 len:h.n=xs.length
 cap:h.n≤h.c
 max:h.c≤maxLen
 rd:Rd w h.a (xs.flatMap enc)
theorem RowAt.below {α:Type} {w w':World} {enc:α→List Value} {xs:List α} {h:Hd} (k:RowAt w enc xs h) (hb:Below w.heap.size w w'):RowAt w' enc xs h:=⟨k.len,k.cap,k.max,k.rd.below hb⟩
theorem RowAt.nil {α:Type} (w:World) (enc:α→List Value):RowAt w enc ([]:List α) ⟨none,0,0⟩:=⟨rfl,Nat.le_refl _,Nat.zero_le _,.inl rfl⟩
theorem RowAt.of_own {α:Type} {w:World} {enc:α→List Value} {xs:List α} {base m n:Nat} {e:TypeId} {v:Value} (h:w.ownsRow base e m v n (xs.flatMap enc)) (hn:n=xs.length):∃h:Hd,v=.slice h.a h.n h.c∧h.n=n∧RowAt w enc xs h:=by
 obtain⟨A,c,rfl,h1,h2,h3,_⟩:=own_rd h;exact⟨⟨A,n,c⟩,rfl,rfl,hn,h1,h2,h3⟩
structure Dc where
 name:ByteArray
 ty:Ty
deriving DecidableEq
structure Sc where
 name:ByteArray
 money:Int
 days:Int
 brs:List Bk
deriving DecidableEq
structure Pv where
 name:ByteArray
 ty:Ty
 charge:Bool
 step:Ra
 cap:Ra
 body:List Nd
deriving DecidableEq
structure Lw where
 facts:List Dc
 schs:List Sc
 provs:List Pv
deriving DecidableEq
def Dc.cells (d:Dc):List Value:=[.string d.name,.bool d.ty.truth,.int .i64 d.ty.money,.int .i64 d.ty.days]
def scCells (s:Sc × Hd):List Value:=[.string s.1.name,.int .i64 s.1.money,.int .i64 s.1.days,.slice s.2.a s.2.n s.2.c]
def pvCells (p:Pv × Hd):List Value:=[.string p.1.name,.bool p.1.ty.truth,.int .i64 p.1.ty.money,.int .i64 p.1.ty.days,.slice p.2.a p.2.n p.2.c,.bool p.1.charge,
 .bool p.1.step.neg,.string p.1.step.num,.string p.1.step.den,.bool p.1.cap.neg,.string p.1.cap.num,.string p.1.cap.den]
structure LawAt (w:World) (l:Lw) (ss:List (Sc × Hd)) (ps:List (Pv × Hd)) (f s p:Hd):Prop where
 f:RowAt w Dc.cells l.facts f
 s:RowAt w scCells ss s
 p:RowAt w pvCells ps p
 sl:ss.map Prod.fst=l.schs
 pl:ps.map Prod.fst=l.provs
 sb:∀x∈ss,RowAt w Bk.cells x.1.brs x.2
 pb:∀x∈ps,RowAt w Nd.cells x.1.body x.2
theorem LawAt.below {w w':World} {l:Lw} {ss:List (Sc × Hd)} {ps:List (Pv × Hd)} {f s p:Hd} (k:LawAt w l ss ps f s p) (hb:Below w.heap.size w w'):LawAt w' l ss ps f s p:=
 ⟨k.f.below hb,k.s.below hb,k.p.below hb,k.sl,k.pl,fun x hx=>(k.sb x hx).below hb,fun x hx=>(k.pb x hx).below hb⟩
def lawV (f s p:Hd):Value:=.agg #[.slice f.a f.n f.c,.slice s.a s.n s.c,.slice p.a p.n p.c]
structure FineL (l:Lw):Prop where
 fn:l.facts.length≤1000
 sn:l.schs.length≤1000
 pn:l.provs.length≤1000
 sb:∀s∈l.schs,∀b∈s.brs,FineB b
 pb:∀p∈l.provs,FineR p.step∧FineR p.cap∧∀n∈p.body,Fine n
def fSig (d:Dc):Sg:=⟨5,d.name,d.ty⟩
def pSig (op:Int) (p:Pv):Sg:=⟨op,p.name,p.ty⟩
def sSig (s:Sc):Sg:=⟨24,s.name,⟨false,s.money,s.days⟩⟩
def sigsL (l:Lw):List Sg:=l.facts.map fSig++(l.provs.map (pSig 6)++(l.provs.map (pSig 7)++(l.provs.map (pSig 8)++l.schs.map sSig)))
def plainP (p:Pv):Bool:=decide (p.step=zR)&&decide (p.cap=zR)
def cappedP (p:Pv):Bool:= !p.ty.truth&&(fitsR p.step&&(fitsR p.cap&&(decide (0<signR p.step)&&(decide ((quoR p.cap p.step).1.den=(ofI 1).den)&&(decide (0<signR (quoR p.cap p.step).1)&&decide (cmpR (quoR p.cap p.step).1 (ofI 200)≤0))))))
def provE (sg:List Sg) (p:Pv):Int:=if (typeE sg p.body).2≠0 then (typeE sg p.body).2 else if (typeE sg p.body).1≠p.ty then 13 else if (p.charge&&decide (p.ty≠tCash))||(!plainP p&& !cappedP p) then 1 else 0
def typedL (l:Lw):Bool:=l.facts.all (fun d=>rightB d.ty)&&(l.provs.all (fun p=>rightB p.ty)&&l.schs.all (fun s=>unitB s.money s.days))
theorem sgs_append (a b:List Sg):sgs (a++b)=sgs a++sgs b:=List.flatMap_append
end Go.Proofs.YtmmbjngbeiokeaaGreatDoor
