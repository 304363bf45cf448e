/- A part of the proof: Kb Kc U0 Yb Qd W3 U1 U2 U3. -/
import Derived.Test.YtimokmplkpbmdaaGreatDoorB23
import Derived.Test.YtimokmplkpbmdaaGreatDoorB28
set_option linter.all false
set_option maxRecDepth 100000
set_option maxHeartbeats 0
namespace Go.Proofs.YtimokmplkpbmdaaGreatDoor
open Go.RowKit
theorem Keeps.onl {B lo:Nat} {w W:World} (h:Onl B w W) (hl:B<lo):Keeps lo w W:=⟨h.size,fun b h1 h2=>h.block b h2 (by omega)⟩
theorem Onl.more {G:Nat} {a w w':World} (h:Onl G a w) (hb:Below a.heap.size w w'):Onl G a w':=
 ⟨hb.os.trans h.os,hb.tape.trans h.tape,hb.output.trans h.output,Nat.le_trans h.size hb.size,fun k hk hne=>(hb.block k hk).trans (h.block k hk hne)⟩
theorem Onl.grown {G:Nat} {a w:World} (h:Onl G a w):a.grownBy w (some G):=⟨h.os,h.tape,h.output,h.size,fun k hk hne=>h.block k hk (fun e=>hne (by rw[e]))⟩
theorem info_ty:(Tryz.prog.info? 34).map (fun i=>(i.zero,i.size,i.bytes))=some (some (.agg #[.bool false,.int .i64 0,.int .i64 0]),3,24):=by kernel_rfl
theorem tys_append (a b:List Ty):tys (a++b)=tys a++tys b:=List.flatMap_append
theorem shp_ops3 (op:Int):(shp op).ops<=3:=by
 unfold shp;rw[List.getD_eq_getElem?_getD];rcases Nat.lt_or_ge op.toNat shs.length with h|h
 ·rw[List.getElem?_eq_getElem h];exact (by decide:∀s∈shs,s.ops<=3) _ (List.getElem_mem h)
 ·rw[List.getElem?_eq_none h];decide
theorem types_panic (z:Int) (w wx:World) (B:Nat) (tm:Array Value) (v v':Value) (hk0:Blk wx B 182 [v]) (hk1:Blk wx (B+1) 46 [v']) (hB:B=w.heap.size) (hbe:Below w.heap.size w wx)
  (h4:tm[4]?=some (.pointer (some ⟨B,0,none⟩))) (h5:tm[5]?=some (.pointer (some ⟨B+1,0,none⟩))):
  bodyPostD Tryz.prog Tryz.f119 (RetTys ([],z) w) (Exit.panic (errPanic z)) {tmps:=tm,defers:=[{target:=.fn (.func 158) #[.pointer (some ⟨B,0,none⟩),.pointer (some ⟨B+1,0,none⟩)],args:=#[]}]} wx:=by
 have hc0:wx.cell? ⟨B,0,none⟩=some v:=hk0.cells 0;have hc1:wx.cell? ⟨B+1,0,none⟩=some v':=hk1.cells 0;unfold errPanic;refine leaves_cons (f:=158) (args:=#[.pointer (some ⟨B,0,none⟩),.pointer (some ⟨B+1,0,none⟩)]) (by simp) (by simp[go_sem]) ?_;refine (kcatch_panicking B (B+1) z _ _ [] wx hc0 hc1 (hk0.froz 0) (hk1.froz 0) (by omega) (by omega)).mono ?_;rintro e u' w6 ⟨rfl,rfl,rfl⟩
 have hd0:((wx.setCell ⟨B,0,none⟩ (.slice none 0 0)).setCell ⟨B+1,0,none⟩ (.int .i64 z)).cell? ⟨B,0,none⟩=some (.slice none 0 0):=by
  rw[World.cell?_setCell_other _ _ _ _ (by simp)];exact World.cell?_setCell_same' _ _ _ (by rw[hc0];rfl)
 have hd1:((wx.setCell ⟨B,0,none⟩ (.slice none 0 0)).setCell ⟨B+1,0,none⟩ (.int .i64 z)).cell? ⟨B+1,0,none⟩=some (.int .i64 z):=
  World.cell?_setCell_same' _ _ _ (by rw[World.cell?_setCell_other _ _ _ _ (by simp),hc1];rfl)
 simp[Leaves,settle,results,Tryz.results119,go_sem,hd0,hd1,h4,h5];exact RetTys.bad ((hbe.setCell (p:=⟨B,0,none⟩) (by show _<=B;omega) _).setCell (p:=⟨B+1,0,none⟩) (by show _<=B+1;omega) _)
theorem kTypes_ok (sg:List Sg) (es:List Nd) (A1 A2:Option Addr) (k1 c1 l2 c2:Nat) (w:World) (hL:LaidK w) (hk1:k1=sg.length) (hm1:k1<=maxLen) (hr1:Rd w A1 (sgs sg)) (h2:Es w es A2 l2 c2) (hf:∀n∈es,Fine n) (hz:checkE es=0):
  Calls Tryz.prog 119 #[.slice A1 k1 c1,.slice A2 l2 c2] w (RetTys (typesE sg es) w):=by
 have HC:Hid (∀W,Below w.heap.size w W->Calls Tryz.prog 50 #[.slice A2 l2 c2] W fun e w'=>e=.returned (.int .i64 0)/\Below W.heap.size W w'):=fun W hb=>by
  have h:=check_any es A2 l2 c2 W (hL.below hb).e (h2.below hb).len (h2.below hb).cap (h2.below hb).max (h2.below hb).rd hf;rw[hz] at h;exact h
 have HAG:Hid (∀W,Below w.heap.size w W->Calls Tryz.prog 125 #[.slice A2 l2 c2] W (RetFr true (argsE es) W)):=fun W hb=>by
  have h:=eArgs_fr es A2 l2 c2 W (hL.below hb).e (h2.below hb) hf;rw[hz,if_pos rfl] at h;exact h
 have HARG:=zH (fun j hj=>argsE_ok hz j hj);have h60:=(checkE_pos hz).2
 have HSG:Hid (∀W nd,Below w.heap.size w W->Calls Tryz.prog 160 #[.slice A1 k1 c1,Nd.v nd] W fun e w'=>SigPost (sigOf sg nd) e/\Below W.heap.size W w'):=fun W nd hb=>
  kSig_any sg A1 k1 c1 nd W (hL.below hb) hk1 hm1 (hr1.below hb)
 have HAL:Hid ((argsE es).length=es.length):=runA_length _ _ _;obtain⟨res,hres⟩:∃r,r=typesE sg es:=⟨_,rfl⟩
 have HTR:Hid (tyGo sg es (argsE es) []=res):=by show _=_;rw[hres];unfold typesE;rw[if_pos hz]
 rw[<-hres];have H2:=zH h2;have HL:Hid (∀W,Below w.heap.size w W->LaidK W):=fun W hb=>hL.below hb
 have hl2:l2<=60:=by rw[h2.len];exact h60
 generalize argsE es=ags at*;clear hL hk1 hm1 hr1 h2 hf hz h60 hres;have hmf:=mkf_run;obtain⟨W,hW⟩:=zE ((w.alloc (.cells #[.slice none 0 0] 182)).alloc (.cells #[.int .i64 0] 46));have htwo:=kTwo_new w 182 46 #[.slice none 0 0] #[.int .i64 0];rw[<-hW] at htwo;obtain⟨hk0,hk1,hba,hsz⟩:=htwo;clear hsz;obtain⟨B,hB⟩:=zE w.heap.size;rw[<-hB] at hk0 hk1;have HB:=zH hB;have HK0:=zH hk0;have HK1:=zH hk1;have HBA:=zH hba;clear hk0 hk1 hba
 go_enter_defers Tryz.func119,Tryz.ntmps119
 go_wp2_with fail;simp only[<-hW,<-hB]
 clear hW hB;refine (HC.out W HBA.out).mono ?_;rintro e w5 ⟨rfl,hb5⟩;replace HK0:=zH (HK0.out.below hb5 HK0.out.lt);replace HK1:=zH (HK1.out.below hb5 HK1.out.lt);replace HBA:=zH (bstep HBA.out hb5);clear hb5 HC;go_wp2_with fail;refine (HAG.out w5 HBA.out).mono ?_;rintro e w6 ⟨A6,n6,c6,rfl,hag,hb6,hfr6,cs6,hrd6,hll6⟩;have HB5:Hid (B+1<w5.heap.size):=HK1.out.lt;replace HK0:=zH (HK0.out.below hb6 HK0.out.lt);replace HK1:=zH (HK1.out.below hb6 HK1.out.lt);replace HBA:=zH (bstep HBA.out hb6);have HN6:=zH hag.len;have HFR:=zH hfr6;have HRD:=zH hrd6;have HLL:=zH hll6;have HS6:Hid (w5.heap.size<=w6.heap.size):=hb6.size;clear hag hb6 hfr6 hrd6 hll6 HAG;go_wp2_with fail;refine (kRules_any w6 (HL.out _ HBA.out)).mono ?_;rintro e w7 ⟨⟨rb,rfl,hru⟩,hb7⟩;replace HK0:=zH (HK0.out.below hb7 HK0.out.lt);replace HK1:=zH (HK1.out.below hb7 HK1.out.lt);replace HBA:=zH (bstep HBA.out hb7);have HRU:=zH hru;have HO7:Hid (Onl B w6 w7):=Onl.of_below hb7;clear hru hb7;go_wp2
 go_loopg [32] l2 (fun g iv wr=>∃(j:Nat) (ts:List Ty) (v:Value),j+g=l2/\iv=.int .i64 j/\ts.length=j/\Hid (tyGo sg (es.drop j) (ags.drop j) ts=res)/\Hid (∀t∈ts,rightB t=true)/\
  Hid (Blk wr B 182 [v])/\Hid (Blk wr (B+1) 46 [.int .i64 0])/\Hid (wr.ownsRow w7.heap.size 34 3 v j (tys ts))/\Hid (Onl B w7 wr)/\Hid (Below w.heap.size w wr))
 case atStart=>exact⟨0,[],.slice none 0 0,by omega,rfl,rfl,HTR.out,(fun t h=>by cases h),HK0,HK1,World.ownsRow_nil _ _ _ _,Onl.refl _ _,HBA⟩
 case round=>
  obtain⟨j,ts,v,hj,rfl,htl,hty,hrt,hk0,hk1,hown,hon,hbr⟩:=hrel;clear HK0 HK1 HBA HTR;by_cases hlt:j<l2
  ·have hje:j<es.length:=by rw[<-H2.out.len];exact hlt
   obtain⟨row,hrow,hrl,hrx,hwn⟩:=HARG.out j hje;have hdE:=List.drop_eq_getElem_cons hje
   have hdA:ags.drop j=row::ags.drop (j+1):=by
    have hja:j<ags.length:=by rw[HAL.out];exact hje
    rw[List.drop_eq_getElem_cons hja];rw[List.getElem?_eq_getElem hja] at hrow;injection hrow with hrow;rw[hrow]
   have hty2:=hty.out;rw[hdE,hdA] at hty2;obtain⟨hop1,hop2⟩:=wrong_op hwn;obtain⟨b,off,hA,hb,hc0,hc1,hc2,hc3,hc4⟩:=(H2.out.rd.below hbr.out).nd hje;subst hA;generalize es[j]=nd at*;obtain⟨op,⟨neg,num,den⟩,nm⟩:=nd;simp only at hc0 hc1 hc2 hc3 hc4 hop1 hop2 hrl;obtain⟨p,rfl⟩:∃p:Nat,op=p:=⟨op.toNat,by omega⟩
   have HTY:=zH hty2;have HRX:=zH hrx;have HRL:=zH hrl;obtain⟨vr,hvr,hrow1⟩:=(HLL.out.step (X':=fun _=>False) (HO7.out.trans hon.out).grown (fun g h=>by injection h with h;subst h;have:=HB5.out;show _<_;omega) (fun g h=>h.elim)).row j row hrow;clear hdE hdA hty2 hty hwn hrx hrl;obtain⟨hlo,hrb,hrk⟩:=HRU.out.keeps (Keeps.onl hon.out (by have:=HB5.out;have:=HS6.out;omega));obtain⟨f,hq0,hq1,hrv⟩:=hrk p (by omega) (by omega);rw[Nat.mul_comm] at hq0 hq1;have htwo:=kTwo_new wr 49 34 #[.int .i64 (p:Int),.bool neg,.string num,.string den,.string nm] #[.bool false,.int .i64 0,.int .i64 0];obtain⟨WB,hWB⟩:=zE ((wr.alloc (.cells #[.int .i64 (p:Int),.bool neg,.string num,.string den,.string nm] 49)).alloc (.cells #[.bool false,.int .i64 0,.int .i64 0] 34));obtain⟨N,hN⟩:=zE wr.heap.size;rw[<-hWB,<-hN] at htwo;obtain⟨hn0,hn1,hnb,hsz⟩:=htwo;rw[hN] at hnb;have HQ0:=zH hq0;have HQ1:=zH hq1;have HRV:=zH hrv;have HRB:=zH hrb;have HN0:=zH hn0;have HN1:=zH hn1;have HNB:=zH hnb;have HNE:=zH hN;clear hsz hlo hrk hq0 hq1 hrv hrb hn0 hn1 hnb
   go_upto_region 12 with fail
   simp only[<-hWB,<-hN]
   clear hWB hN hc0 hc1 hc2 hc3 hc4;have hn0:=HN0.out.cells;have hq0:=(HNB.out.cell HRB.out).trans HQ0.out;obtain⟨sb,hsb⟩:=zF (sigB (p:Int));rw[hsb] at hq0;have HSB:=zH hsb;clear hsb
   go_upto_if 42 with fail
   clear hn0 hq0
   go_cut [42] from 42 to 45 (fun qv wc=>∃own:Ty,Hid (ownT sg ⟨(p:Int),⟨neg,num,den⟩,nm⟩=some own)/\Hid (Blk wc N 49 [.int .i64 (p:Int),.bool neg,.string num,.string den,.string nm])/\Hid (Blk wc (N+1) 34 own.cells)/\Hid (Below wr.heap.size wr wc))
   case first=>
    have hn0:=HN0.out.cells;cases sb
    ·go_wp2
     go_meet
     case rel=>exact⟨tPlain,(by show _=_;unfold ownT;rw[if_neg (by rw[HSB.out];simp)]),HN0,HN1,HNB⟩
    ·go_wp2_with fail;refine (HSG.out _ ⟨(p:Int),⟨neg,num,den⟩,nm⟩ (bstep hbr.out HNB.out)).mono ?_;rintro e w9 ⟨hsp,hb9⟩;obtain⟨q,hq⟩:=zF (sigOf sg ⟨(p:Int),⟨neg,num,den⟩,nm⟩);rw[hq] at hsp;have hot:ownT sg ⟨(p:Int),⟨neg,num,den⟩,nm⟩=q:=by unfold ownT;rw[if_pos HSB.out,hq]
     cases q with
     |none=>
      obtain rfl:e=.panicked (errPanic 12):=hsp;obtain rfl:res=([],12):=by rw[<-HTY.out,tyGo_none hot]
      have hk0':=hk0.out.below (bstep HNB.out hb9) hk0.out.lt;have hk1':=hk1.out.below (bstep HNB.out hb9) hk1.out.lt;have HBE:Hid (Below w.heap.size w w9):=bstep hbr.out (bstep HNB.out hb9);clear hb9 hq hot hn0;go_wp2;exact types_panic 12 w w9 B _ _ _ hk0' hk1' HB.out HBE.out rfl rfl
     |some t=>
      obtain rfl:e=.returned t.v:=hsp;obtain⟨tt,tm,td⟩:=t;have hn1':=HN1.out.below hb9 HN1.out.lt;have hn1c:=hn1'.cells;have hn1f:=hn1'.froz;have HN0':=zH (HN0.out.below hb9 HN0.out.lt);have HN1':=zH hn1';have HB9:=zH (bstep HNB.out hb9);have HOT:=zH hot;clear hb9 hn1' hq hot hn0;unfold Ty.v;go_wp2
      go_meet
      case rel=>
       refine⟨⟨tt,tm,td⟩,HOT,?_,?_,?_⟩
       ·exact ((HN0'.out.other (by show N≠N+1;omega) _).other (by show N≠N+1;omega) _).other (by show N≠N+1;omega) _
       ·exact ((HN1'.out.set 0 _).set 1 _).set 2 _
       ·exact below_st3 (B:=N+1) HB9.out (by have:=HNE.out;omega) _ _ _
   case rest=>
    obtain⟨own,hot,hm0,hm1,hbc⟩:=hcut;have hor:=zH (ownT_right hot.out);obtain⟨Ar,cr,rfl,hr1,hr2,hrd,_⟩:=hrow1;obtain⟨b6,o6,hA6,hb6,hc6⟩:=HRD.out.at_ (k:=j) (by rw[HLL.out.len,HAL.out];exact hje);replace hc6:=hc6 j (by rw[HLL.out.len,HAL.out];exact hje)
    have hv6:cs6[j]'(by rw[HLL.out.len,HAL.out];exact hje)=.slice Ar row.length cr:=by
     rw[List.getElem?_eq_getElem (by rw[HLL.out.len,HAL.out];exact hje)] at hvr;injection hvr
    rw[hv6] at hc6;have hb6B:b6≠B:=by have h1:=HFR.out _ hA6;have h2:=HB5.out;show b6≠B;have h3:w5.heap.size<=b6:=h1;omega
    have hc6c:wc.cell? ⟨b6,o6+j,none⟩=some (.slice Ar row.length cr):=by
     rw[hbc.out.cell (Nat.lt_of_lt_of_le hb6 (HO7.out.trans hon.out).size),World.cell?_of_block ((HO7.out.trans hon.out).block b6 hb6 hb6B)];exact hc6
    subst hA6;have hjn:j<n6:=by rw[HN6.out,HAL.out];exact hje
    have HM0:=hm0;have HM1:=hm1;have HBC:=hbc;have HOT:=hot;have HK0:Hid (Blk wc B 182 [v]):=hk0.out.below hbc.out hk0.out.lt;have HK1:Hid (Blk wc (B+1) 46 [.int .i64 0]):=hk1.out.below hbc.out hk1.out.lt;have HOW:Hid (wc.ownsRow w7.heap.size 34 3 v j (tys ts)):=own_below hown.out hbc.out;have HRW:Hid (Rd wc Ar (I row)):=hrd.below hbc.out;have hrow3:row.length<=3:=by rw[HRL.out];exact shp_ops3 _
    clear hot hm0 hm1 hbc hrd hv6 hc6 hvr hb6 hb6B hk0 hk1 hown hrow;go_wp2
    go_loopg [13,51] row.length (fun g lv iv wq=>∃i:Nat,i+g=row.length/\iv=.int .i64 i/\Hid (wq.ownsRow wc.heap.size 34 3 lv i (tys (rowT ts (row.take i))))/\Hid (Below wc.heap.size wc wq))
    case atStart=>exact⟨0,by omega,rfl,World.ownsRow_nil _ _ _ _,Below.refl _ _⟩
    case round=>
     obtain⟨i,hi,rfl,hol,hbq⟩:=hrel;by_cases hil:i<row.length
     ·have hxj:row[i]<j:=HRX.out _ (List.getElem_mem hil);obtain⟨br,orr,rfl,hbr9,hcr⟩:=HRW.out.i hil;have hgd:row.getD i 0=row[i]:=by rw[List.getD_eq_getElem?_getD,List.getElem?_eq_getElem hil];rfl
      rw[hgd] at hcr;obtain⟨Av,cv,rfl,hv1,hv2,hvr,hvl⟩:=own_rd HOW.out;have hxt:row[i]<ts.length:=by rw[htl];exact hxj
      obtain⟨bv,ov,rfl,hbv,hx0,hx1,hx2⟩:=hvr.ty hxt
      have HST:Hid (tys (rowT ts (row.take (i+1)))=tys (rowT ts (row.take i))++Ty.cells ts[row[i]]):=by
       show _=_;rw[List.take_succ_eq_append_getElem hil];unfold rowT;rw[List.map_append,tys_append];congr 1;show Ty.cells (ts.getD row[i] tPlain)++[]=_;rw[List.append_nil,List.getD_eq_getElem?_getD,List.getElem?_eq_getElem hxt];rfl
      generalize ts[row[i]]=tx at*;obtain⟨tt,tm,td⟩:=tx;generalize row[i]=x at*;have hk0c:wr.cell? ⟨B,0,none⟩=some (.slice (some ⟨bv,ov,none⟩) j cv):=(hbq.out.cell HK0.out.lt).trans (HK0.out.cells 0);have hcr':=(hbq.out.cell hbr9).trans hcr;have hx0':=(hbq.out.cell hbv).trans hx0;have hx1':=(hbq.out.cell hbv).trans hx1;have hx2':=(hbq.out.cell hbv).trans hx2;simp only at hx0' hx1' hx2';clear hx0 hx1 hx2 hcr hvr hvl hxt hgd;go_wp2_with (at_builtin;go_must (refine wpList_push wr #[.bool tt,.int .i64 tm,.int .i64 td] rfl _ _ 182 rfl wc.heap.size 34 _ 3 24 1 Tryz.underlying182 info_ty rfl (by decide) u13 i (tys (rowT ts (row.take i))) rfl hol.out rfl rfl ?_ ?_ ?_ ?_ ?_))
      any_goals first|(unfold maxLen;omega)|omega
      ·exact⟨rfl,rfl,rfl⟩
      ·exact hbq.out.size
      intro v' w' hown' hb';have HOWN2:Hid (w'.ownsRow wc.heap.size 34 3 v' (i+1) (tys (rowT ts (row.take (i+1))))):=by show World.ownsRow _ _ _ _ _ _ _;rw[HST.out];exact hown'
      have HBQ:=zH (hbq.out.trans hb');clear hown' hb';go_wp2
      go_roundg (row.length-(i+1))
      case measure=>omega
      case rel=>exact⟨i+1,by omega,by go_num,HOWN2,HBQ⟩
     ·have hie:i=row.length:=by omega
      have hol2:=hol.out;rw[hie,List.take_length] at hol2;clear hol;have HWB9:=zH (bstep hbr.out (bstep HBC.out hbq.out));obtain⟨g,lb,rfl,heg,hcall⟩:=HRV.out.keeps (Keeps.of (bstep HBC.out hbq.out) _);obtain⟨Al,cl,rfl,hl1,hl2',hlr,_⟩:=own_rd hol2
      have HCALL0:=zH (fun W hb=>hcall own (rowT ts row) Al row.length cl W (Keeps.of hb _) (HL.out _ (bstep HWB9.out hb)) (by unfold rowT;rw[List.length_map]) hl1 (Nat.le_trans hl1 hl2') (hlr.below hb)
       (fun t ht=>by unfold rowT at ht;obtain⟨k,_,rfl⟩:=List.mem_map.1 ht;exact right_getD hrt.out k) (by unfold rowT;rw[List.length_map];exact HRL.out))
      obtain⟨rt,hrt9⟩:=zE ((ruleT (p:Int) own (rowT ts row)).1);obtain⟨ok,hok⟩:=zE ((ruleT (p:Int) own (rowT ts row)).2);rw[<-hrt9,<-hok] at HCALL0;have HRT:=zH hrt9;have HOK:=zH hok;obtain⟨ra,rm,rd'⟩:=rt;obtain⟨oa,om,od⟩:=own;have hq1:=((bstep HBC.out hbq.out).cell HRB.out).trans HQ1.out;have hn0:wr.cell? ⟨N,0,none⟩=some (.int .i64 (p:Int)):=(hbq.out.cell HM0.out.lt).trans (HM0.out.cells 0);have ho0:wr.cell? ⟨N+1,0,none⟩=some (.bool oa):=(hbq.out.cell HM1.out.lt).trans (HM1.out.cells 0);have ho1:wr.cell? ⟨N+1,1,none⟩=some (.int .i64 om):=(hbq.out.cell HM1.out.lt).trans (HM1.out.cells 1);have ho2:wr.cell? ⟨N+1,2,none⟩=some (.int .i64 od):=(hbq.out.cell HM1.out.lt).trans (HM1.out.cells 2);have HCALL:Hid (∀W,Below wr.heap.size wr W->Calls Tryz.prog g (#[.agg #[.bool oa,.int .i64 om,.int .i64 od],.slice Al row.length cl]++lb) W fun e w'=>e=.returned (.tuple #[.agg #[.bool ra,.int .i64 rm,.int .i64 rd'],.bool ok])/\Below W.heap.size W w'):=HCALL0.out
      have HSS:Hid (∀W,Below wr.heap.size wr W->Below wr.heap.size wr W/\W.cell? ⟨N,0,none⟩=some (.int .i64 (p:Int))/\W.cell? ⟨rb,p*2+1,none⟩=some (.func (.func g) #[] lb)/\W.cell? ⟨N+1,0,none⟩=some (.bool oa)/\W.cell? ⟨N+1,1,none⟩=some (.int .i64 om)/\W.cell? ⟨N+1,2,none⟩=some (.int .i64 od)):=fun W hb=>
       ⟨hb,(hb.cell (Nat.lt_of_lt_of_le HM0.out.lt hbq.out.size)).trans hn0,(hb.cell (Nat.lt_of_lt_of_le HRB.out (bstep HBC.out hbq.out).size)).trans hq1,(hb.cell (Nat.lt_of_lt_of_le HM1.out.lt hbq.out.size)).trans ho0,(hb.cell (Nat.lt_of_lt_of_le HM1.out.lt hbq.out.size)).trans ho1,(hb.cell (Nat.lt_of_lt_of_le HM1.out.lt hbq.out.size)).trans ho2⟩
      clear hrt9 hok hcall HCALL0 hlr hn0 hq1 ho0 ho1 ho2;have hp25:(p:Int)<25:=by omega
      go_upto_region 19 with fail
      go_cut [16,17] from 33 to 74 (fun pv okv wy=>∃b9:Nat,pv=.pointer (some ⟨b9,0,none⟩)/\okv=.bool ok/\Hid (Blk wy b9 34 [.bool ra,.int .i64 rm,.int .i64 rd'])/\Hid (Below wr.heap.size wr wy))
      case first=>
       refine wp_region_noPanic ?_;refine wp_region_held_drew (S:=(fun w'=>Below wr.heap.size wr w'/\w'.cell? ⟨N,0,none⟩=some (.int .i64 (p:Int))/\w'.cell? ⟨rb,p*2+1,none⟩=some (.func (.func g) #[] lb)/\w'.cell? ⟨N+1,0,none⟩=some (.bool oa)/\w'.cell? ⟨N+1,1,none⟩=some (.int .i64 om)/\w'.cell? ⟨N+1,2,none⟩=some (.int .i64 od))) (by kernel_rfl) (HSS.out _ (drewN_below wr.heap.size wr 1)) (fun hHeld=>?_);refine tkZ 0 ?_;refine tkZ 1 ?_;refine tkZ 2 ?_;refine tkZ 3 ?_;refine tkZ 4 ?_;refine tkZ 5 ?_;refine tkZ 6 ?_;refine tkZ 7 ?_;refine tkR2 8 12 (fun K hK=>?_) fun K hK=>?_
       ·skip
        go_simp;have hbS:=hHeld.1;refine (HCALL.out _ hbS).mono ?_;rintro e w10 ⟨rfl,hb10⟩;have HBT:=zH (bstep hbS hb10);go_wp2_with fail;refine tkK hK (HSS.out _ (HBT.out)) fun hHeld=>?_
        clear hK K;refine tkZ 9 ?_;refine tkZ 10 ?_;refine tkZ 11 ?_;refine tkR 12 fun K hK=>?_
        go_simp;go_wp2_with fail;refine tkK hK (HSS.out _ (bstep HBT.out (zB _ _))) fun hHeld=>?_
        clear hK K;refine tkR 13 fun K hK=>?_
        go_simp;go_wp2_with fail;refine tkK hK (HSS.out _ (bstep HBT.out (zB _ _))) fun hHeld=>?_
        clear hK K;refine tkZ 14 ?_;refine wpAnyH_done (by kernel_rfl) ?_ _;refine NoPanic.normal ?_;go_wp2
        go_meet
        case rel=>exact⟨_,rfl,rfl,Blk.new _ _ _,bstep HBT.out (zB _ _)⟩
       ·skip
        go_simp;go_wp2_with fail;refine tkK hK (HSS.out _ (below_drewN (zB _ _) 1)) fun hHeld=>?_
        clear hK K;refine tkR 8 fun K hK=>?_
        go_simp;have hbS:=hHeld.1;refine (HCALL.out _ hbS).mono ?_;rintro e w10 ⟨rfl,hb10⟩;have HBT:=zH (bstep hbS hb10);have HBM:=zH (((Blk.new wr 34 #[.bool false,.int .i64 0,.int .i64 0]).drewN 1).below hb10 ((Blk.new wr _ _).drewN 1).lt);have hcm:=HBM.out.cells;have hfm:=HBM.out.froz;go_wp2_with fail;refine tkK hK (HSS.out _ HBT.out) fun hHeld=>?_
        clear hK K;refine tkZ 9 ?_;refine tkZ 10 ?_;refine tkZ 11 ?_;refine tkR 13 fun K hK=>?_
        go_simp;go_wp2_with fail;refine tkK hK (HSS.out _ (below_st3 (B:=wr.heap.size) HBT.out (Nat.le_refl _) _ _ _)) fun hHeld=>?_
        clear hK K;refine tkZ 14 ?_;refine wpAnyH_done (by kernel_rfl) ?_ _;refine NoPanic.normal ?_;go_wp2
        go_meet
        case rel=>exact⟨_,rfl,rfl,((HBM.out.set 0 _).set 1 _).set 2 _,below_st3 (B:=wr.heap.size) HBT.out (Nat.le_refl _) _ _ _⟩
      case rest=>
       obtain⟨b9,rfl,rfl,hk9,hby⟩:=hcut;have HBY:=zH (bstep HBC.out (bstep hbq.out hby.out));have hk0y:=HK0.out.below (bstep hbq.out hby.out) HK0.out.lt;have hk1y:=HK1.out.below (bstep hbq.out hby.out) HK1.out.lt;have HRO:=HOT;cases ok
       ·obtain rfl:res=([],13):=by rw[<-HTY.out,tyGo_bad HOT.out HOK.out.symm]
        have HBE:=zH (bstep hbr.out HBY.out);clear hby hk9;go_wp2;exact types_panic 13 w wc B _ _ _ hk0y hk1y HB.out HBE.out rfl rfl
       ·have HTY2:Hid (tyGo sg (es.drop (j+1)) (ags.drop (j+1)) (ts++[⟨ra,rm,rd'⟩])=res):=by
         show _=_;rw[<-HTY.out,tyGo_cons HOT.out HOK.out.symm,<-HRT.out]
        have HRR:Hid (rightB ⟨ra,rm,rd'⟩=true):=by
         show _=_;rw[HRT.out];exact ruleT_right _ _ _ hor.out (fun t ht=>by unfold rowT at ht;obtain⟨k,_,rfl⟩:=List.mem_map.1 ht;exact right_getD hrt.out k) HOK.out.symm
        have HOWY:Hid (wc.ownsRow w7.heap.size 34 3 v j (tys ts)):=own_below HOW.out (bstep hbq.out hby.out);have hk9c:=hk9.out.cells;have hk0c:wc.cell? ⟨B,0,none⟩=some v:=hk0y.cells 0;have HD:Hid (B+1<w7.heap.size):=by have h1:=HB5.out;have h2:=HS6.out;have h3:=HO7.out.size;show _<_;omega
        have HSY:Hid (w7.heap.size<=wc.heap.size):=Nat.le_trans hon.out.size HBY.out.size;have HK0Y:=zH hk0y;have HK1Y:=zH hk1y;clear hk0y hk1y hby hk9 hol2;go_wp2_with (at_builtin;go_must (refine wpList_push wc #[.bool ra,.int .i64 rm,.int .i64 rd'] rfl _ _ 182 rfl w7.heap.size 34 _ 3 24 1 Tryz.underlying182 info_ty rfl (by decide) v j (tys ts) rfl HOWY.out rfl rfl ?_ ?_ ?_ ?_ ?_))
        any_goals first|(unfold maxLen;omega)|omega
        ·exact⟨rfl,rfl,rfl⟩
        ·exact HSY.out
        intro v' w' hown' hb';obtain⟨Av',cv',rfl,_⟩:=own_rd hown';have hk0':Blk w' B 182 [v]:=HK0Y.out.of_block (hb'.block B (by have:=HD.out;omega));have hk1':Blk w' (B+1) 46 [.int .i64 0]:=HK1Y.out.of_block (hb'.block (B+1) HD.out);have hk0c':w'.cell? ⟨B,0,none⟩=some v:=hk0'.cells 0;have hk0f':=hk0'.froz;have HK0':=zH hk0';have HK1':=zH hk1';have HBN:=zH hb';have HOWN':=zH hown';clear hk0' hk1' hb' hown' hk0c hk9c;go_wp2
        go_roundg (l2-(j+1))
        case measure=>omega
        case rel=>
         have hgs:=grown_set w' B 0 (.slice Av' (j+1) cv');refine⟨j+1,ts++[⟨ra,rm,rd'⟩],.slice Av' (j+1) cv',by omega,by go_num,by rw[List.length_append,htl];rfl,HTY2,?_,HK0'.out.set 0 _,HK1'.out.other (by show B+1≠B;omega) _,?_,?_,?_⟩
         ·intro t ht;rcases List.mem_append.1 ht with ht|ht
          ·exact hrt.out t ht
          ·rw[List.mem_singleton.1 ht];exact HRR.out
         ·show World.ownsRow _ _ _ _ _ _ _;rw[tys_append];refine HOWN'.out.kept hgs ?_;cases hv:(Value.slice Av' (j+1) cv').ownBlock with
          |none=>exact .inl rfl
          |some g=>exact .inr (fun h=>by have h1:=(HOWN'.out.lt g hv).1;have h2:g=B:=Option.some.inj h;have:=HD.out;omega)
         ·exact (((hon.out.more (HBY.out.mono hon.out.size)).more (HBN.out)).set 0 _)
         ·exact (((bstep hbr.out HBY.out).trans (HBN.out.mono (by have h1:=HB.out;have:=HD.out;omega))).setCell (p:=⟨B,0,none⟩) (by show _<=B;have h1:=HB.out;omega) _)
  ·obtain rfl:j=l2:=by omega
   have hres:res=(ts,0):=by
    rw[<-hty.out,H2.out.len,List.drop_length];cases ags.drop es.length<;>rfl
   subst hres;obtain⟨Av,cv,rfl,hv1,hv2,hvr,hvl⟩:=own_rd hown.out;have hc0:wr.cell? ⟨B,0,none⟩=some (.slice Av j cv):=hk0.out.cells 0;have hc1:wr.cell? ⟨B+1,0,none⟩=some (.int .i64 0):=hk1.out.cells 0;have hf0:=hk0.out.froz;have hf1:=hk1.out.froz
   have HNE:Hid (∀ad,Av=some ad->w7.heap.size<=ad.block):=by
    obtain⟨A',c',hv,_,_,_,h4⟩:=own_rd2 hown.out;injection hv with e1 e2 e3;show ∀ad,_->_;rw[e1];exact h4
   have HD:Hid (B+1<w7.heap.size):=by have h1:=HB5.out;have h2:=HS6.out;have h3:=HO7.out.size;show _<_;omega
   have HBW:Hid (∀u u',Below w.heap.size w ((wr.setCell ⟨B,0,none⟩ u).setCell ⟨B+1,0,none⟩ u')):=fun u u'=>
    (hbr.out.setCell (p:=⟨B,0,none⟩) (by show _<=B;have:=HB.out;omega) u).setCell (p:=⟨B+1,0,none⟩) (by show _<=B+1;have:=HB.out;omega) u'
   have HVR:=zH hvr;clear hvr hvl hown hty hbr hk0 hk1;go_wp2;refine leaves_cons (f:=158) (args:=#[.pointer (some ⟨B,0,none⟩),.pointer (some ⟨B+1,0,none⟩)]) (by simp) (by simp[go_sem]) ?_;refine (kcatch_idle B (B+1) _).mono ?_;rintro e u' w7 ⟨rfl,rfl,rfl⟩
   have hd0:((wr.setCell ⟨B,0,none⟩ (.slice Av j cv)).setCell ⟨B+1,0,none⟩ (.int .i64 0)).cell? ⟨B,0,none⟩=some (.slice Av j cv):=by
    rw[World.cell?_setCell_other _ _ _ _ (by simp)];exact World.cell?_setCell_same' _ _ _ (by rw[hc0];rfl)
   have hd1:((wr.setCell ⟨B,0,none⟩ (.slice Av j cv)).setCell ⟨B+1,0,none⟩ (.int .i64 0)).cell? ⟨B+1,0,none⟩=some (.int .i64 0):=
    World.cell?_setCell_same' _ _ _ (by rw[World.cell?_setCell_other _ _ _ _ (by simp),hc1];rfl)
   simp[Leaves,settle,results,Tryz.results119,go_sem,hd0,hd1];refine⟨Av,j,cv,rfl,htl.symm,hv1,hv2,?_,HBW.out _ _⟩;exact rd_other (rd_other HVR.out ⟨B,0,none⟩ _ (fun ad h=>by have h1:=HNE.out ad h;have:=HD.out;show ad.block≠B;omega)) ⟨B+1,0,none⟩ _ (fun ad h=>by have h1:=HNE.out ad h;have:=HD.out;show ad.block≠B+1;omega)
theorem kTypes_any (sg:List Sg) (es:List Nd) (A1 A2:Option Addr) (k1 c1 l2 c2:Nat) (w:World) (hL:LaidK w) (hk1:k1=sg.length) (hm1:k1<=maxLen) (hr1:Rd w A1 (sgs sg)) (h2:Es w es A2 l2 c2) (hf:∀n∈es,Fine n):
  Calls Tryz.prog 119 #[.slice A1 k1 c1,.slice A2 l2 c2] w (RetTys (typesE sg es) w):=by
 by_cases hz:checkE es=0
 ·exact kTypes_ok sg es A1 A2 k1 c1 l2 c2 w hL hk1 hm1 hr1 h2 hf hz
 ·exact kTypes_wrong sg es A1 A2 k1 c1 l2 c2 w hL h2 hf hz
theorem typesE_pos {sg:List Sg} {es:List Nd} (h:(typesE sg es).2=0):0<(typesE sg es).1.length:=by
 by_cases hz:checkE es=0
 ·unfold typesE at h⊢;rw[if_pos hz] at h⊢;rw[tyGo_len es (argsE es) [] (runA_length _ _ _) h];have:=(checkE_pos hz).1;simp;omega
 ·unfold typesE at h;rw[if_neg hz] at h;exact absurd h hz
theorem kType_any (sg:List Sg) (es:List Nd) (A1 A2:Option Addr) (k1 c1 l2 c2:Nat) (w:World) (hL:LaidK w) (hk1:k1=sg.length) (hm1:k1<=maxLen) (hr1:Rd w A1 (sgs sg)) (h2:Es w es A2 l2 c2) (hf:∀n∈es,Fine n):
  Calls Tryz.prog 78 #[.slice A1 k1 c1,.slice A2 l2 c2] w fun e w'=>e=.returned (.tuple #[(typeE sg es).1.v,.int .i64 (typeE sg es).2])/\Below w.heap.size w w':=by
 have HT:=zH (fun W hb=>kTypes_any sg es A1 A2 k1 c1 l2 c2 W (hL.below hb) hk1 hm1 (hr1.below hb) (h2.below hb) hf);have HP:=zH (typesE_pos (sg:=sg) (es:=es));have HE:Hid (typeE sg es=(let r:=typesE sg es;if r.2=0 then (r.1.getD (r.1.length-1) tPlain,0) else (tPlain,r.2))):=rfl;have HV0:Hid ((typesE sg es).2=0->typeE sg es=((typesE sg es).1.getD ((typesE sg es).1.length-1) tPlain,0)):=fun h=>by rw[HE.out];simp only;rw[if_pos h]
 have HV1:Hid ((typesE sg es).2≠0->typeE sg es=(tPlain,(typesE sg es).2)):=fun h=>by rw[HE.out];simp only;rw[if_neg h]
 generalize typeE sg es=R at*;generalize typesE sg es=r at*;obtain⟨ts,z⟩:=r;clear HE hL hk1 hm1 hr1 h2 hf;obtain⟨W,hW⟩:=zE (w.alloc (.cells #[.bool false,.int .i64 0,.int .i64 0] 34));obtain⟨B,hB⟩:=zE w.heap.size;have hk0:Blk W B 34 [.bool false,.int .i64 0,.int .i64 0]:=by rw[hW,hB];exact Blk.new w _ _
 have hba:Below w.heap.size w W:=by rw[hW];exact zB _ _
 have HB:=zH hB;have HK0:=zH hk0;have HBA:=zH hba;clear hk0 hba;go_enter Tryz.func78,Tryz.ntmps78;go_wp2_with fail;simp only[<-hW,<-hB]
 clear hW hB;refine (HT.out W HBA.out).mono ?_;rintro e w5 ⟨A,n,c,rfl,hn,hnc,hcm,hrd,hb5⟩;have hk0:=HK0.out.below hb5 HK0.out.lt;have hkc:=hk0.cells;have hkf:=hk0.froz;have HBW:=zH (bstep HBA.out hb5);replace hn:n=ts.length:=hn;replace hrd:Rd w5 A (tys ts):=hrd;simp only
 have HFIN:Hid (∀u0 u1 u2,Below w.heap.size w (((w5.setCell ⟨B,0,none⟩ u0).setCell ⟨B,1,none⟩ u1).setCell ⟨B,2,none⟩ u2)):=fun u0 u1 u2=>below_st3 (B:=B) HBW.out (by have:=HB.out;omega) _ _ _
 clear hb5 hk0;by_cases hz:z=0
 ·subst hz;have hp:0<ts.length:=HP.out rfl;have hlast:n-1<ts.length:=by omega
  obtain⟨b,off,hA,hbb,hx0,hx1,hx2⟩:=hrd.ty hlast;subst hA;have HLA:Hid (ts.getD (ts.length-1) tPlain=ts[n-1]):=by show _=_;rw[<-hn,List.getD_eq_getElem?_getD,List.getElem?_eq_getElem hlast];rfl
  generalize ts[n-1]=tx at hx0 hx1 hx2 HLA;obtain rfl:R=(tx,0):=by rw[<-HLA.out];exact HV0.out rfl
  clear HV0 HV1 HLA;obtain⟨tt,tm,td⟩:=tx;simp only at hx0 hx1 hx2;have hw1:IntKind.i64.wrap ((n:Int)-1)=((n-1:Nat):Int):=by rw[IntWalk.i64_in _ (by unfold maxLen at hcm;omega)];omega
  have hn1:n-1<n:=by omega
  generalize n-1=m at*;have HN:=zH hn;clear hrd hp hlast hn hcm;go_wp2;refine bodyPost_ret (v:=.tuple #[.agg #[.bool tt,.int .i64 tm,.int .i64 td],.int .i64 0]) (by simp[results,Tryz.results78,go_sem,hkc]) rfl ⟨rfl,?_⟩;exact HFIN.out _ _ _
 ·have hzb:(z !=0)=true:=by simp[hz]
  have hzc:(z==0)=false:=by simp[hz]
  obtain rfl:R=(tPlain,z):=HV1.out hz;have HN:=zH hn;clear hz hn hrd;go_wp2;refine bodyPost_ret (v:=.tuple #[.agg #[.bool false,.int .i64 0,.int .i64 0],.int .i64 z]) (by simp[results,Tryz.results78,go_sem,hkc]) rfl ⟨rfl,?_⟩;exact HFIN.out _ _ _
structure Bk where
 fr:Ra
 rt:Ra
deriving DecidableEq
def Bk.cells (b:Bk):List Value:=[.bool b.fr.neg,.string b.fr.num,.string b.fr.den,.bool b.rt.neg,.string b.rt.num,.string b.rt.den]
def bks (l:List Bk):List Value:=l.flatMap Bk.cells
def FineR (a:Ra):Prop:=a.num.size<=1048576/\a.den.size<=1048576
def FineB (b:Bk):Prop:=FineR b.fr/\FineR b.rt
def brB (k:Nat) (p b:Bk):Bool:= !okR b.fr|| !okR b.rt||(if k=0 then decide (signR b.fr≠0) else decide (0<=cmpR p.fr b.fr))
def brGo:Nat->Bk->List Bk->Bool
 |_,_,[]=>false
 |k,p,b::r=>brB k p b||brGo (k+1) b r
def unfitB (b:Bk):Bool:= !fitsR b.fr|| !fitsR b.rt
def rateE (l:List Bk):Int:=if 8<l.length then 2 else if l.length=0 then 11 else if brGo 0 ⟨zR,zR⟩ l then 11 else if l.any unfitB then 3 else 0
theorem rCheck1_any (b:Bk) (hf:FineB b) (w:World):Calls Tryz.prog 76 #[.agg (Bk.cells b).toArray] w fun e w'=>e=.returned (.bool (unfitB b))/\Below w.heap.size w w':=by
 obtain⟨⟨h1,h2⟩,h3,h4⟩:=hf;have HA:=zH (fun W=>mFits_any b.fr W (by omega) (by omega));have HB:=zH (fun W=>mFits_any b.rt W (by omega) (by omega));have HU:Hid (unfitB b=(!fitsR b.fr|| !fitsR b.rt)):=rfl;obtain⟨⟨an,am,ad⟩,⟨bn,bm,bd⟩⟩:=b;unfold Bk.cells;simp only[Ra.v] at HA HB HU⊢;generalize fitsR ⟨an,am,ad⟩=fa at*;generalize fitsR ⟨bn,bm,bd⟩=fb at*;rw[HU.out];clear HU h1 h2 h3 h4;obtain⟨W,hW⟩:=zE (w.alloc (.cells #[.bool an,.string am,.string ad,.bool bn,.string bm,.string bd] 93));obtain⟨B,hB⟩:=zE w.heap.size;have hk0:Blk W B 93 [.bool an,.string am,.string ad,.bool bn,.string bm,.string bd]:=by rw[hW,hB];exact Blk.new w _ _
 have hba:Below w.heap.size w W:=by rw[hW];exact zB _ _
 have HK0:=zH hk0;have HBA:=zH hba;have hkc:=hk0.cells;clear hk0 hba;cases fa
 ·go_enter Tryz.func76,Tryz.ntmps76;go_wp2_with fail;simp only[<-hW,<-hB]
  clear hW hB;go_wp2_with fail;refine (HA.out W).mono ?_;rintro e w5 ⟨rfl,hb5⟩;have HBE:=zH (bstep HBA.out hb5);clear hb5;go_wp2;go_ret;exact⟨rfl,HBE.out⟩
 ·go_enter Tryz.func76,Tryz.ntmps76;go_wp2_with fail;simp only[<-hW,<-hB]
  clear hW hB;go_wp2_with fail;refine (HA.out W).mono ?_;rintro e w5 ⟨rfl,hb5⟩;have HBE:=zH (bstep HBA.out hb5);have hk5:=(HK0.out.below hb5 HK0.out.lt).cells;clear hb5;go_wp2_with fail;refine (HB.out _).mono ?_;rintro e w6 ⟨rfl,hb6⟩;have HBF:=zH (bstep HBE.out hb6);clear hb6;go_wp2;go_ret;exact⟨by simp,HBF.out⟩
def okB (b:Bk):Bool:=okR b.fr&&okR b.rt
theorem brGo_iff:∀(l:List Bk) (k:Nat) (p:Bk),brGo k p l=true↔∃i,∃h:i<l.length,brB (k+i) ((p::l)[i]'(by simp;omega)) l[i]=true:=by
 intro l
 induction l with
 |nil=>intro k p;constructor
       ·intro h;cases h
       ·rintro⟨i,h,_⟩;cases h
 |cons b r ih=>
  intro k p;rw[brGo,Bool.or_eq_true,ih];constructor
  ·rintro (h|⟨i,h,h2⟩)
   ·exact⟨0,by simp,h⟩
   ·exact⟨i+1,by simp;omega,by rw[show k+(i+1)=k+1+i by omega];exact h2⟩
  ·rintro⟨i,h,h2⟩;cases i with
   |zero=>exact .inl h2
   |succ i=>exact .inr ⟨i,by simpa using h,by rw[show k+1+i=k+(i+1) by omega];exact h2⟩
theorem rate_yes {l:List Bk} (h8:l.length<=8) (h0:0<l.length) (h1:∀b∈l,okB b=true) (h2:signR l[0].fr=0) (h3:∀i,∀h:i+1<l.length,cmpR l[i].fr l[i+1].fr<0):rateE l=if l.any unfitB then 3 else 0:=by
 unfold rateE;rw[if_neg (by omega),if_neg (by omega),if_neg];rw[brGo_iff];rintro⟨i,hi,h⟩;have ho:=h1 _ (List.getElem_mem hi);unfold okB at ho;rw[Bool.and_eq_true] at ho;unfold brB at h;rw[ho.1,ho.2] at h;cases i with
 |zero=>simp[h2] at h
 |succ i=>
  have:=h3 i hi;simp only[Bool.not_true,Bool.false_or,List.getElem_cons_succ] at h;rw[if_neg (by omega),decide_eq_true_eq] at h;omega
theorem cmp_lt {n m:Nat} (h:n<m):cmpR (ofI (n:Int)) (ofI (m:Int))<0:=by
 have e:ngR (ofI (m:Int))=⟨true,nbs m,nbs 1⟩:=by
  rw[ofI_nat];unfold ngR;simp only[Bool.not_false,Bool.true_and,Ra.mk.injEq,and_true,decide_eq_true_eq]
  intro h;have:=(nbs_eq_nil m).1 h;omega
 unfold cmpR;rw[e,ofI_nat];unfold addR;rw[if_neg (by simp)];simp only[vbs_nbs,Nat.mul_one]
 split
 ·omega
 ·rw[signR_low,if_neg (by omega)];simp
theorem fits_ok {a:Ra} (h:fitsR a=true):okR a=true:=by
 unfold fitsR at h;rw[Bool.and_eq_true,Bool.and_eq_true] at h;exact h.1.1
theorem fits_of:∀k:Fin 302,fitsR (ofI ((k:Nat):Int))=true:=by decide+kernel
structure BrG (l:List Bk):Prop where
 f:∃fs:List Nat,l.map Bk.fr=fs.map (fun (n:Nat)=>ofI (n:Int))/\(∃r,fs=0::r)/\fs.Pairwise (·<·)/\∀n∈fs,n<=301
 r:∀b∈l,fitsR b.rt=true
 n:l.length<=8
theorem BrG.rate {l:List Bk} (h:BrG l):rateE l=0:=by
 obtain⟨fs,h1,⟨r,rfl⟩,h3,h4⟩:=h.f;have hl:l.length=(0::r).length:=by have:=congrArg List.length h1;simpa using this
 have hat:∀i (hi:i<l.length),l[i].fr=ofI (((0::r)[i]'(by rw[<-hl];exact hi):Nat):Int):=fun i hi=>by
  have:=congrArg (fun x=>x[i]?) h1;simp only[List.getElem?_map,List.getElem?_eq_getElem hi,List.getElem?_eq_getElem (show i<(0::r).length by rw[<-hl];exact hi),Option.map_some] at this;exact Option.some.inj this
 have hf:∀b∈l,fitsR b.fr=true:=fun b hb=>by
  obtain⟨i,hi,rfl⟩:=List.getElem_of_mem hb;rw[hat i hi];have:=h4 _ (List.getElem_mem (show i<(0::r).length by rw[<-hl];exact hi));exact fits_of ⟨_,by omega⟩
 have h0:0<l.length:=by rw[hl];simp
 rw[rate_yes h.n h0 (fun b hb=>by unfold okB;rw[fits_ok (hf b hb),fits_ok (h.r b hb)];rfl) (by rw[hat 0 h0];show signR (ofI ((0:Nat):Int))=0;decide+kernel) (fun i hi=>by
  rw[hat i (by omega),hat (i+1) hi];exact cmp_lt (List.pairwise_iff_getElem.1 h3 i (i+1) (by rw[<-hl];omega) (by rw[<-hl];exact hi) (by omega)))]
 rw[if_neg];simp only[List.any_eq_true,not_exists,not_and]
 intro b hb;unfold unfitB;rw[hf b hb,h.r b hb];decide
theorem ratio_pos:∀k:Fin 40,∀d∈[1,2,10],0<signR (quoR (ofI (((k:Nat):Int)+1)) (ofI d)).1:=by decide+kernel
def capB (s c:Ra):Bool:=fitsR s&&(fitsR c&&(decide (0<signR s)&&(decide ((quoR c s).1.den=(ofI 1).den)&&(decide (0<signR (quoR c s).1)&&decide (cmpR (quoR c s).1 (ofI 200)<=0)))))
theorem capB_half:∀k:Fin 100,capB (quoR (ofI 1) (ofI 2)).1 (ofI (((k:Nat):Int)+1))=true:=by decide+kernel
def mulR (a b:Ra):Ra:=low (a.neg !=b.neg) (vbs a.num*vbs b.num) (vbs a.den*vbs b.den)
theorem xMul_any (a b:Ra) (w:World) (ha:okR a=true) (hb:okR b=true) (S:Nat) (hS:S<=1048577) (h1:a.num.size<=S) (h2:a.den.size<=S) (h3:b.num.size<=S) (h4:b.den.size<=S):
  Calls Tryz.prog 105 #[a.v,b.v] w fun e w'=>e=.returned (mulR a b).v/\Below w.heap.size w w':=by
 obtain⟨p1,p2,p3,p4⟩:=okR_prts ha;obtain⟨q1,q2,q3,q4⟩:=okR_prts hb;have HV1:=zH (fun W=>svalue_any a W (by omega) (by omega));have HV2:=zH (fun W=>svalue_any b W (by omega) (by omega));rw[valR_ok ha] at HV1;rw[valR_ok hb] at HV2;have e:mulR a b=low (a.neg !=b.neg) (vbs a.num*vbs b.num) (vbs a.den*vbs b.den):=rfl;have HL:=zH (fun W=>slowest_any (a.neg !=b.neg) _ _ (S+S) W (by omega) (mul_bound2 (vbs_le a.num S h1) (vbs_le b.num S h3)) (mul_bound2 (vbs_le a.den S h2) (vbs_le b.den S h4)) (Nat.mul_pos p2 q2));rw[<-e,show (a.neg !=b.neg)= !(a.neg==b.neg) from rfl] at HL;have HM1:=zH (fun W=>rMul_any a.num b.num W (by omega) (by omega));have HM2:=zH (fun W=>rMul_any a.den b.den W (by omega) (by omega));generalize mulR a b=r at*;generalize nbs (vbs a.num*vbs b.num)=M1 at*;generalize nbs (vbs a.den*vbs b.den)=M2 at*;clear ha hb h1 h2 h3 h4 hS p1 p2 p3 p4 q1 q2 q3 q4 e;obtain⟨an,au,ad⟩:=a;obtain⟨bn,bu,bd⟩:=b;obtain⟨rn,ru,rd⟩:=r;unfold Ra.v at HV1 HV2 HL⊢;simp only at HV1 HV2 HM1 HM2 HL⊢;go_enter Tryz.func105,Tryz.ntmps105
 go_upto_region 1 with fail
 generalize hX:World.alloc (World.alloc (World.alloc w _) _) _=X;have h:=R3.new (a:=⟨an,au,ad⟩) (b:=⟨bn,bu,bd⟩) hX;clear hX;have hc:=h.all _ h;go_wp2_with fail;refine (HV1.out _).mono ?_;rintro e w1 ⟨rfl,hb1⟩;clear hc;have hc:=h.all _ (h.grow hb1)
 go_upto_region 2 with fail
 generalize hX:World.setCell (World.setCell (World.setCell _ _ _) _ _) _ _=X1;replace h:=h.va hb1 ⟨an,au,ad⟩ hX;clear hX hc hb1;have hc:=h.all _ h;go_wp2_with fail;refine (HV2.out _).mono ?_;rintro e w2 ⟨rfl,hb2⟩;clear hc;have hc:=h.all _ (h.grow hb2)
 go_upto_region 3 with fail
 generalize hX:World.setCell (World.setCell (World.setCell _ _ _) _ _) _ _=X2;replace h:=h.vb hb2 ⟨bn,bu,bd⟩ hX;clear hX hc hb2;have hc:=h.ab;refine reS (fun X=>∃r,R3 w w.heap.size ⟨an,au,ad⟩ ⟨bn,bu,bd⟩ r X) 99 ⟨_,h.grow (drewN_below _ _ 1)⟩ (fun w6 h6 hS=>?_)
 iterate 9 refine reA ?_
 refine reZ 10 ?_;refine reZ 11 ?_;refine reZ 12 ?_;refine reZ 13 ?_;refine reC 9 (HM1.out _) ?_;rintro e w7 ⟨rfl,hb⟩;refine⟨_,rfl,hS.imp (fun _ h=>h.grow hb),fun hS=>?_⟩;refine reC 14 (HM2.out _) ?_;rintro e w8 ⟨rfl,hb⟩;refine⟨_,rfl,hS.imp (fun _ h=>h.grow hb),fun hS=>?_⟩;refine reC 15 (HL.out _) ?_;rintro e w9 ⟨rfl,hb⟩;refine⟨_,rfl,hS.imp (fun _ h=>h.grow hb),fun hS=>?_⟩;obtain⟨_,h⟩:=hS;have hc9:=h.all _ h;have hS:=h.vr (Below.refl _ _) ⟨rn,ru,rd⟩ rfl;refine reW 16 (fun _=>⟨_,hS⟩) (fun _=>?_);refine reE ?_;clear hc hS hc9;go_wp2;generalize hX:World.setCell (World.setCell (World.setCell _ _ _) _ _) _ _=X3;replace h:=h.vr (Below.refl _ _) ⟨rn,ru,rd⟩ hX;have hc:=h.all _ h;exact bodyPost_ret (v:=Ra.v ⟨rn,ru,rd⟩) (by simp[results,Tryz.results105,go_sem,hc,Ra.v]) rfl ⟨rfl,h.o⟩
theorem okI:∀k:Fin 450,(okR (ofI (((k:Nat):Int)-8))&&(decide ((ofI (((k:Nat):Int)-8)).num.size<=9)&&(decide ((ofI (((k:Nat):Int)-8)).den.size<=9)&&(decide ((k:Nat)=8)||decide ((ofI (((k:Nat):Int)-8)).num≠⟨#[]⟩)))))=true:=by decide+kernel
theorem okI_of {a:Int} (h0:-8<=a) (h1:a<=441):okR (ofI a)=true/\(ofI a).num.size<=9/\(ofI a).den.size<=9/\(a≠0->(ofI a).num≠⟨#[]⟩):=by
 obtain⟨k,rfl⟩:∃k:Nat,a=(k:Int)-8:=⟨(a+8).toNat,by omega⟩
 have h:=okI ⟨k,by omega⟩;simp only[Bool.and_eq_true,Bool.or_eq_true,decide_eq_true_eq] at h;exact⟨h.1,h.2.1,h.2.2.1,fun h9=>h.2.2.2.resolve_left (by omega)⟩
def frR (a b:Int):Ra:=(quoR (ofI a) (ofI b)).1
theorem frF:∀k:Fin 430,∀d:Fin 10,fitsR (frR (((k:Nat):Int)-8) (((d:Nat):Int)+1))=true:=by decide+kernel
theorem frR_fits {a b:Int} (h0:-8<=a) (h1:a<=420) (h2:1<=b) (h3:b<=10):fitsR (frR a b)=true:=by
 obtain⟨k,rfl⟩:∃k:Nat,a=(k:Int)-8:=⟨(a+8).toNat,by omega⟩
 obtain⟨d,rfl⟩:∃d:Nat,b=(d:Int)+1:=⟨(b-1).toNat,by omega⟩
 exact frF ⟨k,by omega⟩ ⟨d,by omega⟩
theorem qfr {a b:Int} (h0:-8<=a) (h1:a<=420) (h2:1<=b) (h3:b<=10) (W:World):Calls Tryz.prog 96 #[(ofI a).v,(ofI b).v] W fun e w'=>e=.returned (.tuple #[(frR a b).v,.bool true])/\Below W.heap.size W w':=by
 obtain⟨a1,a2,a3,_⟩:=okI_of h0 (show a<=441 by omega);obtain⟨b1,b2,b3,b4⟩:=okI_of (show-8<=b by omega) (show b<=441 by omega);exact xQuo_any (ofI a) (ofI b) W a1 b1 (b4 (by omega)) 9 (by omega) a2 a3 b2 b3
theorem capB_mul:∀s∈[frR 1 1,frR 1 2,frR 5 1],(okR s&&(decide (s.num.size<=9)&&decide (s.den.size<=9)))=true/\∀k:Fin 30,capB s (mulR s (ofI (((k:Nat):Int)+1)))=true:=by decide+kernel
theorem wfrac_any (a b:Int) (w:World) (a0:-8<=a) (a1:a<=420) (b0:1<=b) (b1:b<=10):
  Calls Tryz.prog 45 #[.int .i64 a,.int .i64 b] w fun e w'=>e=.returned (frR a b).v/\Below w.heap.size w w':=by
 have H1:=zH (fun W=>sOf_any a W (by omega) (by omega));have H2:=zH (fun W=>sOf_any b W (by omega) (by omega));have H3:=zH (fun W=>qfr a0 a1 b0 b1 W);clear a0 a1 b0 b1;generalize frR a b=r at*;generalize ofI a=va at*;generalize ofI b=vb at*;obtain⟨W,hW⟩:=zE (w.alloc (.cells #[.bool false,.string ⟨#[]⟩,.string ⟨#[]⟩] 43));have hba:Below w.heap.size w W:=by rw[hW];exact zB _ _
 have hk0:Blk W w.heap.size 43 [.bool false,.string ⟨#[]⟩,.string ⟨#[]⟩]:=by rw[hW];exact Blk.new w _ _
 obtain⟨B,hB⟩:=zE w.heap.size;have HB:=zH hB;rw[<-hB] at hba hk0;go_enter Tryz.func45,Tryz.ntmps45;go_wp2_with fail;simp only[<-hW,<-hB]
 clear hW hB;refine (H1.out _).mono ?_;rintro e w1 ⟨rfl,hb1⟩;have hk1:=hk0.below hb1 hk0.lt;have hB1:=hba.trans (hb1.mono (Nat.le_of_lt hk0.lt));clear hba hb1 hk0;go_wp2_with fail;refine (H2.out _).mono ?_;rintro e w2 ⟨rfl,hb2⟩;have hk2:=hk1.below hb2 hk1.lt;have hB2:=hB1.trans (hb2.mono (Nat.le_of_lt hk1.lt));clear hB1 hb2 hk1;go_wp2_with fail;refine (H3.out _).mono ?_;rintro e w3 ⟨rfl,hb3⟩;have hk3:=hk2.below hb3 hk2.lt;have hB3:=hB2.trans (hb3.mono (Nat.le_of_lt hk2.lt));clear hB2 hb3 hk2;obtain⟨rn,ru,rd⟩:=r;unfold Ra.v
 go_upto_region 2 with fail
 have hy:=(Blk.new w3 43 #[.bool rn,.string ru,.string rd]).cells;have hk4:=hk3.alloc (.cells #[.bool rn,.string ru,.string rd] 43);have hB4:=hB3.alloc (Nat.le_of_lt hk3.lt) (.cells #[.bool rn,.string ru,.string rd] 43);have hne:¬w3.heap.size=B:=by have:=hk3.lt;omega
 have hne':¬B=w3.heap.size:=fun h=>hne h.symm
 generalize w3.alloc (.cells #[.bool rn,.string ru,.string rd] 43)=w4 at*;generalize w3.heap.size=C at*;have hc:=hk4.cells;have hf:=hk4.froz;have HB4:=zH hB4;clear hk3 hB3 hk4 hB4;go_wp2;refine bodyPost_ret (v:=.agg #[.bool rn,.string ru,.string rd]) (by simp[results,Tryz.results45,go_sem,hc]) rfl ⟨rfl,?_⟩;rw[<-HB.out];exact below_at HB4.out (Nat.le_refl _) _ _ _
theorem wratio_any (D u:Nat) (a:Int) (w:World) (hd:DS w D u) (hu:u<=w.heap.size) (ha:a= -8∨a=1):
  Calls Tryz.prog 146 #[.pointer (some ⟨D,0,none⟩),.int .i64 a] w fun e w'=>∃r,e=.returned (Ra.v r)/\fitsR r=true/\(a=1->0<signR r)/\DS w' D u/\Onl D w w':=by
 have a0:-8<=a:=by omega
 have a1:a<=1:=by omega
 obtain⟨W,hW⟩:=zE (w.alloc (.cells #[.bool false,.string ⟨#[]⟩,.string ⟨#[]⟩] 43));have hba:Below w.heap.size w W:=by rw[hW];exact zB _ _
 have hk0:Blk W w.heap.size 43 [.bool false,.string ⟨#[]⟩,.string ⟨#[]⟩]:=by rw[hW];exact Blk.new w _ _
 have hDB:=hd.lt;have hd0:=hd.below hba;have ho0:Onl D w W:=Onl.of_below hba;obtain⟨B,hB⟩:=zE w.heap.size;have HB:=zH hB;rw[<-hB] at hba hk0 hDB hu;have HU:=zH hu;clear hu;have hBD:B≠D:=by omega
 clear hd hba;go_enter Tryz.func146,Tryz.ntmps146;go_wp2_with fail;simp only[<-hW,<-hB]
 clear hW hB;refine (next_any _ D u 40 hd0 (by omega) (by omega)).mono ?_;rintro e w1 ⟨k,hk,rfl,hd1,ho1⟩;have hk1:=ho1.blk hk0 hBD;have ho1:=ho0.trans ho1;have hw:IntKind.i64.wrap (a+(k:Int))=a+(k:Int):=IntWalk.i64_in _ (by omega);have HO:=zH (fun W=>sOf_any (a+(k:Int)) W (by omega) (by omega));have HS:=zH (And.intro (show-8<=a+(k:Int) by omega) (show a+(k:Int)<=40 by omega))
 have HP:Hid (a=1->∀d∈([1,2,10]:List Int),0<signR (frR (a+(k:Int)) d)):=fun h1 d hd=>by
  subst h1;rw[Int.add_comm];exact ratio_pos ⟨k,by omega⟩ d hd
 clear hk0 ho0 hd0 a0 a1 hk;go_wp2_with fail;refine (HO.out _).mono ?_;rintro e w2 ⟨rfl,hb2⟩;have hk2:=hk1.below hb2 hk1.lt;have hd2:=hd1.below hb2;have ho2:=ho1.trans (Onl.of_below hb2);clear hk1 hd1 ho1 hb2 HO hw;generalize a+(k:Int)=n at*;obtain⟨va,hva⟩:=zF (ofI n);simp only[hva]
 go_wp2_with fail;refine (next_any _ D u 4 hd2 (by omega) (by omega)).mono ?_;rintro e w3 ⟨j,hj,rfl,hd3,ho3⟩;have hk3:=ho3.blk hk2 hBD;have ho3:=ho2.trans ho3;clear hk2 hd2 ho2
 obtain⟨c,hc0,hc1,hcm,hcx⟩:∃c:Int,0<c/\c<=10/\Hid (c∈([1,2,10]:List Int))/\Sem.run Tryz.prog (Instr.index 207 (.agg #[.int .i64 1,.int .i64 1,.int .i64 2,.int .i64 10]) (.int .i64 (j:Int))) w3=Result.ok (.int .i64 c) w3:=by
  have:j=0∨j=1∨j=2∨j=3:=by omega
  rcases this with rfl|rfl|rfl|rfl
  ·exact⟨1,by omega,by omega,(by show _∈_;simp),by first|rfl|(simp[go_sem])|kernel_rfl⟩
  ·exact⟨1,by omega,by omega,(by show _∈_;simp),by first|rfl|(simp[go_sem])|kernel_rfl⟩
  ·exact⟨2,by omega,by omega,(by show _∈_;simp),by first|rfl|(simp[go_sem])|kernel_rfl⟩
  ·exact⟨10,by omega,by omega,(by show _∈_;simp),by first|rfl|(simp[go_sem])|kernel_rfl⟩
 have HO:=zH (fun W=>sOf_any c W (by omega) (by omega));have HQ:=zH (fun W=>qfr HS.out.1 (Int.le_trans HS.out.2 (by decide)) (show 1<=c by omega) hc1 W);have HF:=zH (frR_fits HS.out.1 (Int.le_trans HS.out.2 (by decide)) (show 1<=c by omega) hc1);have HG:Hid (a=1->0<signR (frR n c)):=fun h1=>HP.out h1 c hcm.out
 simp only[hva] at HQ;clear hc0 hc1 hj hva hcm HP HS;go_wp2_with fail;clear hcx;generalize frR n c=r at*;generalize ofI c=vb at*;refine (HO.out _).mono ?_;rintro e w4 ⟨rfl,hb4⟩;have hk4:=hk3.below hb4 hk3.lt;have hd4:=hd3.below hb4;have ho4:=ho3.trans (Onl.of_below hb4);clear hk3 hd3 ho3 hb4;go_wp2_with fail;refine (HQ.out _).mono ?_;rintro e w5 ⟨rfl,hb5⟩;have hk5:=hk4.below hb5 hk4.lt;have hd5:=hd4.below hb5;have ho5:=ho4.trans (Onl.of_below hb5);clear hk4 hd4 ho4 hb5;obtain⟨rn,ru,rd⟩:=r;unfold Ra.v
 go_upto_region 3 with fail
 have hy:=(Blk.new w5 43 #[.bool rn,.string ru,.string rd]).cells;have hk6:=hk5.alloc (.cells #[.bool rn,.string ru,.string rd] 43);have hb6:Below w5.heap.size w5 (w5.alloc (.cells #[.bool rn,.string ru,.string rd] 43)):=(Below.refl _ _).alloc (Nat.le_refl _) _;have hd6:=hd5.below hb6;have ho6:=ho5.trans (Onl.of_below hb6);have hne:¬w5.heap.size=B:=by have:=hk5.lt;omega
 have hne':¬B=w5.heap.size:=fun h=>hne h.symm
 generalize w5.alloc (.cells #[.bool rn,.string ru,.string rd] 43)=w6 at*;generalize w5.heap.size=C at*;have hc:=hk6.cells;have hf:=hk6.froz;have HK6:=zH hk6;have HD6:=zH hd6;have HO6:=zH ho6;clear hk5 hd5 ho5 hb6 hk6 hd6 ho6;go_wp2;refine bodyPost_ret (v:=.agg #[.bool rn,.string ru,.string rd]) (by simp[results,Tryz.results146,go_sem,hc]) rfl ⟨⟨rn,ru,rd⟩,rfl,HF.out,HG.out,?_,?_⟩
 ·exact ((HD6.out.set HU.out _ _).set HU.out _ _).set HU.out _ _
 ·exact ((HO6.out.fresh (by rw[<-HB.out];omega) 0 _).fresh (by rw[<-HB.out];omega) 1 _).fresh (by rw[<-HB.out];omega) 2 _
theorem wfr (n d:Int) (w:World) (h0:-8<=n) (h1:n<=40) (h2:1<=d) (h3:d<=10):Calls Tryz.prog 45 #[.int .i64 n,.int .i64 d] w fun e w'=>∃q u v,e=.returned (.agg #[.bool q,.string u,.string v])/\fitsR ⟨q,u,v⟩=true/\Below w.heap.size w w':=
 (wfrac_any n d w h0 (by omega) h2 h3).mono fun _ _ ⟨h,hb⟩=>⟨_,_,_,h,frR_fits h0 (by omega) h2 h3,hb⟩
theorem wcap (s:Ra) (hs:s∈[frR 1 1,frR 1 2,frR 5 1]) (r:Nat) (hr:r<30) (w:World):Calls Tryz.prog 105 #[s.v,(ofI (1+(r:Int))).v] w fun e w'=>∃p,e=.returned (Ra.v p)/\capB s p=true/\Below w.heap.size w w':=by
 obtain⟨h1,h2⟩:=capB_mul s hs;simp only[Bool.and_eq_true,decide_eq_true_eq] at h1;obtain⟨a1,a2,a3,_⟩:=okI_of (show-8<=1+(r:Int) by omega) (by omega);have h3:=h2 ⟨r,hr⟩;rw[Int.add_comm] at h3;exact (xMul_any s _ w h1.1 a1 9 (by omega) h1.2.1 h1.2.2 a2 a3).mono fun _ _ ⟨h,hb⟩=>⟨_,h,h3,hb⟩
theorem brGo_zero (p q:Bk) (l:List Bk):brGo 0 p l=brGo 0 q l:=by cases l<;>rfl
theorem brGo_cons (k:Nat) (p b:Bk) (r:List Bk):brGo k p (b::r)=(brB k p b||brGo (k+1) b r):=rfl
theorem Rd.bk {w:World} {A:Option Addr} {l:List Bk} (h:Rd w A (bks l)) {j:Nat} (hj:j<l.length):
  ∃b off,A=some ⟨b,off,none⟩/\b<w.heap.size/\∀k (hk:k<l.length),w.cell? ⟨b,off+k*6,none⟩=some (.bool l[k].fr.neg)/\w.cell? ⟨b,off+k*6+1,none⟩=some (.string l[k].fr.num)/\w.cell? ⟨b,off+k*6+2,none⟩=some (.string l[k].fr.den)/\
   w.cell? ⟨b,off+k*6+3,none⟩=some (.bool l[k].rt.neg)/\w.cell? ⟨b,off+k*6+4,none⟩=some (.string l[k].rt.num)/\w.cell? ⟨b,off+k*6+5,none⟩=some (.string l[k].rt.den):=by
 obtain⟨b,off,hA,hb,_⟩:=Rd.row Bk.cells 6 (fun _=>rfl) (by omega) h hj;refine⟨b,off,hA,hb,fun k hk=>?_⟩;obtain⟨b',off',hA',hb',hc⟩:=Rd.row Bk.cells 6 (fun _=>rfl) (by omega) h hk;rw[hA] at hA';injection hA' with hA';injection hA' with h1 h2;subst h1 h2;exact⟨hc 0 _ rfl,hc 1 _ rfl,hc 2 _ rfl,hc 3 _ rfl,hc 4 _ rfl,hc 5 _ rfl⟩
theorem unfit_below (w:World):PredBelow Tryz.prog 76 #[] (fun x:{b:Bk // FineB b}=>.agg (Bk.cells x.1).toArray) (fun x=>unfitB x.1) w:=fun W x hW=>by
 refine (rCheck1_any x.1 x.2 W).mono ?_;rintro e w' ⟨rfl,h⟩;exact⟨rfl,bstep hW h⟩
instance instInhabitedFB:Inhabited {b:Bk // FineB b}:=⟨⟨⟨zR,zR⟩,⟨Nat.zero_le _,Nat.zero_le _⟩,Nat.zero_le _,Nat.zero_le _⟩⟩
theorem unfit_at (l:List Bk) (A:Option Addr) (n c:Nat) (w:World) (hn:n=l.length) (hm:n<=maxLen) (h0:0<n) (hr:Rd w A (bks l)) (hf:∀b∈l,FineB b):
  Calls Tryz.prog 75 #[.slice A n c,.func (.func 76) #[] #[]] w fun e w'=>e=.returned (.bool (l.any unfitB))/\Below w.heap.size w w':=by
 obtain⟨b,off,rfl,hb,hc⟩:=Rd.row Bk.cells 6 (fun _=>rfl) (by omega) hr (j:=0) (by omega);have eg:∀args w,(callFunc 76 args).run Tryz.prog w=.ok (.enter 76 args) w:=enters_of Tryz.func76 (by kernel_rfl) rfl
 have h:=AnyQ.slices_ContainsFunc Tryz.conB 6 Tryz.isAgg93 Tryz.sizeOf93 (fun x:{b:Bk // FineB b}=>Bk.cells x.1) (fun _=>rfl) (fun x=>unfitB x.1) 76 #[] eg b off n c (l.attach.map fun x=>⟨x.1,hf x.1 x.2⟩) w
  (unfit_below w) (by rw[List.length_map,List.length_attach];omega) (by unfold maxLen at hm;omega) hb (fun j hj i v hv=>by
    rw[List.length_map,List.length_attach] at hj;obtain⟨b',off',hA',hb',hc'⟩:=Rd.row Bk.cells 6 (fun _=>rfl) (by omega) hr hj;injection hA' with hA';injection hA' with h1 h2;subst h1 h2;refine hc' i v ?_;rw[getElem!_pos _ _ (by rw[List.length_map,List.length_attach];exact hj)] at hv;simpa using hv)
 have e1:((l.attach.map fun x=>(⟨x.1,hf x.1 x.2⟩:{b:Bk // FineB b})).take n).any (fun x=>unfitB x.1)=l.any unfitB:=by
  rw[List.take_of_length_le (by rw[List.length_map,List.length_attach];omega),List.any_map];rw[Bool.eq_iff_iff,List.any_eq_true,List.any_eq_true];constructor
  ·rintro⟨x,_,h⟩;exact⟨x.1,x.2,h⟩
  ·rintro⟨x,hx,h⟩;exact⟨⟨x,hx⟩,List.mem_attach _ _,h⟩
 rw[e1] at h;exact h
theorem rCheck_any (nm:ByteArray) (m d:Int) (l:List Bk) (A:Option Addr) (n c:Nat) (w:World) (hn:n=l.length) (hm:n<=maxLen) (hr:Rd w A (bks l)) (hf:∀b∈l,FineB b):
  Calls Tryz.prog 28 #[.agg #[.string nm,.int .i64 m,.int .i64 d,.slice A n c]] w fun e w'=>e=.returned (.int .i64 (rateE l))/\Below w.heap.size w w':=by
 have HUF:=zH (fun W (hb:Below w.heap.size w W) h0=>unfit_at l A n c W hn hm h0 (hr.below hb) hf);have HR:=zH hr;have HF:=zH hf;have HN:=zH hn;have hm2:n<=9223372036854775807:=by unfold maxLen at hm;omega
 obtain⟨z,hz⟩:=zE (rateE l);rw[<-hz];have HZ:=zH hz;clear hm hr hf hz hn;go_enter Tryz.func28,Tryz.ntmps28
 go_upto_region 1 with fail
 generalize hX:w.alloc _=W;obtain⟨hk,hb0⟩:=zA hX;have hkc:=hk.cells;clear hX hk;by_cases h8:8<n
 ·obtain rfl:z=2:=by rw[HZ.out];unfold rateE;rw[<-HN.out,if_pos h8]
  clear HZ;go_wp2;go_ret;exact⟨rfl,hb0⟩
 by_cases h0:n=0
 ·obtain rfl:z=11:=by rw[HZ.out];unfold rateE;rw[<-HN.out,if_neg h8,if_pos h0]
  clear HZ;subst h0;go_wp2;go_ret;exact⟨rfl,hb0⟩
 have HE:Hid (z=if brGo 0 (l.getD (0-1) ⟨zR,zR⟩) l=true then 11 else if l.any unfitB then 3 else 0):=by show _=_;rw[HZ.out];unfold rateE;rw[<-HN.out,if_neg h8,if_neg h0,brGo_zero]
 clear HZ;have h0b:((n:Int)==0)=false:=by simp[h0]
 go_wp2_with fail
 go_loopg [18] n (fun g iv wr=>∃j:Nat,j+g=n/\iv=.int .i64 j/\Hid (brGo 0 (l.getD (0-1) ⟨zR,zR⟩) l=brGo j (l.getD (j-1) ⟨zR,zR⟩) (l.drop j))/\Hid (∀k (hk:k<l.length),k<j->okR l[k].fr=true)/\Below W.heap.size W wr)
 case atStart=>exact⟨0,by omega,rfl,rfl,(fun k hk h=>absurd h (by omega)),Below.refl _ _⟩
 case round=>
  obtain⟨j,hj,rfl,hgo,hok,hbr⟩:=hrel;have hbw:=bstep hb0 hbr;by_cases hlt:j<n
  ·have hjl:j<l.length:=by rw[<-HN.out];exact hlt
   obtain⟨b,off,rfl,hbb,hcs⟩:=(HR.out.below hbw).bk hjl;have hc:=hcs j hjl;obtain⟨⟨f1,f2⟩,f3,f4⟩:=HF.out l[j] (List.getElem_mem hjl);have HGO:=hgo.out;rw[List.drop_eq_getElem_cons hjl,brGo_cons] at HGO;have HRF:=zH (fun W=>qRight_any l[j].fr W (by omega) (by omega));have HRT:=zH (fun W=>qRight_any l[j].rt W (by omega) (by omega));have HSG:=zH (fun W=>qSign_any l[j].fr W (by omega) (by omega))
   have HCM:Hid (∀W (h:0<j),okR l[j].fr=true->Calls Tryz.prog 74 #[(l[j-1]'(by omega)).fr.v,l[j].fr.v] W fun e w'=>e=.returned (.int .i64 (cmpR (l.getD (j-1) ⟨zR,zR⟩).fr l[j].fr))/\Below W.heap.size W w'):=fun W h ho=>by
    have hj1:j-1<l.length:=by omega
    obtain⟨⟨g1,g2⟩,_⟩:=HF.out l[j-1] (List.getElem_mem hj1);have h1:=qCmp_ok l[j-1].fr l[j].fr W (hok.out _ hj1 (by omega)) ho 1048576 (by omega) g1 g2 f1 f2;have e1:l.getD (j-1) ⟨zR,zR⟩=l[j-1]:=by rw[List.getD_eq_getElem?_getD,List.getElem?_eq_getElem hj1];rfl
    rw[e1];exact h1
   have HOKN:Hid (okR l[j].fr=true->∀k (hk:k<l.length),k<j+1->okR l[k].fr=true):=fun h k hk hkj=>by
    by_cases e:k<j
    ·exact hok.out k hk e
    ·obtain rfl:k=j:=by omega
     exact h
   have hnx:l[j]=l.getD (j+1-1) ⟨zR,zR⟩:=by rw[Nat.add_sub_cancel,List.getD_eq_getElem?_getD,List.getElem?_eq_getElem hjl];rfl
   have HPC:=zH (fun X (hX:Below wr.heap.size wr X) (h:0<j)=>have q:=hcs (j-1) (by omega);And.intro ((hX.cell (p:=⟨b,off+(j-1)*6,none⟩) hbb).trans q.1) (And.intro ((hX.cell (p:=⟨b,off+(j-1)*6+1,none⟩) hbb).trans q.2.1) ((hX.cell (p:=⟨b,off+(j-1)*6+2,none⟩) hbb).trans q.2.2.1)));have HBR:Hid (brB j (l.getD (j-1) ⟨zR,zR⟩) l[j]=(!okR l[j].fr|| !okR l[j].rt||(if j=0 then decide (signR l[j].fr≠0) else decide (0<=cmpR (l.getD (j-1) ⟨zR,zR⟩).fr l[j].fr)))):=rfl;generalize brB j (l.getD (j-1) ⟨zR,zR⟩) l[j]=bx at HGO HBR;generalize cmpR (l.getD (j-1) ⟨zR,zR⟩).fr l[j].fr=cm at HBR HCM;rw[hnx] at HGO;replace HGO:=zH HGO;clear hnx;generalize l[j]=bb at*;obtain⟨⟨an,am,ad⟩,⟨bn,bm,bd⟩⟩:=bb;simp only[Ra.v] at hc HRF HRT HSG HCM HBR HOKN;generalize okR ⟨an,am,ad⟩=okf at*;generalize okR ⟨bn,bm,bd⟩=okr at*;generalize signR ⟨an,am,ad⟩=sg at*;clear hgo hcs f1 f2 f3 f4 hok
   go_upto_region 9 with fail
   generalize hX:wr.alloc _=X;obtain⟨hk5,hb5⟩:=zA hX;clear hX hc;have hkx:=fun Y (hY:Below X.heap.size X Y)=>have q:=(hk5.below hY hk5.lt).cells;And.intro (q 0) (And.intro (q 1) (And.intro (q 2) (And.intro (q 3) (And.intro (q 4) (q 5)))))
   simp only[List.getElem?_cons_zero,List.getElem?_cons_succ] at hkx;have hq:=hkx X (Below.refl _ _);go_wp2_with fail;refine (HRF.out _).mono ?_;rintro e w6 ⟨rfl,hb6⟩;have hq:=hkx w6 hb6;cases okf
   ·obtain rfl:z=11:=by rw[HE.out,HGO.out,HBR.out];rfl
    go_wp2;go_ret;exact⟨rfl,bstep hbw (bstep hb5 hb6)⟩
   go_wp2_with fail;refine (HRT.out _).mono ?_;rintro e w7 ⟨rfl,hb7⟩;cases okr
   ·obtain rfl:z=11:=by rw[HE.out,HGO.out,HBR.out];rfl
    go_wp2;go_ret;exact⟨rfl,bstep hbw (bstep hb5 (bstep hb6 hb7))⟩
   have hb7':=bstep hb6 hb7;clear hb6 hb7 hq HRF HRT
   go_upto_region 11 with fail
   have hbz:=fun Y (hY:Below w7.heap.size w7 Y)=>hkx Y (bstep hb7' hY)
   go_cut [56] from 33 to 56 (fun v Y=>v=.bool bx/\Below w7.heap.size w7 Y)
   case first=>
    by_cases hj0:j=0
    ·have hbx:bx=decide (sg≠0):=by rw[HBR.out,if_pos hj0];rfl
     subst hj0;refine reS (Below w7.heap.size w7) 99 (drewN_below _ _ 1) (fun w8 _ hS=>?_)
     iterate 5 refine reA ?_
     refine reC 5 (HSG.out w8) ?_;rintro e w9 ⟨rfl,hb9⟩;refine⟨_,rfl,bstep hS hb9,fun hS=>?_⟩;by_cases hs0:sg=0
     ·subst hs0;obtain rfl:bx=false:=hbx
      iterate 6 refine reA ?_
      iterate 10 refine reB ?_
      iterate 2 refine reA ?_
      refine reE ?_;go_wp2
      go_meet
      case rel=>exact⟨rfl,hS⟩
     ·obtain rfl:bx=true:=by rw[hbx];exact decide_eq_true hs0
      have hsb:(sg !=0)=true:=bne_iff_ne.2 hs0;clear hbx HBR HSG HCM HPC HGO HOKN HF HR HE HUF hkc
      iterate 3 refine reA ?_
      iterate 14 refine reB ?_
      refine reA ?_;refine reE ?_;go_wp2
      go_meet
      case rel=>exact⟨rfl,hS⟩
    ·have hbx:bx=decide (0<=cm):=by rw[HBR.out,if_neg hj0];rfl
     have hj1:((j:Int)==0)=false:=by simp[hj0]
     have hj2:(0:Int)<(j:Int):=by omega
     have hj3:0<j:=by omega
     have hbp:=fun Y (hY:Below w7.heap.size w7 Y)=>HPC.out Y (bstep hb5 (bstep hb7' hY)) (by omega)
     have HC:=zH (fun W=>HCM.out W (by omega) trivial);have hw1:IntKind.i64.wrap ((j:Int)-1)=((j-1:Nat):Int):=by rw[IntWalk.i64_in _ (by omega)];omega
     have hin:j-1<n:=by omega
     clear HPC HCM;generalize l[j-1]=pb at hbp HC;obtain⟨⟨pn,pm,pd⟩,pr⟩:=pb;simp only at hbp HC;generalize j-1=i at*;have i0:(0:Int)<=(i:Int):=by omega
     have i1:(i:Int)<(n:Int):=by omega
     refine reS (Below w7.heap.size w7) 99 (drewN_below _ _ 1) (fun w8 _ hS=>?_)
     iterate 3 refine reA ?_
     iterate 4 refine reB ?_
     iterate 13 refine reA ?_
     refine reC 20 (HC.out w8) ?_;rintro e w9 ⟨rfl,hb9⟩;refine⟨_,rfl,bstep hS hb9,fun hS=>?_⟩
     iterate 3 refine reA ?_
     refine reE ?_;go_wp2
     go_meet
     case rel=>exact⟨by rw[hbx],hS⟩
   case rest=>
    obtain⟨rfl,hbc⟩:=hcut;have hbx:=bstep hb5 (bstep hb7' hbc);cases bx
    ·go_wp2
     go_roundg (n-(j+1))
     case measure=>omega
     case rel=>exact⟨j+1,by omega,by go_num,HGO,HOKN.out trivial,bstep hbr hbx⟩
    ·obtain rfl:z=11:=by rw[HE.out,HGO.out];rfl
     go_wp2;go_ret;exact⟨rfl,bstep hbw hbx⟩
  ·obtain rfl:j=n:=by omega
   have hU:=HUF.out _ hbw (by omega);have hgo:=hgo.out;rw[HN.out,List.drop_length] at hgo;have hz:z=if l.any unfitB then 3 else 0:=by rw[HE.out,hgo];rfl
   generalize l.any unfitB=an at*;go_wp2_with fail;refine hU.mono ?_;rintro e w6 ⟨rfl,hb6⟩;subst hz;cases an
   all_goals
    go_wp2;go_ret;exact⟨rfl,bstep hbw hb6⟩
structure Hd where
 a:Option Addr
 n:Nat
 c:Nat
structure RowAt {α:Type} (w:World) (enc:α->List Value) (xs:List α) (h:Hd):Prop where
 len:h.n=xs.length
 cap:h.n<=h.c
 max:h.c<=maxLen
 rd:Rd w h.a (xs.flatMap enc)
theorem RowAt.below {α:Type} {w w':World} {enc:α->List Value} {xs:List α} {h:Hd} (k:RowAt w enc xs h) (hb:Below w.heap.size w w'):RowAt w' enc xs h:=⟨k.len,k.cap,k.max,k.rd.below hb⟩
theorem RowAt.nil {α:Type} (w:World) (enc:α->List Value):RowAt w enc ([]:List α) ⟨none,0,0⟩:=⟨rfl,Nat.le_refl _,Nat.zero_le _,.inl rfl⟩
theorem RowAt.of_own {α:Type} {w:World} {enc:α->List Value} {xs:List α} {base m n:Nat} {e:TypeId} {v:Value} (h:w.ownsRow base e m v n (xs.flatMap enc)) (hn:n=xs.length):∃h:Hd,v=.slice h.a h.n h.c/\h.n=n/\RowAt w enc xs h:=by
 obtain⟨A,c,rfl,h1,h2,h3,_⟩:=own_rd h;exact⟨⟨A,n,c⟩,rfl,rfl,hn,h1,h2,h3⟩
structure Dc where
 name:ByteArray
 ty:Ty
deriving DecidableEq
structure Sc where
 name:ByteArray
 money:Int
 days:Int
 brs:List Bk
deriving DecidableEq
structure Pv where
 name:ByteArray
 ty:Ty
 charge:Bool
 step:Ra
 cap:Ra
 body:List Nd
deriving DecidableEq
structure Lw where
 facts:List Dc
 schs:List Sc
 provs:List Pv
deriving DecidableEq
def Dc.cells (d:Dc):List Value:=[.string d.name,.bool d.ty.truth,.int .i64 d.ty.money,.int .i64 d.ty.days]
def scCells (s:Sc × Hd):List Value:=[.string s.1.name,.int .i64 s.1.money,.int .i64 s.1.days,.slice s.2.a s.2.n s.2.c]
def pvCells (p:Pv × Hd):List Value:=[.string p.1.name,.bool p.1.ty.truth,.int .i64 p.1.ty.money,.int .i64 p.1.ty.days,.slice p.2.a p.2.n p.2.c,.bool p.1.charge,
 .bool p.1.step.neg,.string p.1.step.num,.string p.1.step.den,.bool p.1.cap.neg,.string p.1.cap.num,.string p.1.cap.den]
structure LawAt (w:World) (l:Lw) (ss:List (Sc × Hd)) (ps:List (Pv × Hd)) (f s p:Hd):Prop where
 f:RowAt w Dc.cells l.facts f
 s:RowAt w scCells ss s
 p:RowAt w pvCells ps p
 sl:ss.map Prod.fst=l.schs
 pl:ps.map Prod.fst=l.provs
 sb:∀x∈ss,RowAt w Bk.cells x.1.brs x.2
 pb:∀x∈ps,RowAt w Nd.cells x.1.body x.2
theorem LawAt.below {w w':World} {l:Lw} {ss:List (Sc × Hd)} {ps:List (Pv × Hd)} {f s p:Hd} (k:LawAt w l ss ps f s p) (hb:Below w.heap.size w w'):LawAt w' l ss ps f s p:=
 ⟨k.f.below hb,k.s.below hb,k.p.below hb,k.sl,k.pl,fun x hx=>(k.sb x hx).below hb,fun x hx=>(k.pb x hx).below hb⟩
def lawV (f s p:Hd):Value:=.agg #[.slice f.a f.n f.c,.slice s.a s.n s.c,.slice p.a p.n p.c]
structure FineL (l:Lw):Prop where
 fn:l.facts.length<=1000
 sn:l.schs.length<=1000
 pn:l.provs.length<=1000
 sb:∀s∈l.schs,∀b∈s.brs,FineB b
 pb:∀p∈l.provs,FineR p.step/\FineR p.cap/\∀n∈p.body,Fine n
def fSig (d:Dc):Sg:=⟨5,d.name,d.ty⟩
def pSig (op:Int) (p:Pv):Sg:=⟨op,p.name,p.ty⟩
def sSig (s:Sc):Sg:=⟨24,s.name,⟨false,s.money,s.days⟩⟩
def sigsL (l:Lw):List Sg:=l.facts.map fSig++(l.provs.map (pSig 6)++(l.provs.map (pSig 7)++(l.provs.map (pSig 8)++l.schs.map sSig)))
def plainP (p:Pv):Bool:=decide (p.step=zR)&&decide (p.cap=zR)
def cappedP (p:Pv):Bool:= !p.ty.truth&&(fitsR p.step&&(fitsR p.cap&&(decide (0<signR p.step)&&(decide ((quoR p.cap p.step).1.den=(ofI 1).den)&&(decide (0<signR (quoR p.cap p.step).1)&&decide (cmpR (quoR p.cap p.step).1 (ofI 200)<=0))))))
def provE (sg:List Sg) (p:Pv):Int:=if (typeE sg p.body).2≠0 then (typeE sg p.body).2 else if (typeE sg p.body).1≠p.ty then 13 else if (p.charge&&decide (p.ty≠tCash))||(!plainP p&& !cappedP p) then 1 else 0
def typedL (l:Lw):Bool:=l.facts.all (fun d=>rightB d.ty)&&(l.provs.all (fun p=>rightB p.ty)&&l.schs.all (fun s=>unitB s.money s.days))
theorem sgs_append (a b:List Sg):sgs (a++b)=sgs a++sgs b:=List.flatMap_append
theorem info_sig:(Tryz.prog.info? 102).map (fun i=>(i.zero,i.size,i.bytes))=some (some (.agg #[.int .i64 0,.string ⟨#[]⟩,.bool false,.int .i64 0,.int .i64 0]),5,48):=by kernel_rfl
theorem take_map {α β:Type} (f:α->β) {l:List α} {k:Nat} (hk:k<l.length):(l.take (k+1)).map f=(l.take k).map f++[f l[k]]:=by
 rw[List.take_succ_eq_append_getElem hk,List.map_append];rfl
def opsL (l:Lw) (r:Nat):List Sg:=(List.range r).flatMap fun q:Nat=>l.provs.map (pSig (6+(q:Int)))
theorem opsL_succ (l:Lw) (r:Nat):opsL l (r+1)=opsL l r++l.provs.map (pSig (6+(r:Int))):=by
 unfold opsL;rw[List.range_succ,List.flatMap_append];simp
theorem opsL_len (l:Lw) (r:Nat):(opsL l r).length=r*l.provs.length:=by
 induction r with
 |zero=>unfold opsL;simp
 |succ r ih=>rw[opsL_succ,List.length_append,ih,List.length_map,Nat.succ_mul]
theorem sigsL_eq (l:Lw):sigsL l=l.facts.map fSig++opsL l 3++l.schs.map sSig:=by
 unfold sigsL opsL;simp[List.range_succ,List.flatMap_cons]
theorem uSigs_any (l:Lw) (ss:List (Sc × Hd)) (ps:List (Pv × Hd)) (f s p:Hd) (w:World) (h:LawAt w l ss ps f s p) (hf:FineL l):
  Calls Tryz.prog 16 #[lawV f s p] w fun e w'=>∃h:Hd,e=.returned (.slice h.a h.n h.c)/\RowAt w' Sg.cells (sigsL l) h/\Below w.heap.size w w':=by
 have hfn1:=hf.fn;have hsn1:=hf.sn;have hpn1:=hf.pn;obtain⟨fa,fn,fc⟩:=f;obtain⟨sa,sn,sc⟩:=s;obtain⟨pa,pn,pc⟩:=p;unfold lawV;simp only
 obtain⟨W,hW⟩:=zE (w.alloc (.cells #[.slice fa fn fc,.slice sa sn sc,.slice pa pn pc] 28));obtain⟨B,hB⟩:=zE w.heap.size;have HKL:Hid (Blk W B 28 [.slice fa fn fc,.slice sa sn sc,.slice pa pn pc]):=by show Blk _ _ _ _;rw[hW,hB];exact Blk.new w _ _
 have HBA:Hid (Below w.heap.size w W):=by show Below _ _ _;rw[hW];exact zB _ _
 have HLA:=zH (h.below HBA.out);have HFN:Hid (fn=l.facts.length):=h.f.len;have HSN:Hid (sn=l.schs.length):=by show _=_;rw[<-h.sl,List.length_map];exact h.s.len
 have HPN:Hid (pn=l.provs.length):=by show _=_;rw[<-h.pl,List.length_map];exact h.p.len
 rw[<-HFN.out] at hfn1;rw[<-HSN.out] at hsn1;rw[<-HPN.out] at hpn1;have HFX:Hid (∀k (hk:k<l.schs.length) (hk':k<ss.length),l.schs[k]=ss[k].1):=fun k hk hk'=>by have e:=h.sl;simp[<-e]
 have HPX:Hid (∀k (hk:k<l.provs.length) (hk':k<ps.length),l.provs[k]=ps[k].1):=fun k hk hk'=>by have e:=h.pl;simp[<-e]
 clear h hf;have HST:Hid (W.ownsRow W.heap.size 102 5 (.slice none 0 0) (0+0) (sgs [])):=World.ownsRow_nil _ _ _ _;have HBW:Hid (Below W.heap.size W W):=Below.refl _ _;have HBA2:=HBA;have hkc:=HKL.out.cells;go_enter Tryz.func16,Tryz.ntmps16
 go_upto_region 1 with fail
 simp only[<-hW,<-hB]
 clear hW hB;go_wp2_with fail
 go_loopg [2,14] fn (fun g ov iv wr=>∃j:Nat,j+g=fn/\iv=.int .i64 j/\Hid (wr.ownsRow W.heap.size 102 5 ov (0+j) (sgs (([]:List Sg)++(l.facts.take j).map fSig)))/\Hid (Below W.heap.size W wr))
 case atStart=>exact⟨0,by omega,rfl,(by show World.ownsRow _ _ _ _ _ _ _;rw[List.take_zero,List.map_nil,List.append_nil];exact HST.out),HBW⟩
 case round=>
  obtain⟨j,hj,rfl,hown,hbr⟩:=hrel;clear HST HBW;by_cases hlt:j<fn
  ·have hjx:j<l.facts.length:=by rw[<-HFN.out];exact hlt
   have hjm:j<l.facts.length:=by rw[<-HLA.out.f.len];exact hlt
   have htm:=take_map fSig hjx;rw[show l.facts[j]=l.facts[j] from rfl] at htm;obtain⟨b,off,hA,hb,hc⟩:=Rd.row Dc.cells 4 (fun _=>rfl) (by omega) (HLA.out.f.below hbr.out).rd hjm;simp only at hA;subst hA;generalize l.facts[j]=x at*;obtain⟨nm,⟨tt,tm,td⟩⟩:=x;have HTM:=zH htm;have c0:=hc 0 _ rfl;have c1:=hc 1 _ rfl;have c2:=hc 2 _ rfl;have c3:=hc 3 _ rfl;simp only[Nat.add_zero] at c0;obtain⟨K,hK⟩:=zE (0+j);obtain⟨XS,hXS⟩:∃X,X=sgs (([]:List Sg)++(l.facts.take j).map fSig):=⟨_,rfl⟩
   rw[<-hK,<-hXS] at hown;have HXS:=zH hXS;have HK:=zH hK;have hKb:K<=5000:=by omega
   have HOA:Hid ((wr.alloc (.cells #[.string nm,.bool tt,.int .i64 tm,.int .i64 td] 36)).ownsRow W.heap.size 102 5 u2 K XS):=hown.out.alloc _;have HBA:Hid (Below W.heap.size W (wr.alloc (.cells #[.string nm,.bool tt,.int .i64 tm,.int .i64 td] 36))):=hbr.out.alloc hbr.out.size _;clear hown hbr hc htm hK hXS;go_wp2_with (at_builtin;go_must (refine wpList_push (wr.alloc (.cells #[.string nm,.bool tt,.int .i64 tm,.int .i64 td] 36)) #[.int .i64 5,.string nm,.bool tt,.int .i64 tm,.int .i64 td] rfl _ _ 61 rfl W.heap.size 102 _ 5 48 1 Tryz.underlying61 info_sig rfl (by decide) u2 K XS rfl HOA.out (by rw[World.size_alloc];rfl) rfl ?_ ?_ ?_ ?_ ?_))
   any_goals first|(unfold maxLen;omega)|omega
   ·exact⟨rfl,rfl,rfl,rfl,rfl⟩
   ·have hz:=HBA.out.size;rw[World.size_alloc] at hz;exact hz
   intro v' w' hown' hb';have HOWN:Hid (w'.ownsRow W.heap.size 102 5 v' (0+(j+1)) (sgs (([]:List Sg)++(l.facts.take (j+1)).map fSig))):=by show World.ownsRow _ _ _ _ _ _ _;rw[HTM.out,<-List.append_assoc,sgs_append,<-HXS.out,<-Nat.add_assoc,<-HK.out];exact hown'
   have HB:=zH (HBA.out.trans hb');clear hown' hb' c0;go_wp2
   go_roundg (fn-(j+1))
   case measure=>omega
   case rel=>exact⟨j+1,by omega,by go_num,HOWN,HB⟩
  ·have hjn:j=fn:=by omega
   have HST:Hid (wr.ownsRow W.heap.size 102 5 u2 (0+fn) (sgs (([]:List Sg)++l.facts.map fSig))):=by
    have h:=hown.out;rw[hjn] at h;rw[List.take_of_length_le (Nat.le_of_eq HFN.out.symm)] at h;exact h
   have HBW:=hbr;have hkc:=(HKL.out.below hbr.out HKL.out.lt).cells;clear hown hbr hjn;go_wp2_with fail
   go_loopg [2,28] 3 (fun g ov iv wr=>∃r:Nat,r+g=3/\iv=.int .i64 r/\Hid (wr.ownsRow W.heap.size 102 5 ov (fn+r*pn) (sgs (l.facts.map fSig++opsL l r)))/\Hid (Below W.heap.size W wr))
   case atStart=>exact⟨0,by omega,rfl,(by show World.ownsRow _ _ _ _ _ _ _;rw[Nat.zero_mul,Nat.add_zero,show opsL l 0=[] from rfl,List.append_nil,<-Nat.zero_add fn];exact HST.out),HBW⟩
   case round=>
    obtain⟨r,hr,rfl,hown,hbr⟩:=hrel;clear HST HBW;by_cases hlt:r<3
    ·have HST:=hown;have HBW:=hbr;have hkc:=(HKL.out.below hbr.out HKL.out.lt).cells;have hr3:r=0∨r=1∨r=2:=by omega
     clear hown hbr
     go_upto_region 8 with fail
     go_cut [6] from 30 to 30 (fun v wc=>v=.int .i64 (6+(r:Int))/\wc=wr)
     case first=>
      have hix:∀W,(Instr.index 58 (.agg #[.int .i64 6,.int .i64 7,.int .i64 8]) (.int .i64 (r:Int))).run Tryz.prog W=.ok (.int .i64 (6+(r:Int))) W:=fun W=>by rcases hr3 with rfl|rfl|rfl<;>kernel_rfl
      go_wp2
      go_meet
      case rel=>exact⟨rfl,rfl⟩
     case rest=>
      obtain⟨rfl,rfl⟩:=hcut;have hrp:r*pn<=3000:=Nat.mul_le_mul (show r<=3 from by omega) hpn1;clear hr3;have hd3:decide ((r:Int)<3)=true:=decide_eq_true (by omega);simp only[hd3]
      go_wp2_with fail
      go_loopg [2,34] pn (fun g ov iv wr=>∃j:Nat,j+g=pn/\iv=.int .i64 j/\Hid (wr.ownsRow W.heap.size 102 5 ov ((fn+r*pn)+j) (sgs ((l.facts.map fSig++opsL l r)++(l.provs.take j).map (pSig (6+(r:Int))))))/\Hid (Below W.heap.size W wr))
      case atStart=>exact⟨0,by omega,rfl,(by show World.ownsRow _ _ _ _ _ _ _;rw[List.take_zero,List.map_nil,List.append_nil];exact HST.out),HBW⟩
      case round=>
       obtain⟨j,hj,rfl,hown,hbr⟩:=hrel;clear HST HBW;by_cases hlt:j<pn
       ·have hjx:j<l.provs.length:=by rw[<-HPN.out];exact hlt
        have hjm:j<ps.length:=by rw[<-HLA.out.p.len];exact hlt
        have htm:=take_map (pSig (6+(r:Int))) hjx;rw[show l.provs[j]=ps[j].1 from HPX.out j hjx hjm] at htm;obtain⟨b,off,hA,hb,hc⟩:=Rd.row pvCells 12 (fun _=>rfl) (by omega) (HLA.out.p.below hbr.out).rd hjm;simp only at hA;subst hA;generalize ps[j]=x at*;obtain⟨⟨nm,⟨tt,tm,td⟩,ch,⟨sn1,sn2,sn3⟩,⟨cn1,cn2,cn3⟩,bo⟩,⟨ha,hn,hcc⟩⟩:=x;have HTM:=zH htm;have c0:=hc 0 _ rfl;have c1:=hc 1 _ rfl;have c2:=hc 2 _ rfl;have c3:=hc 3 _ rfl;have c4:=hc 4 _ rfl;have c5:=hc 5 _ rfl;have c6:=hc 6 _ rfl;have c7:=hc 7 _ rfl;have c8:=hc 8 _ rfl;have c9:=hc 9 _ rfl;have c10:=hc 10 _ rfl;have c11:=hc 11 _ rfl;simp only[Nat.add_zero] at c0;obtain⟨K,hK⟩:=zE ((fn+r*pn)+j);obtain⟨XS,hXS⟩:∃X,X=sgs ((l.facts.map fSig++opsL l r)++(l.provs.take j).map (pSig (6+(r:Int)))):=⟨_,rfl⟩
        rw[<-hK,<-hXS] at hown;have HXS:=zH hXS;have HK:=zH hK;have hKb:K<=5000:=by omega
        have HOA:Hid ((wr.alloc (.cells #[.string nm,.bool tt,.int .i64 tm,.int .i64 td,.slice ha hn hcc,.bool ch,.bool sn1,.string sn2,.string sn3,.bool cn1,.string cn2,.string cn3] 45)).ownsRow W.heap.size 102 5 u2 K XS):=hown.out.alloc _;have HBA:Hid (Below W.heap.size W (wr.alloc (.cells #[.string nm,.bool tt,.int .i64 tm,.int .i64 td,.slice ha hn hcc,.bool ch,.bool sn1,.string sn2,.string sn3,.bool cn1,.string cn2,.string cn3] 45))):=hbr.out.alloc hbr.out.size _;clear hown hbr hc htm hK hXS;go_wp2_with (at_builtin;go_must (refine wpList_push (wr.alloc (.cells #[.string nm,.bool tt,.int .i64 tm,.int .i64 td,.slice ha hn hcc,.bool ch,.bool sn1,.string sn2,.string sn3,.bool cn1,.string cn2,.string cn3] 45)) #[.int .i64 (6+(r:Int)),.string nm,.bool tt,.int .i64 tm,.int .i64 td] rfl _ _ 61 rfl W.heap.size 102 _ 5 48 1 Tryz.underlying61 info_sig rfl (by decide) u2 K XS rfl HOA.out (by rw[World.size_alloc];rfl) rfl ?_ ?_ ?_ ?_ ?_))
        any_goals first|(unfold maxLen;omega)|omega
        ·exact⟨rfl,rfl,rfl,rfl,rfl⟩
        ·have hz:=HBA.out.size;rw[World.size_alloc] at hz;exact hz
        intro v' w' hown' hb';have HOWN:Hid (w'.ownsRow W.heap.size 102 5 v' ((fn+r*pn)+(j+1)) (sgs ((l.facts.map fSig++opsL l r)++(l.provs.take (j+1)).map (pSig (6+(r:Int)))))):=by show World.ownsRow _ _ _ _ _ _ _;rw[HTM.out,<-List.append_assoc,sgs_append,<-HXS.out,<-Nat.add_assoc,<-HK.out];exact hown'
        have HB:=zH (HBA.out.trans hb');clear hown' hb' c0;go_wp2
        go_roundg (pn-(j+1))
        case measure=>omega
        case rel=>exact⟨j+1,by omega,by go_num,HOWN,HB⟩
       ·have hjn:j=pn:=by omega
        have HST:Hid (wr.ownsRow W.heap.size 102 5 u2 ((fn+r*pn)+pn) (sgs ((l.facts.map fSig++opsL l r)++l.provs.map (pSig (6+(r:Int)))))):=by
         have h:=hown.out;rw[hjn] at h;rw[List.take_of_length_le (Nat.le_of_eq HPN.out.symm)] at h;exact h
        have HBW:=hbr;have hkc:=(HKL.out.below hbr.out HKL.out.lt).cells;clear hown hbr hjn;go_wp2
        go_roundg (3-(r+1))
        case measure=>omega
        case rel=>exact⟨r+1,by omega,by go_num,(by show World.ownsRow _ _ _ _ _ _ _;rw[opsL_succ,<-List.append_assoc,show fn+(r+1)*pn=fn+r*pn+pn from by rw[Nat.succ_mul];omega];exact HST.out),HBW⟩
    ·have hrn:r=3:=by omega
     have HST:Hid (wr.ownsRow W.heap.size 102 5 u2 (fn+3*pn) (sgs (l.facts.map fSig++opsL l 3))):=by have h:=hown.out;rw[hrn] at h;exact h
     have HBW:=hbr;have hkc:=(HKL.out.below hbr.out HKL.out.lt).cells;clear hown hbr hrn;go_wp2_with fail
     go_loopg [2,52] sn (fun g ov iv wr=>∃j:Nat,j+g=sn/\iv=.int .i64 j/\Hid (wr.ownsRow W.heap.size 102 5 ov ((fn+3*pn)+j) (sgs ((l.facts.map fSig++opsL l 3)++(l.schs.take j).map sSig)))/\Hid (Below W.heap.size W wr))
     case atStart=>exact⟨0,by omega,rfl,(by show World.ownsRow _ _ _ _ _ _ _;rw[List.take_zero,List.map_nil,List.append_nil];exact HST.out),HBW⟩
     case round=>
      obtain⟨j,hj,rfl,hown,hbr⟩:=hrel;clear HST HBW;by_cases hlt:j<sn
      ·have hjx:j<l.schs.length:=by rw[<-HSN.out];exact hlt
       have hjm:j<ss.length:=by rw[<-HLA.out.s.len];exact hlt
       have htm:=take_map sSig hjx;rw[show l.schs[j]=ss[j].1 from HFX.out j hjx hjm] at htm;obtain⟨b,off,hA,hb,hc⟩:=Rd.row scCells 4 (fun _=>rfl) (by omega) (HLA.out.s.below hbr.out).rd hjm;simp only at hA;subst hA;generalize ss[j]=x at*;obtain⟨⟨nm,mo,da,br⟩,⟨ha,hn,hcc⟩⟩:=x;have HTM:=zH htm;have c0:=hc 0 _ rfl;have c1:=hc 1 _ rfl;have c2:=hc 2 _ rfl;have c3:=hc 3 _ rfl;simp only[Nat.add_zero] at c0;obtain⟨K,hK⟩:=zE ((fn+3*pn)+j);obtain⟨XS,hXS⟩:∃X,X=sgs ((l.facts.map fSig++opsL l 3)++(l.schs.take j).map sSig):=⟨_,rfl⟩
       rw[<-hK,<-hXS] at hown;have HXS:=zH hXS;have HK:=zH hK;have hKb:K<=5000:=by omega
       have HOA:Hid ((wr.alloc (.cells #[.string nm,.int .i64 mo,.int .i64 da,.slice ha hn hcc] 39)).ownsRow W.heap.size 102 5 u2 K XS):=hown.out.alloc _;have HBA:Hid (Below W.heap.size W (wr.alloc (.cells #[.string nm,.int .i64 mo,.int .i64 da,.slice ha hn hcc] 39))):=hbr.out.alloc hbr.out.size _;clear hown hbr hc htm hK hXS;go_wp2_with (at_builtin;go_must (refine wpList_push (wr.alloc (.cells #[.string nm,.int .i64 mo,.int .i64 da,.slice ha hn hcc] 39)) #[.int .i64 24,.string nm,.bool false,.int .i64 mo,.int .i64 da] rfl _ _ 61 rfl W.heap.size 102 _ 5 48 1 Tryz.underlying61 info_sig rfl (by decide) u2 K XS rfl HOA.out (by rw[World.size_alloc];rfl) rfl ?_ ?_ ?_ ?_ ?_))
       any_goals first|(unfold maxLen;omega)|omega
       ·exact⟨rfl,rfl,rfl,rfl,rfl⟩
       ·have hz:=HBA.out.size;rw[World.size_alloc] at hz;exact hz
       intro v' w' hown' hb';have HOWN:Hid (w'.ownsRow W.heap.size 102 5 v' ((fn+3*pn)+(j+1)) (sgs ((l.facts.map fSig++opsL l 3)++(l.schs.take (j+1)).map sSig))):=by show World.ownsRow _ _ _ _ _ _ _;rw[HTM.out,<-List.append_assoc,sgs_append,<-HXS.out,<-Nat.add_assoc,<-HK.out];exact hown'
       have HB:=zH (HBA.out.trans hb');clear hown' hb' c0;go_wp2
       go_roundg (sn-(j+1))
       case measure=>omega
       case rel=>exact⟨j+1,by omega,by go_num,HOWN,HB⟩
      ·have hjn:j=sn:=by omega
       have HST:Hid (wr.ownsRow W.heap.size 102 5 u2 ((fn+3*pn)+sn) (sgs ((l.facts.map fSig++opsL l 3)++l.schs.map sSig))):=by
        have h:=hown.out;rw[hjn] at h;rw[List.take_of_length_le (Nat.le_of_eq HSN.out.symm)] at h;exact h
       have HBW:=hbr;have hkc:=(HKL.out.below hbr.out HKL.out.lt).cells;clear hown hbr hjn;go_wp2;obtain⟨h,rfl,hn,hrow⟩:=RowAt.of_own (enc:=Sg.cells) HST.out (by rw[List.length_append,List.length_append,List.length_map,List.length_map,opsL_len,HFN.out,HPN.out,HSN.out]);go_ret;refine⟨h,rfl,?_,bstep HBA2.out HBW.out⟩;rw[sigsL_eq];exact hrow
end Go.Proofs.YtimokmplkpbmdaaGreatDoor
