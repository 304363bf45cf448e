/- A part of the proof: Kb Kc U0 Yb Qd W3 U1 U2 U3. -/
import Derived.Test.YtimokmplkpbmdaaGreatDoorQ23
import Derived.Test.YtimokmplkpbmdaaGreatDoorQ28
set_option linter.all false
set_option maxRecDepth 100000
set_option maxHeartbeats 0
namespace Go.Proofs.YtimokmplkpbmdaaGreatDoor
open Go.RowKit
theorem Keeps.dG {B lo:Nat} {w W:World} (h:aF B w W) (hl:B<lo):Keeps lo w W:=⟨h.size,fun b h1 h2=>h.block b h2 (by omega)⟩
theorem aF.more {G:Nat} {a w w':World} (h:aF G a w) (hb:Below a.heap.size w w'):aF G a w':=
 ⟨hb.os.trans h.os,hb.tape.trans h.tape,hb.output.trans h.output,Nat.le_trans h.size hb.size,fun k hk hne=>(hb.block k hk).trans (h.block k hk hne)⟩
theorem aF.grown {G:Nat} {a w:World} (h:aF G a w):a.grownBy w (some G):=⟨h.os,h.tape,h.output,h.size,fun k hk hne=>h.block k hk (fun e=>hne (by rw[e]))⟩
theorem QN:(Tryz.prog.info? 34).map (fun i=>(i.zero,i.size,i.bytes))=some (some (.agg #[.bool false,.int .i64 0,.int .i64 0]),3,24):=by kernel_rfl
theorem He (a b:List Ty):tys (a++b)=tys a++tys b:=List.flatMap_append
theorem Z4 (op:Int):(aB op).ops<=3:=by
 unfold aB;rw[List.getD_eq_getElem?_getD];rcases Nat.lt_or_ge op.toNat iQ.length with h|h
 ·rw[List.getElem?_eq_getElem h];exact (by decide:∀s∈iQ,s.ops<=3) _ (List.getElem_mem h)
 ·rw[List.getElem?_eq_none h];decide
theorem EF (z:Int) (w wx:World) (B:Nat) (tm:Array Value) (v v':Value) (hk0:aj wx B 182 [v]) (hk1:aj wx (B+1) 46 [v']) (hB:B=w.heap.size) (hbe:Below w.heap.size w wx)
  (h4:tm[4]?=some (.pointer (some ⟨B,0,none⟩))) (h5:tm[5]?=some (.pointer (some ⟨B+1,0,none⟩))):
  bodyPostD Tryz.prog Tryz.f119 (uO ([],z) w) (Exit.panic (Ag z)) {tmps:=tm,defers:=[{target:=.fn (.func 158) #[.pointer (some ⟨B,0,none⟩),.pointer (some ⟨B+1,0,none⟩)],args:=#[]}]} wx:=by
 have hc0:wx.cell? ⟨B,0,none⟩=some v:=hk0.cells 0;have hc1:wx.cell? ⟨B+1,0,none⟩=some v':=hk1.cells 0;unfold Ag;refine leaves_cons (f:=158) (args:=#[.pointer (some ⟨B,0,none⟩),.pointer (some ⟨B+1,0,none⟩)]) (by simp) (by simp[go_sem]) ?_;refine (Fp B (B+1) z _ _ [] wx hc0 hc1 (hk0.aI 0) (hk1.aI 0) (by omega) (by omega)).mono ?_;rintro e u' w6 ⟨rfl,rfl,rfl⟩
 have hd0:((wx.setCell ⟨B,0,none⟩ (.slice none 0 0)).setCell ⟨B+1,0,none⟩ (.int .i64 z)).cell? ⟨B,0,none⟩=some (.slice none 0 0):=by
  rw[World.cell?_setCell_other _ _ _ _ (by simp)];exact World.cell?_setCell_same' _ _ _ (by rw[hc0];rfl)
 have hd1:((wx.setCell ⟨B,0,none⟩ (.slice none 0 0)).setCell ⟨B+1,0,none⟩ (.int .i64 z)).cell? ⟨B+1,0,none⟩=some (.int .i64 z):=
  World.cell?_setCell_same' _ _ _ (by rw[World.cell?_setCell_other _ _ _ _ (by simp),hc1];rfl)
 simp[Leaves,settle,results,Tryz.results119,go_sem,hd0,hd1,h4,h5];exact uO.bad ((hbe.setCell (p:=⟨B,0,none⟩) (by show _<=B;omega) _).setCell (p:=⟨B+1,0,none⟩) (by show _<=B+1;omega) _)
theorem Xp (sg:List Sg) (es:List Nd) (A1 A2:Option Addr) (k1 c1 l2 c2:Nat) (w:World) (hL:cZ w) (hk1:k1=sg.length) (hm1:k1<=maxLen) (hr1:Rd w A1 (jf sg)) (h2:Es w es A2 l2 c2) (hf:∀n∈es,Fine n) (hz:bQ es=0):
  Calls Tryz.prog 119 #[.slice A1 k1 c1,.slice A2 l2 c2] w (uO (gJ sg es) w):=by
 have HC:Hid (∀W,Below w.heap.size w W->Calls Tryz.prog 50 #[.slice A2 l2 c2] W fun e w'=>e=.returned (.int .i64 0)/\Below W.heap.size W w'):=fun W hb=>by
  have h:=check_any es A2 l2 c2 W (hL.below hb).e (h2.below hb).len (h2.below hb).cap (h2.below hb).max (h2.below hb).rd hf;rw[hz] at h;exact h
 have HAG:Hid (∀W,Below w.heap.size w W->Calls Tryz.prog 125 #[.slice A2 l2 c2] W (GX true (lG es) W)):=fun W hb=>by
  have h:=ML es A2 l2 c2 W (hL.below hb).e (h2.below hb) hf;rw[hz,if_pos rfl] at h;exact h
 have aik:=zH (fun j hj=>ZC hz j hj);have h60:=(G5 hz).2
 have oI:Hid (∀W nd,Below w.heap.size w W->Calls Tryz.prog 160 #[.slice A1 k1 c1,Nd.v nd] W fun e w'=>QD (dP sg nd) e/\Below W.heap.size W w'):=fun W nd hb=>
  Zx sg A1 k1 c1 nd W (hL.below hb) hk1 hm1 (hr1.below hb)
 have CP:Hid ((lG es).length=es.length):=pz _ _ _;obtain⟨res,hres⟩:∃r,r=gJ sg es:=⟨_,rfl⟩
 have Gm:Hid (nN sg es (lG es) []=res):=by show _=_;rw[hres];unfold gJ;rw[if_pos hz]
 rw[<-hres];have H2:=zH h2;have HL:Hid (∀W,Below w.heap.size w W->cZ W):=fun W hb=>hL.below hb
 have hl2:l2<=60:=by rw[h2.len];exact h60
 generalize lG es=QO at*;clear hL hk1 hm1 hr1 h2 hf hz h60 hres;have hmf:=sO;obtain⟨W,hW⟩:=zE ((w.alloc (.cells #[.slice none 0 0] 182)).alloc (.cells #[.int .i64 0] 46));have lQ:=sU w 182 46 #[.slice none 0 0] #[.int .i64 0];rw[<-hW] at lQ;obtain⟨hk0,hk1,hba,hsz⟩:=lQ;clear hsz;obtain⟨B,hB⟩:=zE w.heap.size;rw[<-hB] at hk0 hk1;have HB:=zH hB;have jF:=zH hk0;have iF:=zH hk1;have aY:=zH hba;clear hk0 hk1 hba
 go_enter_defers Tryz.func119,Tryz.ntmps119
 go_wp2_with fail;simp only[<-hW,<-hB]
 clear hW hB;refine (HC.out W aY.out).mono ?_;rintro e w5 ⟨rfl,hb5⟩;replace jF:=zH (jF.out.below hb5 jF.out.lt);replace iF:=zH (iF.out.below hb5 iF.out.lt);replace aY:=zH (ah aY.out hb5);clear hb5 HC;go_wp2_with fail;refine (HAG.out w5 aY.out).mono ?_;rintro e w6 ⟨A6,n6,c6,rfl,hag,hb6,aeE,cs6,aeF,aeG⟩;have jo:Hid (B+1<w5.heap.size):=iF.out.lt;replace jF:=zH (jF.out.below hb6 jF.out.lt);replace iF:=zH (iF.out.below hb6 iF.out.lt);replace aY:=zH (ah aY.out hb6);have HN6:=zH hag.len;have rG:=zH aeE;have xJ:=zH aeF;have GY:=zH aeG;have HS6:Hid (w5.heap.size<=w6.heap.size):=hb6.size;clear hag hb6 aeE aeF aeG HAG;go_wp2_with fail;refine (Ud w6 (HL.out _ aY.out)).mono ?_;rintro e w7 ⟨⟨rb,rfl,hru⟩,hb7⟩;replace jF:=zH (jF.out.below hb7 jF.out.lt);replace iF:=zH (iF.out.below hb7 iF.out.lt);replace aY:=zH (ah aY.out hb7);have HRU:=zH hru;have J3:Hid (aF B w6 w7):=aF.of_below hb7;clear hru hb7;go_wp2
 go_loopg [32] l2 (fun g iv wr=>∃(j:Nat) (ts:List Ty) (v:Value),j+g=l2/\iv=.int .i64 j/\ts.length=j/\Hid (nN sg (es.drop j) (QO.drop j) ts=res)/\Hid (∀t∈ts,bH t=true)/\
  Hid (aj wr B 182 [v])/\Hid (aj wr (B+1) 46 [.int .i64 0])/\Hid (wr.ownsRow w7.heap.size 34 3 v j (tys ts))/\Hid (aF B w7 wr)/\Hid (Below w.heap.size w wr))
 case atStart=>exact⟨0,[],.slice none 0 0,by omega,rfl,rfl,Gm.out,(fun t h=>by cases h),jF,iF,World.ownsRow_nil _ _ _ _,aF.refl _ _,aY⟩
 case round=>
  obtain⟨j,ts,v,hj,rfl,htl,hty,hrt,hk0,hk1,hown,hon,hbr⟩:=hrel;clear jF iF aY Gm;by_cases hlt:j<l2
  ·have hje:j<es.length:=by rw[<-H2.out.len];exact hlt
   obtain⟨row,hrow,hrl,hrx,hwn⟩:=aik.out j hje;have hdE:=List.drop_eq_getElem_cons hje
   have hdA:QO.drop j=row::QO.drop (j+1):=by
    have hja:j<QO.length:=by rw[CP.out];exact hje
    rw[List.drop_eq_getElem_cons hja];rw[List.getElem?_eq_getElem hja] at hrow;injection hrow with hrow;rw[hrow]
   have Z5:=hty.out;rw[hdE,hdA] at Z5;obtain⟨hop1,hop2⟩:=ZE hwn;obtain⟨b,off,hA,hb,hc0,hc1,hc2,hc3,hc4⟩:=(H2.out.rd.below hbr.out).nd hje;subst hA;generalize es[j]=nd at*;obtain⟨op,⟨neg,num,den⟩,nm⟩:=nd;simp only at hc0 hc1 hc2 hc3 hc4 hop1 hop2 hrl;obtain⟨p,rfl⟩:∃p:Nat,op=p:=⟨op.toNat,by omega⟩
   have mG:=zH Z5;have HRX:=zH hrx;have HRL:=zH hrl;obtain⟨vr,xU,hrow1⟩:=(GY.out.step (X':=fun _=>False) (J3.out.trans hon.out).grown (fun g h=>by injection h with h;subst h;have:=jo.out;show _<_;omega) (fun g h=>h.elim)).row j row hrow;clear hdE hdA Z5 hty hwn hrx hrl;obtain⟨hlo,hrb,hrk⟩:=HRU.out.keeps (Keeps.dG hon.out (by have:=jo.out;have:=HS6.out;omega));obtain⟨f,hq0,hq1,hrv⟩:=hrk p (by omega) (by omega);rw[Nat.mul_comm] at hq0 hq1;have lQ:=sU wr 49 34 #[.int .i64 (p:Int),.bool neg,.string num,.string den,.string nm] #[.bool false,.int .i64 0,.int .i64 0];obtain⟨WB,hWB⟩:=zE ((wr.alloc (.cells #[.int .i64 (p:Int),.bool neg,.string num,.string den,.string nm] 49)).alloc (.cells #[.bool false,.int .i64 0,.int .i64 0] 34));obtain⟨N,hN⟩:=zE wr.heap.size;rw[<-hWB,<-hN] at lQ;obtain⟨hn0,hn1,hnb,hsz⟩:=lQ;rw[hN] at hnb;have MG:=zH hq0;have rU:=zH hq1;have HRV:=zH hrv;have EG:=zH hrb;have ED:=zH hn0;have BH:=zH hn1;have NR:=zH hnb;have Bd:=zH hN;clear hsz hlo hrk hq0 hq1 hrv hrb hn0 hn1 hnb
   go_upto_region 12 with fail
   simp only[<-hWB,<-hN]
   clear hWB hN hc0 hc1 hc2 hc3 hc4;have hn0:=ED.out.cells;have hq0:=(NR.out.cell EG.out).trans MG.out;obtain⟨sb,hsb⟩:=zF (jL (p:Int));rw[hsb] at hq0;have ny:=zH hsb;clear hsb
   go_upto_if 42 with fail
   clear hn0 hq0
   go_cut [42] from 42 to 45 (fun qv wc=>∃own:Ty,Hid (o8 sg ⟨(p:Int),⟨neg,num,den⟩,nm⟩=some own)/\Hid (aj wc N 49 [.int .i64 (p:Int),.bool neg,.string num,.string den,.string nm])/\Hid (aj wc (N+1) 34 own.cells)/\Hid (Below wr.heap.size wr wc))
   case first=>
    have hn0:=ED.out.cells;cases sb
    ·go_wp2
     go_meet
     case rel=>exact⟨bV,(by show _=_;unfold o8;rw[if_neg (by rw[ny.out];simp)]),ED,BH,NR⟩
    ·go_wp2_with fail;refine (oI.out _ ⟨(p:Int),⟨neg,num,den⟩,nm⟩ (ah hbr.out NR.out)).mono ?_;rintro e w9 ⟨hsp,gW⟩;obtain⟨q,hq⟩:=zF (dP sg ⟨(p:Int),⟨neg,num,den⟩,nm⟩);rw[hq] at hsp;have hot:o8 sg ⟨(p:Int),⟨neg,num,den⟩,nm⟩=q:=by unfold o8;rw[if_pos ny.out,hq]
     cases q with
     |none=>
      obtain rfl:e=.panicked (Ag 12):=hsp;obtain rfl:res=([],12):=by rw[<-mG.out,JR hot]
      have hk0':=hk0.out.below (ah NR.out gW) hk0.out.lt;have zV:=hk1.out.below (ah NR.out gW) hk1.out.lt;have lV:Hid (Below w.heap.size w w9):=ah hbr.out (ah NR.out gW);clear gW hq hot hn0;go_wp2;exact EF 12 w w9 B _ _ _ hk0' zV HB.out lV.out rfl rfl
     |some t=>
      obtain rfl:e=.returned t.v:=hsp;obtain⟨tt,tm,td⟩:=t;have hn1':=BH.out.below gW BH.out.lt;have akU:=hn1'.cells;have akV:=hn1'.aI;have ail:=zH (ED.out.below gW ED.out.lt);have ain:=zH hn1';have J4:=zH (ah NR.out gW);have Xq:=zH hot;clear gW hn1' hq hot hn0;unfold Ty.v;go_wp2
      go_meet
      case rel=>
       refine⟨⟨tt,tm,td⟩,Xq,?_,?_,?_⟩
       ·exact ((ail.out.other (by show N≠N+1;omega) _).other (by show N≠N+1;omega) _).other (by show N≠N+1;omega) _
       ·exact ((ain.out.set 0 _).set 1 _).set 2 _
       ·exact gY (B:=N+1) J4.out (by have:=Bd.out;omega) _ _ _
   case rest=>
    obtain⟨own,hot,hm0,hm1,hbc⟩:=hcut;have hor:=zH (Ue hot.out);obtain⟨Ar,cr,rfl,hr1,hr2,hrd,_⟩:=hrow1;obtain⟨b6,o6,hA6,hb6,hc6⟩:=xJ.out.at_ (k:=j) (by rw[GY.out.len,CP.out];exact hje);replace hc6:=hc6 j (by rw[GY.out.len,CP.out];exact hje)
    have hv6:cs6[j]'(by rw[GY.out.len,CP.out];exact hje)=.slice Ar row.length cr:=by
     rw[List.getElem?_eq_getElem (by rw[GY.out.len,CP.out];exact hje)] at xU;injection xU
    rw[hv6] at hc6;have aeJ:b6≠B:=by have h1:=rG.out _ hA6;have h2:=jo.out;show b6≠B;have h3:w5.heap.size<=b6:=h1;omega
    have akW:wc.cell? ⟨b6,o6+j,none⟩=some (.slice Ar row.length cr):=by
     rw[hbc.out.cell (Nat.lt_of_lt_of_le hb6 (J3.out.trans hon.out).size),World.cell?_of_block ((J3.out.trans hon.out).block b6 hb6 aeJ)];exact hc6
    subst hA6;have hjn:j<n6:=by rw[HN6.out,CP.out];exact hje
    have BZ:=hm0;have lH:=hm1;have jg:=hbc;have Xq:=hot;have jF:Hid (aj wc B 182 [v]):=hk0.out.below hbc.out hk0.out.lt;have iF:Hid (aj wc (B+1) 46 [.int .i64 0]):=hk1.out.below hbc.out hk1.out.lt;have HOW:Hid (wc.ownsRow w7.heap.size 34 3 v j (tys ts)):=own_below hown.out hbc.out;have HRW:Hid (Rd wc Ar (I row)):=hrd.below hbc.out;have hrow3:row.length<=3:=by rw[HRL.out];exact Z4 _
    clear hot hm0 hm1 hbc hrd hv6 hc6 xU hb6 aeJ hk0 hk1 hown hrow;go_wp2
    go_loopg [13,51] row.length (fun g lv iv wq=>∃i:Nat,i+g=row.length/\iv=.int .i64 i/\Hid (wq.ownsRow wc.heap.size 34 3 lv i (tys (rowT ts (row.take i))))/\Hid (Below wc.heap.size wc wq))
    case atStart=>exact⟨0,by omega,rfl,World.ownsRow_nil _ _ _ _,Below.refl _ _⟩
    case round=>
     obtain⟨i,hi,rfl,hol,hbq⟩:=hrel;by_cases hil:i<row.length
     ·have hxj:row[i]<j:=HRX.out _ (List.getElem_mem hil);obtain⟨br,orr,rfl,aio,hcr⟩:=HRW.out.i hil;have hgd:row.getD i 0=row[i]:=by rw[List.getD_eq_getElem?_getD,List.getElem?_eq_getElem hil];rfl
      rw[hgd] at hcr;obtain⟨Av,cv,rfl,hv1,hv2,xU,hvl⟩:=bY HOW.out;have hxt:row[i]<ts.length:=by rw[htl];exact hxj
      obtain⟨bv,ov,rfl,hbv,hx0,hx1,hx2⟩:=xU.ty hxt
      have HST:Hid (tys (rowT ts (row.take (i+1)))=tys (rowT ts (row.take i))++Ty.cells ts[row[i]]):=by
       show _=_;rw[List.take_succ_eq_append_getElem hil];unfold rowT;rw[List.map_append,He];congr 1;show Ty.cells (ts.getD row[i] bV)++[]=_;rw[List.append_nil,List.getD_eq_getElem?_getD,List.getElem?_eq_getElem hxt];rfl
      generalize ts[row[i]]=tx at*;obtain⟨tt,tm,td⟩:=tx;generalize row[i]=x at*;have aeK:wr.cell? ⟨B,0,none⟩=some (.slice (some ⟨bv,ov,none⟩) j cv):=(hbq.out.cell jF.out.lt).trans (jF.out.cells 0);have akX:=(hbq.out.cell aio).trans hcr;have hx0':=(hbq.out.cell hbv).trans hx0;have aip:=(hbq.out.cell hbv).trans hx1;have aiq:=(hbq.out.cell hbv).trans hx2;simp only at hx0' aip aiq;clear hx0 hx1 hx2 hcr xU hvl hxt hgd;go_wp2_with (at_builtin;go_must (refine bP wr #[.bool tt,.int .i64 tm,.int .i64 td] rfl _ _ 182 rfl wc.heap.size 34 _ 3 24 1 Tryz.underlying182 QN rfl (by decide) u13 i (tys (rowT ts (row.take i))) rfl hol.out rfl rfl ?_ ?_ ?_ ?_ ?_))
      any_goals first|(unfold maxLen;omega)|omega
      ·exact⟨rfl,rfl,rfl⟩
      ·exact hbq.out.size
      intro v' w' hown' hb';have TS:Hid (w'.ownsRow wc.heap.size 34 3 v' (i+1) (tys (rowT ts (row.take (i+1))))):=by show World.ownsRow _ _ _ _ _ _ _;rw[HST.out];exact hown'
      have Ju:=zH (hbq.out.trans hb');clear hown' hb';go_wp2
      go_roundg (row.length-(i+1))
      case measure=>omega
      case rel=>exact⟨i+1,by omega,by go_num,TS,Ju⟩
     ·have hie:i=row.length:=by omega
      have Z7:=hol.out;rw[hie,List.take_length] at Z7;clear hol;have air:=zH (ah hbr.out (ah jg.out hbq.out));obtain⟨g,lb,rfl,heg,hcall⟩:=HRV.out.keeps (Keeps.of (ah jg.out hbq.out) _);obtain⟨Al,cl,rfl,hl1,ais,hlr,_⟩:=bY Z7
      have NT:=zH (fun W hb=>hcall own (rowT ts row) Al row.length cl W (Keeps.of hb _) (HL.out _ (ah air.out hb)) (by unfold rowT;rw[List.length_map]) hl1 (Nat.le_trans hl1 ais) (hlr.below hb)
       (fun t ht=>by unfold rowT at ht;obtain⟨k,_,rfl⟩:=List.mem_map.1 ht;exact vO hrt.out k) (by unfold rowT;rw[List.length_map];exact HRL.out))
      obtain⟨rt,Z8⟩:=zE ((fH (p:Int) own (rowT ts row)).1);obtain⟨ok,hok⟩:=zE ((fH (p:Int) own (rowT ts row)).2);rw[<-Z8,<-hok] at NT;have oD:=zH Z8;have jw:=zH hok;obtain⟨ra,rm,rd'⟩:=rt;obtain⟨oa,om,od⟩:=own;have hq1:=((ah jg.out hbq.out).cell EG.out).trans rU.out;have hn0:wr.cell? ⟨N,0,none⟩=some (.int .i64 (p:Int)):=(hbq.out.cell BZ.out.lt).trans (BZ.out.cells 0);have ho0:wr.cell? ⟨N+1,0,none⟩=some (.bool oa):=(hbq.out.cell lH.out.lt).trans (lH.out.cells 0);have ho1:wr.cell? ⟨N+1,1,none⟩=some (.int .i64 om):=(hbq.out.cell lH.out.lt).trans (lH.out.cells 1);have ho2:wr.cell? ⟨N+1,2,none⟩=some (.int .i64 od):=(hbq.out.cell lH.out.lt).trans (lH.out.cells 2);have abI:Hid (∀W,Below wr.heap.size wr W->Calls Tryz.prog g (#[.agg #[.bool oa,.int .i64 om,.int .i64 od],.slice Al row.length cl]++lb) W fun e w'=>e=.returned (.tuple #[.agg #[.bool ra,.int .i64 rm,.int .i64 rd'],.bool ok])/\Below W.heap.size W w'):=NT.out
      have lI:Hid (∀W,Below wr.heap.size wr W->Below wr.heap.size wr W/\W.cell? ⟨N,0,none⟩=some (.int .i64 (p:Int))/\W.cell? ⟨rb,p*2+1,none⟩=some (.func (.func g) #[] lb)/\W.cell? ⟨N+1,0,none⟩=some (.bool oa)/\W.cell? ⟨N+1,1,none⟩=some (.int .i64 om)/\W.cell? ⟨N+1,2,none⟩=some (.int .i64 od)):=fun W hb=>
       ⟨hb,(hb.cell (Nat.lt_of_lt_of_le BZ.out.lt hbq.out.size)).trans hn0,(hb.cell (Nat.lt_of_lt_of_le EG.out (ah jg.out hbq.out).size)).trans hq1,(hb.cell (Nat.lt_of_lt_of_le lH.out.lt hbq.out.size)).trans ho0,(hb.cell (Nat.lt_of_lt_of_le lH.out.lt hbq.out.size)).trans ho1,(hb.cell (Nat.lt_of_lt_of_le lH.out.lt hbq.out.size)).trans ho2⟩
      clear Z8 hok hcall NT hlr hn0 hq1 ho0 ho1 ho2;have akY:(p:Int)<25:=by omega
      go_upto_region 19 with fail
      go_cut [16,17] from 33 to 74 (fun pv okv wy=>∃b9:Nat,pv=.pointer (some ⟨b9,0,none⟩)/\okv=.bool ok/\Hid (aj wy b9 34 [.bool ra,.int .i64 rm,.int .i64 rd'])/\Hid (Below wr.heap.size wr wy))
      case first=>
       refine wp_region_noPanic ?_;refine wp_region_held_drew (S:=(fun w'=>Below wr.heap.size wr w'/\w'.cell? ⟨N,0,none⟩=some (.int .i64 (p:Int))/\w'.cell? ⟨rb,p*2+1,none⟩=some (.func (.func g) #[] lb)/\w'.cell? ⟨N+1,0,none⟩=some (.bool oa)/\w'.cell? ⟨N+1,1,none⟩=some (.int .i64 om)/\w'.cell? ⟨N+1,2,none⟩=some (.int .i64 od))) (by kernel_rfl) (lI.out _ (ak wr.heap.size wr 1)) (fun hHeld=>?_);refine aP 0 ?_;refine aP 1 ?_;refine aP 2 ?_;refine aP 3 ?_;refine aP 4 ?_;refine aP 5 ?_;refine aP 6 ?_;refine aP 7 ?_;refine RJ 8 12 (fun K hK=>?_) fun K hK=>?_
       ·skip
        go_simp;have hbS:=hHeld.1;refine (abI.out _ hbS).mono ?_;rintro e w10 ⟨rfl,jO⟩;have qI:=zH (ah hbS jO);go_wp2_with fail;refine gI hK (lI.out _ (qI.out)) fun hHeld=>?_
        clear hK K;refine aP 9 ?_;refine aP 10 ?_;refine aP 11 ?_;refine iV 12 fun K hK=>?_
        go_simp;go_wp2_with fail;refine gI hK (lI.out _ (ah qI.out (zB _ _))) fun hHeld=>?_
        clear hK K;refine iV 13 fun K hK=>?_
        go_simp;go_wp2_with fail;refine gI hK (lI.out _ (ah qI.out (zB _ _))) fun hHeld=>?_
        clear hK K;refine aP 14 ?_;refine wpAnyH_done (by kernel_rfl) ?_ _;refine NoPanic.normal ?_;go_wp2
        go_meet
        case rel=>exact⟨_,rfl,rfl,aj.new _ _ _,ah qI.out (zB _ _)⟩
       ·skip
        go_simp;go_wp2_with fail;refine gI hK (lI.out _ (below_drewN (zB _ _) 1)) fun hHeld=>?_
        clear hK K;refine iV 8 fun K hK=>?_
        go_simp;have hbS:=hHeld.1;refine (abI.out _ hbS).mono ?_;rintro e w10 ⟨rfl,jO⟩;have qI:=zH (ah hbS jO);have HBM:=zH (((aj.new wr 34 #[.bool false,.int .i64 0,.int .i64 0]).drewN 1).below jO ((aj.new wr _ _).drewN 1).lt);have hcm:=HBM.out.cells;have hfm:=HBM.out.aI;go_wp2_with fail;refine gI hK (lI.out _ qI.out) fun hHeld=>?_
        clear hK K;refine aP 9 ?_;refine aP 10 ?_;refine aP 11 ?_;refine iV 13 fun K hK=>?_
        go_simp;go_wp2_with fail;refine gI hK (lI.out _ (gY (B:=wr.heap.size) qI.out (Nat.le_refl _) _ _ _)) fun hHeld=>?_
        clear hK K;refine aP 14 ?_;refine wpAnyH_done (by kernel_rfl) ?_ _;refine NoPanic.normal ?_;go_wp2
        go_meet
        case rel=>exact⟨_,rfl,rfl,((HBM.out.set 0 _).set 1 _).set 2 _,gY (B:=wr.heap.size) qI.out (Nat.le_refl _) _ _ _⟩
      case rest=>
       obtain⟨b9,rfl,rfl,hk9,hby⟩:=hcut;have HBY:=zH (ah jg.out (ah hbq.out hby.out));have Uw:=jF.out.below (ah hbq.out hby.out) jF.out.lt;have Z9:=iF.out.below (ah hbq.out hby.out) iF.out.lt;have HRO:=Xq;cases ok
       ·obtain rfl:res=([],13):=by rw[<-mG.out,MX Xq.out jw.out.symm]
        have lV:=zH (ah hbr.out HBY.out);clear hby hk9;go_wp2;exact EF 13 w wc B _ _ _ Uw Z9 HB.out lV.out rfl rfl
       ·have ait:Hid (nN sg (es.drop (j+1)) (QO.drop (j+1)) (ts++[⟨ra,rm,rd'⟩])=res):=by
         show _=_;rw[<-mG.out,JQ Xq.out jw.out.symm,<-oD.out]
        have HRR:Hid (bH ⟨ra,rm,rd'⟩=true):=by
         show _=_;rw[oD.out];exact Pz _ _ _ hor.out (fun t ht=>by unfold rowT at ht;obtain⟨k,_,rfl⟩:=List.mem_map.1 ht;exact vO hrt.out k) jw.out.symm
        have aiu:Hid (wc.ownsRow w7.heap.size 34 3 v j (tys ts)):=own_below HOW.out (ah hbq.out hby.out);have aiv:=hk9.out.cells;have aeK:wc.cell? ⟨B,0,none⟩=some v:=Uw.cells 0;have HD:Hid (B+1<w7.heap.size):=by have h1:=jo.out;have h2:=HS6.out;have h3:=J3.out.size;show _<_;omega
        have HSY:Hid (w7.heap.size<=wc.heap.size):=Nat.le_trans hon.out.size HBY.out.size;have aiw:=zH Uw;have aix:=zH Z9;clear Uw Z9 hby hk9 Z7;go_wp2_with (at_builtin;go_must (refine bP wc #[.bool ra,.int .i64 rm,.int .i64 rd'] rfl _ _ 182 rfl w7.heap.size 34 _ 3 24 1 Tryz.underlying182 QN rfl (by decide) v j (tys ts) rfl aiu.out rfl rfl ?_ ?_ ?_ ?_ ?_))
        any_goals first|(unfold maxLen;omega)|omega
        ·exact⟨rfl,rfl,rfl⟩
        ·exact HSY.out
        intro v' w' hown' hb';obtain⟨Av',cv',rfl,_⟩:=bY hown';have hk0':aj w' B 182 [v]:=aiw.out.of_block (hb'.block B (by have:=HD.out;omega));have zV:aj w' (B+1) 46 [.int .i64 0]:=aix.out.of_block (hb'.block (B+1) HD.out);have akB:w'.cell? ⟨B,0,none⟩=some v:=hk0'.cells 0;have akC:=hk0'.aI;have NQ:=zH hk0';have Ut:=zH zV;have wY:=zH hb';have HOWN':=zH hown';clear hk0' zV hb' hown' aeK aiv;go_wp2
        go_roundg (l2-(j+1))
        case measure=>omega
        case rel=>
         have hgs:=oC w' B 0 (.slice Av' (j+1) cv');refine⟨j+1,ts++[⟨ra,rm,rd'⟩],.slice Av' (j+1) cv',by omega,by go_num,by rw[List.length_append,htl];rfl,ait,?_,NQ.out.set 0 _,Ut.out.other (by show B+1≠B;omega) _,?_,?_,?_⟩
         ·intro t ht;rcases List.mem_append.1 ht with ht|ht
          ·exact hrt.out t ht
          ·rw[List.mem_singleton.1 ht];exact HRR.out
         ·show World.ownsRow _ _ _ _ _ _ _;rw[He];refine HOWN'.out.kept hgs ?_;cases hv:(Value.slice Av' (j+1) cv').ownBlock with
          |none=>exact .inl rfl
          |some g=>exact .inr (fun h=>by have h1:=(HOWN'.out.lt g hv).1;have h2:g=B:=Option.some.inj h;have:=HD.out;omega)
         ·exact (((hon.out.more (HBY.out.mono hon.out.size)).more (wY.out)).set 0 _)
         ·exact (((ah hbr.out HBY.out).trans (wY.out.mono (by have h1:=HB.out;have:=HD.out;omega))).setCell (p:=⟨B,0,none⟩) (by show _<=B;have h1:=HB.out;omega) _)
  ·obtain rfl:j=l2:=by omega
   have hres:res=(ts,0):=by
    rw[<-hty.out,H2.out.len,List.drop_length];cases QO.drop es.length<;>rfl
   subst hres;obtain⟨Av,cv,rfl,hv1,hv2,xU,hvl⟩:=bY hown.out;have hc0:wr.cell? ⟨B,0,none⟩=some (.slice Av j cv):=hk0.out.cells 0;have hc1:wr.cell? ⟨B+1,0,none⟩=some (.int .i64 0):=hk1.out.cells 0;have hf0:=hk0.out.aI;have hf1:=hk1.out.aI
   have Bd:Hid (∀ad,Av=some ad->w7.heap.size<=ad.block):=by
    obtain⟨A',c',hv,_,_,_,h4⟩:=yP hown.out;injection hv with e1 e2 e3;show ∀ad,_->_;rw[e1];exact h4
   have HD:Hid (B+1<w7.heap.size):=by have h1:=jo.out;have h2:=HS6.out;have h3:=J3.out.size;show _<_;omega
   have bC:Hid (∀u u',Below w.heap.size w ((wr.setCell ⟨B,0,none⟩ u).setCell ⟨B+1,0,none⟩ u')):=fun u u'=>
    (hbr.out.setCell (p:=⟨B,0,none⟩) (by show _<=B;have:=HB.out;omega) u).setCell (p:=⟨B+1,0,none⟩) (by show _<=B+1;have:=HB.out;omega) u'
   have Xr:=zH xU;clear xU hvl hown hty hbr hk0 hk1;go_wp2;refine leaves_cons (f:=158) (args:=#[.pointer (some ⟨B,0,none⟩),.pointer (some ⟨B+1,0,none⟩)]) (by simp) (by simp[go_sem]) ?_;refine (PD B (B+1) _).mono ?_;rintro e u' w7 ⟨rfl,rfl,rfl⟩
   have hd0:((wr.setCell ⟨B,0,none⟩ (.slice Av j cv)).setCell ⟨B+1,0,none⟩ (.int .i64 0)).cell? ⟨B,0,none⟩=some (.slice Av j cv):=by
    rw[World.cell?_setCell_other _ _ _ _ (by simp)];exact World.cell?_setCell_same' _ _ _ (by rw[hc0];rfl)
   have hd1:((wr.setCell ⟨B,0,none⟩ (.slice Av j cv)).setCell ⟨B+1,0,none⟩ (.int .i64 0)).cell? ⟨B+1,0,none⟩=some (.int .i64 0):=
    World.cell?_setCell_same' _ _ _ (by rw[World.cell?_setCell_other _ _ _ _ (by simp),hc1];rfl)
   simp[Leaves,settle,results,Tryz.results119,go_sem,hd0,hd1];refine⟨Av,j,cv,rfl,htl.symm,hv1,hv2,?_,bC.out _ _⟩;exact Aj (Aj Xr.out ⟨B,0,none⟩ _ (fun ad h=>by have h1:=Bd.out ad h;have:=HD.out;show ad.block≠B;omega)) ⟨B+1,0,none⟩ _ (fun ad h=>by have h1:=Bd.out ad h;have:=HD.out;show ad.block≠B+1;omega)
theorem Ux (sg:List Sg) (es:List Nd) (A1 A2:Option Addr) (k1 c1 l2 c2:Nat) (w:World) (hL:cZ w) (hk1:k1=sg.length) (hm1:k1<=maxLen) (hr1:Rd w A1 (jf sg)) (h2:Es w es A2 l2 c2) (hf:∀n∈es,Fine n):
  Calls Tryz.prog 119 #[.slice A1 k1 c1,.slice A2 l2 c2] w (uO (gJ sg es) w):=by
 by_cases hz:bQ es=0
 ·exact Xp sg es A1 A2 k1 c1 l2 c2 w hL hk1 hm1 hr1 h2 hf hz
 ·exact Nh sg es A1 A2 k1 c1 l2 c2 w hL h2 hf hz
theorem Uy {sg:List Sg} {es:List Nd} (h:(gJ sg es).2=0):0<(gJ sg es).1.length:=by
 by_cases hz:bQ es=0
 ·unfold gJ at h⊢;rw[if_pos hz] at h⊢;rw[Na es (lG es) [] (pz _ _ _) h];have:=(G5 hz).1;simp;omega
 ·unfold gJ at h;rw[if_neg hz] at h;exact absurd h hz
theorem Xt (sg:List Sg) (es:List Nd) (A1 A2:Option Addr) (k1 c1 l2 c2:Nat) (w:World) (hL:cZ w) (hk1:k1=sg.length) (hm1:k1<=maxLen) (hr1:Rd w A1 (jf sg)) (h2:Es w es A2 l2 c2) (hf:∀n∈es,Fine n):
  Calls Tryz.prog 78 #[.slice A1 k1 c1,.slice A2 l2 c2] w fun e w'=>e=.returned (.tuple #[(iU sg es).1.v,.int .i64 (iU sg es).2])/\Below w.heap.size w w':=by
 have HT:=zH (fun W hb=>Ux sg es A1 A2 k1 c1 l2 c2 W (hL.below hb) hk1 hm1 (hr1.below hb) (h2.below hb) hf);have HP:=zH (Uy (sg:=sg) (es:=es));have HE:Hid (iU sg es=(let r:=gJ sg es;if r.2=0 then (r.1.getD (r.1.length-1) bV,0) else (bV,r.2))):=rfl;have Gl:Hid ((gJ sg es).2=0->iU sg es=((gJ sg es).1.getD ((gJ sg es).1.length-1) bV,0)):=fun h=>by rw[HE.out];simp only;rw[if_pos h]
 have jr:Hid ((gJ sg es).2≠0->iU sg es=(bV,(gJ sg es).2)):=fun h=>by rw[HE.out];simp only;rw[if_neg h]
 generalize iU sg es=R at*;generalize gJ sg es=r at*;obtain⟨ts,z⟩:=r;clear HE hL hk1 hm1 hr1 h2 hf;obtain⟨W,hW⟩:=zE (w.alloc (.cells #[.bool false,.int .i64 0,.int .i64 0] 34));obtain⟨B,hB⟩:=zE w.heap.size;have hk0:aj W B 34 [.bool false,.int .i64 0,.int .i64 0]:=by rw[hW,hB];exact aj.new w _ _
 have hba:Below w.heap.size w W:=by rw[hW];exact zB _ _
 have HB:=zH hB;have jF:=zH hk0;have aY:=zH hba;clear hk0 hba;go_enter Tryz.func78,Tryz.ntmps78;go_wp2_with fail;simp only[<-hW,<-hB]
 clear hW hB;refine (HT.out W aY.out).mono ?_;rintro e w5 ⟨A,n,c,rfl,hn,hnc,hcm,hrd,hb5⟩;have hk0:=jF.out.below hb5 jF.out.lt;have hkc:=hk0.cells;have pq:=hk0.aI;have bC:=zH (ah aY.out hb5);replace hn:n=ts.length:=hn;replace hrd:Rd w5 A (tys ts):=hrd;simp only
 have aeM:Hid (∀u0 u1 u2,Below w.heap.size w (((w5.setCell ⟨B,0,none⟩ u0).setCell ⟨B,1,none⟩ u1).setCell ⟨B,2,none⟩ u2)):=fun u0 u1 u2=>gY (B:=B) bC.out (by have:=HB.out;omega) _ _ _
 clear hb5 hk0;by_cases hz:z=0
 ·subst hz;have hp:0<ts.length:=HP.out rfl;have hlast:n-1<ts.length:=by omega
  obtain⟨b,off,hA,hbb,hx0,hx1,hx2⟩:=hrd.ty hlast;subst hA;have lU:Hid (ts.getD (ts.length-1) bV=ts[n-1]):=by show _=_;rw[<-hn,List.getD_eq_getElem?_getD,List.getElem?_eq_getElem hlast];rfl
  generalize ts[n-1]=tx at hx0 hx1 hx2 lU;obtain rfl:R=(tx,0):=by rw[<-lU.out];exact Gl.out rfl
  clear Gl jr lU;obtain⟨tt,tm,td⟩:=tx;simp only at hx0 hx1 hx2;have hw1:IntKind.i64.wrap ((n:Int)-1)=((n-1:Nat):Int):=by rw[IntWalk.i64_in _ (by unfold maxLen at hcm;omega)];omega
  have hn1:n-1<n:=by omega
  generalize n-1=m at*;have HN:=zH hn;clear hrd hp hlast hn hcm;go_wp2;refine bodyPost_ret (v:=.tuple #[.agg #[.bool tt,.int .i64 tm,.int .i64 td],.int .i64 0]) (by simp[results,Tryz.results78,go_sem,hkc]) rfl ⟨rfl,?_⟩;exact aeM.out _ _ _
 ·have hzb:(z !=0)=true:=by simp[hz]
  have hzc:(z==0)=false:=by simp[hz]
  obtain rfl:R=(bV,z):=jr.out hz;have HN:=zH hn;clear hz hn hrd;go_wp2;refine bodyPost_ret (v:=.tuple #[.agg #[.bool false,.int .i64 0,.int .i64 0],.int .i64 z]) (by simp[results,Tryz.results78,go_sem,hkc]) rfl ⟨rfl,?_⟩;exact aeM.out _ _ _
structure Bk where
 fr:Ra
 rt:Ra
deriving DecidableEq
def Bk.cells (b:Bk):List Value:=[.bool b.fr.neg,.string b.fr.num,.string b.fr.den,.bool b.rt.neg,.string b.rt.num,.string b.rt.den]
def bks (l:List Bk):List Value:=l.flatMap Bk.cells
def jH (a:Ra):Prop:=a.num.size<=1048576/\a.den.size<=1048576
def rH (b:Bk):Prop:=jH b.fr/\jH b.rt
def QS (k:Nat) (p b:Bk):Bool:= !okR b.fr|| !okR b.rt||(if k=0 then decide (eH b.fr≠0) else decide (0<=sJ p.fr b.fr))
def wZ:Nat->Bk->List Bk->Bool
 |_,_,[]=>false
 |k,p,b::r=>QS k p b||wZ (k+1) b r
def jT (b:Bk):Bool:= !aV b.fr|| !aV b.rt
def iH (l:List Bk):Int:=if 8<l.length then 2 else if l.length=0 then 11 else if wZ 0 ⟨zR,zR⟩ l then 11 else if l.any jT then 3 else 0
theorem PV (b:Bk) (hf:rH b) (w:World):Calls Tryz.prog 76 #[.agg (Bk.cells b).toArray] w fun e w'=>e=.returned (.bool (jT b))/\Below w.heap.size w w':=by
 obtain⟨⟨h1,h2⟩,h3,h4⟩:=hf;have HA:=zH (fun W=>uJ b.fr W (by omega) (by omega));have HB:=zH (fun W=>uJ b.rt W (by omega) (by omega));have HU:Hid (jT b=(!aV b.fr|| !aV b.rt)):=rfl;obtain⟨⟨an,am,ad⟩,⟨bn,bm,bd⟩⟩:=b;unfold Bk.cells;simp only[Ra.v] at HA HB HU⊢;generalize aV ⟨an,am,ad⟩=fa at*;generalize aV ⟨bn,bm,bd⟩=fb at*;rw[HU.out];clear HU h1 h2 h3 h4;obtain⟨W,hW⟩:=zE (w.alloc (.cells #[.bool an,.string am,.string ad,.bool bn,.string bm,.string bd] 93));obtain⟨B,hB⟩:=zE w.heap.size;have hk0:aj W B 93 [.bool an,.string am,.string ad,.bool bn,.string bm,.string bd]:=by rw[hW,hB];exact aj.new w _ _
 have hba:Below w.heap.size w W:=by rw[hW];exact zB _ _
 have jF:=zH hk0;have aY:=zH hba;have hkc:=hk0.cells;clear hk0 hba;cases fa
 ·go_enter Tryz.func76,Tryz.ntmps76;go_wp2_with fail;simp only[<-hW,<-hB]
  clear hW hB;go_wp2_with fail;refine (HA.out W).mono ?_;rintro e w5 ⟨rfl,hb5⟩;have lV:=zH (ah aY.out hb5);clear hb5;go_wp2;go_ret;exact⟨rfl,lV.out⟩
 ·go_enter Tryz.func76,Tryz.ntmps76;go_wp2_with fail;simp only[<-hW,<-hB]
  clear hW hB;go_wp2_with fail;refine (HA.out W).mono ?_;rintro e w5 ⟨rfl,hb5⟩;have lV:=zH (ah aY.out hb5);have hk5:=(jF.out.below hb5 jF.out.lt).cells;clear hb5;go_wp2_with fail;refine (HB.out _).mono ?_;rintro e w6 ⟨rfl,hb6⟩;have HBF:=zH (ah lV.out hb6);clear hb6;go_wp2;go_ret;exact⟨by simp,HBF.out⟩
def okB (b:Bk):Bool:=okR b.fr&&okR b.rt
theorem aac:∀(l:List Bk) (k:Nat) (p:Bk),wZ k p l=true↔∃i,∃h:i<l.length,QS (k+i) ((p::l)[i]'(by simp;omega)) l[i]=true:=by
 intro l
 induction l with
 |nil=>intro k p;constructor
       ·intro h;cases h
       ·rintro⟨i,h,_⟩;cases h
 |cons b r ih=>
  intro k p;rw[wZ,Bool.or_eq_true,ih];constructor
  ·rintro (h|⟨i,h,h2⟩)
   ·exact⟨0,by simp,h⟩
   ·exact⟨i+1,by simp;omega,by rw[show k+(i+1)=k+1+i by omega];exact h2⟩
  ·rintro⟨i,h,h2⟩;cases i with
   |zero=>exact .inl h2
   |succ i=>exact .inr ⟨i,by simpa using h,by rw[show k+1+i=k+(i+1) by omega];exact h2⟩
theorem aad {l:List Bk} (h8:l.length<=8) (h0:0<l.length) (h1:∀b∈l,okB b=true) (h2:eH l[0].fr=0) (h3:∀i,∀h:i+1<l.length,sJ l[i].fr l[i+1].fr<0):iH l=if l.any jT then 3 else 0:=by
 unfold iH;rw[if_neg (by omega),if_neg (by omega),if_neg];rw[aac];rintro⟨i,hi,h⟩;have ho:=h1 _ (List.getElem_mem hi);unfold okB at ho;rw[Bool.and_eq_true] at ho;unfold QS at h;rw[ho.1,ho.2] at h;cases i with
 |zero=>simp[h2] at h
 |succ i=>
  have:=h3 i hi;simp only[Bool.not_true,Bool.false_or,List.getElem_cons_succ] at h;rw[if_neg (by omega),decide_eq_true_eq] at h;omega
theorem aeO {n m:Nat} (h:n<m):sJ (aS (n:Int)) (aS (m:Int))<0:=by
 have e:yT (aS (m:Int))=⟨true,aC m,aC 1⟩:=by
  rw[Qw];unfold yT;simp only[Bool.not_false,Bool.true_and,Ra.mk.injEq,and_true,decide_eq_true_eq]
  intro h;have:=(zU m).1 h;omega
 unfold sJ;rw[e,Qw];unfold wM;rw[if_neg (by simp)];simp only[bJ,Nat.mul_one]
 split
 ·omega
 ·rw[Wj,if_neg (by omega)];simp
theorem QT {a:Ra} (h:aV a=true):okR a=true:=by
 unfold aV at h;rw[Bool.and_eq_true,Bool.and_eq_true] at h;exact h.1.1
theorem QU:∀k:Fin 302,aV (aS ((k:Nat):Int))=true:=by decide+kernel
structure EH (l:List Bk):Prop where
 f:∃fs:List Nat,l.map Bk.fr=fs.map (fun (n:Nat)=>aS (n:Int))/\(∃r,fs=0::r)/\fs.Pairwise (·<·)/\∀n∈fs,n<=301
 r:∀b∈l,aV b.rt=true
 n:l.length<=8
theorem EH.rate {l:List Bk} (h:EH l):iH l=0:=by
 obtain⟨fs,h1,⟨r,rfl⟩,h3,h4⟩:=h.f;have hl:l.length=(0::r).length:=by have:=congrArg List.length h1;simpa using this
 have hat:∀i (hi:i<l.length),l[i].fr=aS (((0::r)[i]'(by rw[<-hl];exact hi):Nat):Int):=fun i hi=>by
  have:=congrArg (fun x=>x[i]?) h1;simp only[List.getElem?_map,List.getElem?_eq_getElem hi,List.getElem?_eq_getElem (show i<(0::r).length by rw[<-hl];exact hi),Option.map_some] at this;exact Option.some.inj this
 have hf:∀b∈l,aV b.fr=true:=fun b hb=>by
  obtain⟨i,hi,rfl⟩:=List.getElem_of_mem hb;rw[hat i hi];have:=h4 _ (List.getElem_mem (show i<(0::r).length by rw[<-hl];exact hi));exact QU ⟨_,by omega⟩
 have h0:0<l.length:=by rw[hl];simp
 rw[aad h.n h0 (fun b hb=>by unfold okB;rw[QT (hf b hb),QT (h.r b hb)];rfl) (by rw[hat 0 h0];show eH (aS ((0:Nat):Int))=0;decide+kernel) (fun i hi=>by
  rw[hat i (by omega),hat (i+1) hi];exact aeO (List.pairwise_iff_getElem.1 h3 i (i+1) (by rw[<-hl];omega) (by rw[<-hl];exact hi) (by omega)))]
 rw[if_neg];simp only[List.any_eq_true,not_exists,not_and]
 intro b hb;unfold jT;rw[hf b hb,h.r b hb];decide
theorem Xu:∀k:Fin 40,∀d∈[1,2,10],0<eH (iR (aS (((k:Nat):Int)+1)) (aS d)).1:=by decide+kernel
def Ak (s c:Ra):Bool:=aV s&&(aV c&&(decide (0<eH s)&&(decide ((iR c s).1.den=(aS 1).den)&&(decide (0<eH (iR c s).1)&&decide (sJ (iR c s).1 (aS 200)<=0)))))
theorem Xv:∀k:Fin 100,Ak (iR (aS 1) (aS 2)).1 (aS (((k:Nat):Int)+1))=true:=by decide+kernel
def mulR (a b:Ra):Ra:=low (a.neg !=b.neg) (ay a.num*ay b.num) (ay a.den*ay b.den)
theorem aae (a b:Ra) (w:World) (ha:okR a=true) (hb:okR b=true) (S:Nat) (hS:S<=1048577) (h1:a.num.size<=S) (h2:a.den.size<=S) (h3:b.num.size<=S) (h4:b.den.size<=S):
  Calls Tryz.prog 105 #[a.v,b.v] w fun e w'=>e=.returned (mulR a b).v/\Below w.heap.size w w':=by
 obtain⟨p1,p2,p3,p4⟩:=jc ha;obtain⟨q1,q2,q3,q4⟩:=jc hb;have jr:=zH (fun W=>vK a W (by omega) (by omega));have jX:=zH (fun W=>vK b W (by omega) (by omega));rw[oV ha] at jr;rw[oV hb] at jX;have e:mulR a b=low (a.neg !=b.neg) (ay a.num*ay b.num) (ay a.den*ay b.den):=rfl;have HL:=zH (fun W=>En (a.neg !=b.neg) _ _ (S+S) W (by omega) (fA (dA a.num S h1) (dA b.num S h3)) (fA (dA a.den S h2) (dA b.den S h4)) (Nat.mul_pos p2 q2));rw[<-e,show (a.neg !=b.neg)= !(a.neg==b.neg) from rfl] at HL;have lH:=zH (fun W=>zO a.num b.num W (by omega) (by omega));have rW:=zH (fun W=>zO a.den b.den W (by omega) (by omega));generalize mulR a b=r at*;generalize aC (ay a.num*ay b.num)=M1 at*;generalize aC (ay a.den*ay b.den)=M2 at*;clear ha hb h1 h2 h3 h4 hS p1 p2 p3 p4 q1 q2 q3 q4 e;obtain⟨an,au,ad⟩:=a;obtain⟨bn,bu,bd⟩:=b;obtain⟨rn,ru,rd⟩:=r;unfold Ra.v at jr jX HL⊢;simp only at jr jX lH rW HL⊢;go_enter Tryz.func105,Tryz.ntmps105
 go_upto_region 1 with fail
 generalize hX:World.alloc (World.alloc (World.alloc w _) _) _=X;have h:=R3.new (a:=⟨an,au,ad⟩) (b:=⟨bn,bu,bd⟩) hX;clear hX;have hc:=h.all _ h;go_wp2_with fail;refine (jr.out _).mono ?_;rintro e w1 ⟨rfl,hb1⟩;clear hc;have hc:=h.all _ (h.grow hb1)
 go_upto_region 2 with fail
 generalize hX:World.setCell (World.setCell (World.setCell _ _ _) _ _) _ _=X1;replace h:=h.va hb1 ⟨an,au,ad⟩ hX;clear hX hc hb1;have hc:=h.all _ h;go_wp2_with fail;refine (jX.out _).mono ?_;rintro e w2 ⟨rfl,hb2⟩;clear hc;have hc:=h.all _ (h.grow hb2)
 go_upto_region 3 with fail
 generalize hX:World.setCell (World.setCell (World.setCell _ _ _) _ _) _ _=X2;replace h:=h.vb hb2 ⟨bn,bu,bd⟩ hX;clear hX hc hb2;have hc:=h.ab;refine dN (fun X=>∃r,R3 w w.heap.size ⟨an,au,ad⟩ ⟨bn,bu,bd⟩ r X) 99 ⟨_,h.grow (ak _ _ 1)⟩ (fun w6 h6 hS=>?_)
 iterate 9 refine aW ?_
 refine aG 10 ?_;refine aG 11 ?_;refine aG 12 ?_;refine aG 13 ?_;refine cO 9 (lH.out _) ?_;rintro e w7 ⟨rfl,hb⟩;refine⟨_,rfl,hS.imp (fun _ h=>h.grow hb),fun hS=>?_⟩;refine cO 14 (rW.out _) ?_;rintro e w8 ⟨rfl,hb⟩;refine⟨_,rfl,hS.imp (fun _ h=>h.grow hb),fun hS=>?_⟩;refine cO 15 (HL.out _) ?_;rintro e w9 ⟨rfl,hb⟩;refine⟨_,rfl,hS.imp (fun _ h=>h.grow hb),fun hS=>?_⟩;obtain⟨_,h⟩:=hS;have Wi:=h.all _ h;have hS:=h.vr (Below.refl _ _) ⟨rn,ru,rd⟩ rfl;refine iL 16 (fun _=>⟨_,hS⟩) (fun _=>?_);refine dH ?_;clear hc hS Wi;go_wp2;generalize hX:World.setCell (World.setCell (World.setCell _ _ _) _ _) _ _=X3;replace h:=h.vr (Below.refl _ _) ⟨rn,ru,rd⟩ hX;have hc:=h.all _ h;exact bodyPost_ret (v:=Ra.v ⟨rn,ru,rd⟩) (by simp[results,Tryz.results105,go_sem,hc,Ra.v]) rfl ⟨rfl,h.o⟩
theorem okI:∀k:Fin 450,(okR (aS (((k:Nat):Int)-8))&&(decide ((aS (((k:Nat):Int)-8)).num.size<=9)&&(decide ((aS (((k:Nat):Int)-8)).den.size<=9)&&(decide ((k:Nat)=8)||decide ((aS (((k:Nat):Int)-8)).num≠⟨#[]⟩)))))=true:=by decide+kernel
theorem NU {a:Int} (h0:-8<=a) (h1:a<=441):okR (aS a)=true/\(aS a).num.size<=9/\(aS a).den.size<=9/\(a≠0->(aS a).num≠⟨#[]⟩):=by
 obtain⟨k,rfl⟩:∃k:Nat,a=(k:Int)-8:=⟨(a+8).toNat,by omega⟩
 have h:=okI ⟨k,by omega⟩;simp only[Bool.and_eq_true,Bool.or_eq_true,decide_eq_true_eq] at h;exact⟨h.1,h.2.1,h.2.2.1,fun h9=>h.2.2.2.resolve_left (by omega)⟩
def iw (a b:Int):Ra:=(iR (aS a) (aS b)).1
theorem frF:∀k:Fin 430,∀d:Fin 10,aV (iw (((k:Nat):Int)-8) (((d:Nat):Int)+1))=true:=by decide+kernel
theorem sW {a b:Int} (h0:-8<=a) (h1:a<=420) (h2:1<=b) (h3:b<=10):aV (iw a b)=true:=by
 obtain⟨k,rfl⟩:∃k:Nat,a=(k:Int)-8:=⟨(a+8).toNat,by omega⟩
 obtain⟨d,rfl⟩:∃d:Nat,b=(d:Int)+1:=⟨(b-1).toNat,by omega⟩
 exact frF ⟨k,by omega⟩ ⟨d,by omega⟩
theorem qfr {a b:Int} (h0:-8<=a) (h1:a<=420) (h2:1<=b) (h3:b<=10) (W:World):Calls Tryz.prog 96 #[(aS a).v,(aS b).v] W fun e w'=>e=.returned (.tuple #[(iw a b).v,.bool true])/\Below W.heap.size W w':=by
 obtain⟨a1,a2,a3,_⟩:=NU h0 (show a<=441 by omega);obtain⟨b1,b2,b3,b4⟩:=NU (show-8<=b by omega) (show b<=441 by omega);exact Zh (aS a) (aS b) W a1 b1 (b4 (by omega)) 9 (by omega) a2 a3 b2 b3
theorem aaf:∀s∈[iw 1 1,iw 1 2,iw 5 1],(okR s&&(decide (s.num.size<=9)&&decide (s.den.size<=9)))=true/\∀k:Fin 30,Ak s (mulR s (aS (((k:Nat):Int)+1)))=true:=by decide+kernel
theorem lJ (a b:Int) (w:World) (a0:-8<=a) (a1:a<=420) (b0:1<=b) (b1:b<=10):
  Calls Tryz.prog 45 #[.int .i64 a,.int .i64 b] w fun e w'=>e=.returned (iw a b).v/\Below w.heap.size w w':=by
 have H1:=zH (fun W=>lZ a W (by omega) (by omega));have H2:=zH (fun W=>lZ b W (by omega) (by omega));have H3:=zH (fun W=>qfr a0 a1 b0 b1 W);clear a0 a1 b0 b1;generalize iw a b=r at*;generalize aS a=va at*;generalize aS b=vb at*;obtain⟨W,hW⟩:=zE (w.alloc (.cells #[.bool false,.string ⟨#[]⟩,.string ⟨#[]⟩] 43));have hba:Below w.heap.size w W:=by rw[hW];exact zB _ _
 have hk0:aj W w.heap.size 43 [.bool false,.string ⟨#[]⟩,.string ⟨#[]⟩]:=by rw[hW];exact aj.new w _ _
 obtain⟨B,hB⟩:=zE w.heap.size;have HB:=zH hB;rw[<-hB] at hba hk0;go_enter Tryz.func45,Tryz.ntmps45;go_wp2_with fail;simp only[<-hW,<-hB]
 clear hW hB;refine (H1.out _).mono ?_;rintro e w1 ⟨rfl,hb1⟩;have hk1:=hk0.below hb1 hk0.lt;have hB1:=hba.trans (hb1.mono (Nat.le_of_lt hk0.lt));clear hba hb1 hk0;go_wp2_with fail;refine (H2.out _).mono ?_;rintro e w2 ⟨rfl,hb2⟩;have hk2:=hk1.below hb2 hk1.lt;have hB2:=hB1.trans (hb2.mono (Nat.le_of_lt hk1.lt));clear hB1 hb2 hk1;go_wp2_with fail;refine (H3.out _).mono ?_;rintro e w3 ⟨rfl,hb3⟩;have hk3:=hk2.below hb3 hk2.lt;have hB3:=hB2.trans (hb3.mono (Nat.le_of_lt hk2.lt));clear hB2 hb3 hk2;obtain⟨rn,ru,rd⟩:=r;unfold Ra.v
 go_upto_region 2 with fail
 have hy:=(aj.new w3 43 #[.bool rn,.string ru,.string rd]).cells;have hk4:=hk3.alloc (.cells #[.bool rn,.string ru,.string rd] 43);have hB4:=hB3.alloc (Nat.le_of_lt hk3.lt) (.cells #[.bool rn,.string ru,.string rd] 43);have hne:¬w3.heap.size=B:=by have:=hk3.lt;omega
 have hne':¬B=w3.heap.size:=fun h=>hne h.symm
 generalize w3.alloc (.cells #[.bool rn,.string ru,.string rd] 43)=w4 at*;generalize w3.heap.size=C at*;have hc:=hk4.cells;have hf:=hk4.aI;have HB4:=zH hB4;clear hk3 hB3 hk4 hB4;go_wp2;refine bodyPost_ret (v:=.agg #[.bool rn,.string ru,.string rd]) (by simp[results,Tryz.results45,go_sem,hc]) rfl ⟨rfl,?_⟩;rw[<-HB.out];exact Fa HB4.out (Nat.le_refl _) _ _ _
theorem Hf (D u:Nat) (a:Int) (w:World) (hd:DS w D u) (hu:u<=w.heap.size) (ha:a= -8∨a=1):
  Calls Tryz.prog 146 #[.pointer (some ⟨D,0,none⟩),.int .i64 a] w fun e w'=>∃r,e=.returned (Ra.v r)/\aV r=true/\(a=1->0<eH r)/\DS w' D u/\aF D w w':=by
 have a0:-8<=a:=by omega
 have a1:a<=1:=by omega
 obtain⟨W,hW⟩:=zE (w.alloc (.cells #[.bool false,.string ⟨#[]⟩,.string ⟨#[]⟩] 43));have hba:Below w.heap.size w W:=by rw[hW];exact zB _ _
 have hk0:aj W w.heap.size 43 [.bool false,.string ⟨#[]⟩,.string ⟨#[]⟩]:=by rw[hW];exact aj.new w _ _
 have hDB:=hd.lt;have hd0:=hd.below hba;have ho0:aF D w W:=aF.of_below hba;obtain⟨B,hB⟩:=zE w.heap.size;have HB:=zH hB;rw[<-hB] at hba hk0 hDB hu;have HU:=zH hu;clear hu;have Hg:B≠D:=by omega
 clear hd hba;go_enter Tryz.func146,Tryz.ntmps146;go_wp2_with fail;simp only[<-hW,<-hB]
 clear hW hB;refine (next_any _ D u 40 hd0 (by omega) (by omega)).mono ?_;rintro e w1 ⟨k,hk,rfl,hd1,ho1⟩;have hk1:=ho1.blk hk0 Hg;have ho1:=ho0.trans ho1;have hw:IntKind.i64.wrap (a+(k:Int))=a+(k:Int):=IntWalk.i64_in _ (by omega);have HO:=zH (fun W=>lZ (a+(k:Int)) W (by omega) (by omega));have HS:=zH (And.intro (show-8<=a+(k:Int) by omega) (show a+(k:Int)<=40 by omega))
 have HP:Hid (a=1->∀d∈([1,2,10]:List Int),0<eH (iw (a+(k:Int)) d)):=fun h1 d hd=>by
  subst h1;rw[Int.add_comm];exact Xu ⟨k,by omega⟩ d hd
 clear hk0 ho0 hd0 a0 a1 hk;go_wp2_with fail;refine (HO.out _).mono ?_;rintro e w2 ⟨rfl,hb2⟩;have hk2:=hk1.below hb2 hk1.lt;have hd2:=hd1.below hb2;have ho2:=ho1.trans (aF.of_below hb2);clear hk1 hd1 ho1 hb2 HO hw;generalize a+(k:Int)=n at*;obtain⟨va,hva⟩:=zF (aS n);simp only[hva]
 go_wp2_with fail;refine (next_any _ D u 4 hd2 (by omega) (by omega)).mono ?_;rintro e w3 ⟨j,hj,rfl,hd3,ho3⟩;have hk3:=ho3.blk hk2 Hg;have ho3:=ho2.trans ho3;clear hk2 hd2 ho2
 obtain⟨c,hc0,hc1,hcm,hcx⟩:∃c:Int,0<c/\c<=10/\Hid (c∈([1,2,10]:List Int))/\Sem.run Tryz.prog (Instr.index 207 (.agg #[.int .i64 1,.int .i64 1,.int .i64 2,.int .i64 10]) (.int .i64 (j:Int))) w3=Result.ok (.int .i64 c) w3:=by
  have:j=0∨j=1∨j=2∨j=3:=by omega
  rcases this with rfl|rfl|rfl|rfl
  ·exact⟨1,by omega,by omega,(by show _∈_;simp),by first|rfl|(simp[go_sem])|kernel_rfl⟩
  ·exact⟨1,by omega,by omega,(by show _∈_;simp),by first|rfl|(simp[go_sem])|kernel_rfl⟩
  ·exact⟨2,by omega,by omega,(by show _∈_;simp),by first|rfl|(simp[go_sem])|kernel_rfl⟩
  ·exact⟨10,by omega,by omega,(by show _∈_;simp),by first|rfl|(simp[go_sem])|kernel_rfl⟩
 have HO:=zH (fun W=>lZ c W (by omega) (by omega));have HQ:=zH (fun W=>qfr HS.out.1 (Int.le_trans HS.out.2 (by decide)) (show 1<=c by omega) hc1 W);have HF:=zH (sW HS.out.1 (Int.le_trans HS.out.2 (by decide)) (show 1<=c by omega) hc1);have HG:Hid (a=1->0<eH (iw n c)):=fun h1=>HP.out h1 c hcm.out
 simp only[hva] at HQ;clear hc0 hc1 hj hva hcm HP HS;go_wp2_with fail;clear hcx;generalize iw n c=r at*;generalize aS c=vb at*;refine (HO.out _).mono ?_;rintro e w4 ⟨rfl,hb4⟩;have hk4:=hk3.below hb4 hk3.lt;have hd4:=hd3.below hb4;have ho4:=ho3.trans (aF.of_below hb4);clear hk3 hd3 ho3 hb4;go_wp2_with fail;refine (HQ.out _).mono ?_;rintro e w5 ⟨rfl,hb5⟩;have hk5:=hk4.below hb5 hk4.lt;have hd5:=hd4.below hb5;have NV:=ho4.trans (aF.of_below hb5);clear hk4 hd4 ho4 hb5;obtain⟨rn,ru,rd⟩:=r;unfold Ra.v
 go_upto_region 3 with fail
 have hy:=(aj.new w5 43 #[.bool rn,.string ru,.string rd]).cells;have hk6:=hk5.alloc (.cells #[.bool rn,.string ru,.string rd] 43);have hb6:Below w5.heap.size w5 (w5.alloc (.cells #[.bool rn,.string ru,.string rd] 43)):=(Below.refl _ _).alloc (Nat.le_refl _) _;have hd6:=hd5.below hb6;have EI:=NV.trans (aF.of_below hb6);have hne:¬w5.heap.size=B:=by have:=hk5.lt;omega
 have hne':¬B=w5.heap.size:=fun h=>hne h.symm
 generalize w5.alloc (.cells #[.bool rn,.string ru,.string rd] 43)=w6 at*;generalize w5.heap.size=C at*;have hc:=hk6.cells;have hf:=hk6.aI;have J5:=zH hk6;have HD6:=zH hd6;have HO6:=zH EI;clear hk5 hd5 NV hb6 hk6 hd6 EI;go_wp2;refine bodyPost_ret (v:=.agg #[.bool rn,.string ru,.string rd]) (by simp[results,Tryz.results146,go_sem,hc]) rfl ⟨⟨rn,ru,rd⟩,rfl,HF.out,HG.out,?_,?_⟩
 ·exact ((HD6.out.set HU.out _ _).set HU.out _ _).set HU.out _ _
 ·exact ((HO6.out.fresh (by rw[<-HB.out];omega) 0 _).fresh (by rw[<-HB.out];omega) 1 _).fresh (by rw[<-HB.out];omega) 2 _
theorem wfr (n d:Int) (w:World) (h0:-8<=n) (h1:n<=40) (h2:1<=d) (h3:d<=10):Calls Tryz.prog 45 #[.int .i64 n,.int .i64 d] w fun e w'=>∃q u v,e=.returned (.agg #[.bool q,.string u,.string v])/\aV ⟨q,u,v⟩=true/\Below w.heap.size w w':=
 (lJ n d w h0 (by omega) h2 h3).mono fun _ _ ⟨h,hb⟩=>⟨_,_,_,h,sW h0 (by omega) h2 h3,hb⟩
theorem aiy (s:Ra) (hs:s∈[iw 1 1,iw 1 2,iw 5 1]) (r:Nat) (hr:r<30) (w:World):Calls Tryz.prog 105 #[s.v,(aS (1+(r:Int))).v] w fun e w'=>∃p,e=.returned (Ra.v p)/\Ak s p=true/\Below w.heap.size w w':=by
 obtain⟨h1,h2⟩:=aaf s hs;simp only[Bool.and_eq_true,decide_eq_true_eq] at h1;obtain⟨a1,a2,a3,_⟩:=NU (show-8<=1+(r:Int) by omega) (by omega);have h3:=h2 ⟨r,hr⟩;rw[Int.add_comm] at h3;exact (aae s _ w h1.1 a1 9 (by omega) h1.2.1 h1.2.2 a2 a3).mono fun _ _ ⟨h,hb⟩=>⟨_,h,h3,hb⟩
theorem Xw (p q:Bk) (l:List Bk):wZ 0 p l=wZ 0 q l:=by cases l<;>rfl
theorem Xx (k:Nat) (p b:Bk) (r:List Bk):wZ k p (b::r)=(QS k p b||wZ (k+1) b r):=rfl
theorem Rd.bk {w:World} {A:Option Addr} {l:List Bk} (h:Rd w A (bks l)) {j:Nat} (hj:j<l.length):
  ∃b off,A=some ⟨b,off,none⟩/\b<w.heap.size/\∀k (hk:k<l.length),w.cell? ⟨b,off+k*6,none⟩=some (.bool l[k].fr.neg)/\w.cell? ⟨b,off+k*6+1,none⟩=some (.string l[k].fr.num)/\w.cell? ⟨b,off+k*6+2,none⟩=some (.string l[k].fr.den)/\
   w.cell? ⟨b,off+k*6+3,none⟩=some (.bool l[k].rt.neg)/\w.cell? ⟨b,off+k*6+4,none⟩=some (.string l[k].rt.num)/\w.cell? ⟨b,off+k*6+5,none⟩=some (.string l[k].rt.den):=by
 obtain⟨b,off,hA,hb,_⟩:=Rd.row Bk.cells 6 (fun _=>rfl) (by omega) h hj;refine⟨b,off,hA,hb,fun k hk=>?_⟩;obtain⟨b',off',hA',hb',hc⟩:=Rd.row Bk.cells 6 (fun _=>rfl) (by omega) h hk;rw[hA] at hA';injection hA' with hA';injection hA' with h1 h2;subst h1 h2;exact⟨hc 0 _ rfl,hc 1 _ rfl,hc 2 _ rfl,hc 3 _ rfl,hc 4 _ rfl,hc 5 _ rfl⟩
theorem PW (w:World):PredBelow Tryz.prog 76 #[] (fun x:{b:Bk // rH b}=>.agg (Bk.cells x.1).toArray) (fun x=>jT x.1) w:=fun W x hW=>by
 refine (PV x.1 x.2 W).mono ?_;rintro e w' ⟨rfl,h⟩;exact⟨rfl,ah hW h⟩
instance abL:Inhabited {b:Bk // rH b}:=⟨⟨⟨zR,zR⟩,⟨Nat.zero_le _,Nat.zero_le _⟩,Nat.zero_le _,Nat.zero_le _⟩⟩
theorem aag (l:List Bk) (A:Option Addr) (n c:Nat) (w:World) (hn:n=l.length) (hm:n<=maxLen) (h0:0<n) (hr:Rd w A (bks l)) (hf:∀b∈l,rH b):
  Calls Tryz.prog 75 #[.slice A n c,.func (.func 76) #[] #[]] w fun e w'=>e=.returned (.bool (l.any jT))/\Below w.heap.size w w':=by
 obtain⟨b,off,rfl,hb,hc⟩:=Rd.row Bk.cells 6 (fun _=>rfl) (by omega) hr (j:=0) (by omega);have eg:∀args w,(callFunc 76 args).run Tryz.prog w=.ok (.enter 76 args) w:=enters_of Tryz.func76 (by kernel_rfl) rfl
 have h:=AnyQ.slices_ContainsFunc Tryz.conB 6 Tryz.isAgg93 Tryz.sizeOf93 (fun x:{b:Bk // rH b}=>Bk.cells x.1) (fun _=>rfl) (fun x=>jT x.1) 76 #[] eg b off n c (l.attach.map fun x=>⟨x.1,hf x.1 x.2⟩) w
  (PW w) (by rw[List.length_map,List.length_attach];omega) (by unfold maxLen at hm;omega) hb (fun j hj i v hv=>by
    rw[List.length_map,List.length_attach] at hj;obtain⟨b',off',hA',hb',hc'⟩:=Rd.row Bk.cells 6 (fun _=>rfl) (by omega) hr hj;injection hA' with hA';injection hA' with h1 h2;subst h1 h2;refine hc' i v ?_;rw[getElem!_pos _ _ (by rw[List.length_map,List.length_attach];exact hj)] at hv;simpa using hv)
 have e1:((l.attach.map fun x=>(⟨x.1,hf x.1 x.2⟩:{b:Bk // rH b})).take n).any (fun x=>jT x.1)=l.any jT:=by
  rw[List.take_of_length_le (by rw[List.length_map,List.length_attach];omega),List.any_map];rw[Bool.eq_iff_iff,List.any_eq_true,List.any_eq_true];constructor
  ·rintro⟨x,_,h⟩;exact⟨x.1,x.2,h⟩
  ·rintro⟨x,hx,h⟩;exact⟨⟨x,hx⟩,List.mem_attach _ _,h⟩
 rw[e1] at h;exact h
theorem Uz (nm:ByteArray) (m d:Int) (l:List Bk) (A:Option Addr) (n c:Nat) (w:World) (hn:n=l.length) (hm:n<=maxLen) (hr:Rd w A (bks l)) (hf:∀b∈l,rH b):
  Calls Tryz.prog 28 #[.agg #[.string nm,.int .i64 m,.int .i64 d,.slice A n c]] w fun e w'=>e=.returned (.int .i64 (iH l))/\Below w.heap.size w w':=by
 have HUF:=zH (fun W (hb:Below w.heap.size w W) h0=>aag l A n c W hn hm h0 (hr.below hb) hf);have HR:=zH hr;have HF:=zH hf;have HN:=zH hn;have hm2:n<=9223372036854775807:=by unfold maxLen at hm;omega
 obtain⟨z,hz⟩:=zE (iH l);rw[<-hz];have HZ:=zH hz;clear hm hr hf hz hn;go_enter Tryz.func28,Tryz.ntmps28
 go_upto_region 1 with fail
 generalize hX:w.alloc _=W;obtain⟨hk,hb0⟩:=zA hX;have hkc:=hk.cells;clear hX hk;by_cases h8:8<n
 ·obtain rfl:z=2:=by rw[HZ.out];unfold iH;rw[<-HN.out,if_pos h8]
  clear HZ;go_wp2;go_ret;exact⟨rfl,hb0⟩
 by_cases h0:n=0
 ·obtain rfl:z=11:=by rw[HZ.out];unfold iH;rw[<-HN.out,if_neg h8,if_pos h0]
  clear HZ;subst h0;go_wp2;go_ret;exact⟨rfl,hb0⟩
 have HE:Hid (z=if wZ 0 (l.getD (0-1) ⟨zR,zR⟩) l=true then 11 else if l.any jT then 3 else 0):=by show _=_;rw[HZ.out];unfold iH;rw[<-HN.out,if_neg h8,if_neg h0,Xw]
 clear HZ;have h0b:((n:Int)==0)=false:=by simp[h0]
 go_wp2_with fail
 go_loopg [18] n (fun g iv wr=>∃j:Nat,j+g=n/\iv=.int .i64 j/\Hid (wZ 0 (l.getD (0-1) ⟨zR,zR⟩) l=wZ j (l.getD (j-1) ⟨zR,zR⟩) (l.drop j))/\Hid (∀k (hk:k<l.length),k<j->okR l[k].fr=true)/\Below W.heap.size W wr)
 case atStart=>exact⟨0,by omega,rfl,rfl,(fun k hk h=>absurd h (by omega)),Below.refl _ _⟩
 case round=>
  obtain⟨j,hj,rfl,hgo,hok,hbr⟩:=hrel;have hbw:=ah hb0 hbr;by_cases hlt:j<n
  ·have hjl:j<l.length:=by rw[<-HN.out];exact hlt
   obtain⟨b,off,rfl,hbb,hcs⟩:=(HR.out.below hbw).bk hjl;have hc:=hcs j hjl;obtain⟨⟨f1,f2⟩,f3,f4⟩:=HF.out l[j] (List.getElem_mem hjl);have EJ:=hgo.out;rw[List.drop_eq_getElem_cons hjl,Xx] at EJ;have HRF:=zH (fun W=>qX l[j].fr W (by omega) (by omega));have oD:=zH (fun W=>qX l[j].rt W (by omega) (by omega));have oI:=zH (fun W=>uH l[j].fr W (by omega) (by omega))
   have HCM:Hid (∀W (h:0<j),okR l[j].fr=true->Calls Tryz.prog 74 #[(l[j-1]'(by omega)).fr.v,l[j].fr.v] W fun e w'=>e=.returned (.int .i64 (sJ (l.getD (j-1) ⟨zR,zR⟩).fr l[j].fr))/\Below W.heap.size W w'):=fun W h ho=>by
    have hj1:j-1<l.length:=by omega
    obtain⟨⟨g1,g2⟩,_⟩:=HF.out l[j-1] (List.getElem_mem hj1);have h1:=Qu l[j-1].fr l[j].fr W (hok.out _ hj1 (by omega)) ho 1048576 (by omega) g1 g2 f1 f2;have e1:l.getD (j-1) ⟨zR,zR⟩=l[j-1]:=by rw[List.getD_eq_getElem?_getD,List.getElem?_eq_getElem hj1];rfl
    rw[e1];exact h1
   have aah:Hid (okR l[j].fr=true->∀k (hk:k<l.length),k<j+1->okR l[k].fr=true):=fun h k hk hkj=>by
    by_cases e:k<j
    ·exact hok.out k hk e
    ·obtain rfl:k=j:=by omega
     exact h
   have hnx:l[j]=l.getD (j+1-1) ⟨zR,zR⟩:=by rw[Nat.add_sub_cancel,List.getD_eq_getElem?_getD,List.getElem?_eq_getElem hjl];rfl
   have HPC:=zH (fun X (hX:Below wr.heap.size wr X) (h:0<j)=>have q:=hcs (j-1) (by omega);And.intro ((hX.cell (p:=⟨b,off+(j-1)*6,none⟩) hbb).trans q.1) (And.intro ((hX.cell (p:=⟨b,off+(j-1)*6+1,none⟩) hbb).trans q.2.1) ((hX.cell (p:=⟨b,off+(j-1)*6+2,none⟩) hbb).trans q.2.2.1)));have jA:Hid (QS j (l.getD (j-1) ⟨zR,zR⟩) l[j]=(!okR l[j].fr|| !okR l[j].rt||(if j=0 then decide (eH l[j].fr≠0) else decide (0<=sJ (l.getD (j-1) ⟨zR,zR⟩).fr l[j].fr)))):=rfl;generalize QS j (l.getD (j-1) ⟨zR,zR⟩) l[j]=bx at EJ jA;generalize sJ (l.getD (j-1) ⟨zR,zR⟩).fr l[j].fr=cm at jA HCM;rw[hnx] at EJ;replace EJ:=zH EJ;clear hnx;generalize l[j]=bb at*;obtain⟨⟨an,am,ad⟩,⟨bn,bm,bd⟩⟩:=bb;simp only[Ra.v] at hc HRF oD oI HCM jA aah;generalize okR ⟨an,am,ad⟩=okf at*;generalize okR ⟨bn,bm,bd⟩=okr at*;generalize eH ⟨an,am,ad⟩=sg at*;clear hgo hcs f1 f2 f3 f4 hok
   go_upto_region 9 with fail
   generalize hX:wr.alloc _=X;obtain⟨hk5,hb5⟩:=zA hX;clear hX hc;have hkx:=fun Y (hY:Below X.heap.size X Y)=>have q:=(hk5.below hY hk5.lt).cells;And.intro (q 0) (And.intro (q 1) (And.intro (q 2) (And.intro (q 3) (And.intro (q 4) (q 5)))))
   simp only[List.getElem?_cons_zero,List.getElem?_cons_succ] at hkx;have hq:=hkx X (Below.refl _ _);go_wp2_with fail;refine (HRF.out _).mono ?_;rintro e w6 ⟨rfl,hb6⟩;have hq:=hkx w6 hb6;cases okf
   ·obtain rfl:z=11:=by rw[HE.out,EJ.out,jA.out];rfl
    go_wp2;go_ret;exact⟨rfl,ah hbw (ah hb5 hb6)⟩
   go_wp2_with fail;refine (oD.out _).mono ?_;rintro e w7 ⟨rfl,hb7⟩;cases okr
   ·obtain rfl:z=11:=by rw[HE.out,EJ.out,jA.out];rfl
    go_wp2;go_ret;exact⟨rfl,ah hbw (ah hb5 (ah hb6 hb7))⟩
   have aai:=ah hb6 hb7;clear hb6 hb7 hq HRF oD
   go_upto_region 11 with fail
   have hbz:=fun Y (hY:Below w7.heap.size w7 Y)=>hkx Y (ah aai hY)
   go_cut [56] from 33 to 56 (fun v Y=>v=.bool bx/\Below w7.heap.size w7 Y)
   case first=>
    by_cases hj0:j=0
    ·have hbx:bx=decide (sg≠0):=by rw[jA.out,if_pos hj0];rfl
     subst hj0;refine dN (Below w7.heap.size w7) 99 (ak _ _ 1) (fun w8 _ hS=>?_)
     iterate 5 refine aW ?_
     refine cO 5 (oI.out w8) ?_;rintro e w9 ⟨rfl,gW⟩;refine⟨_,rfl,ah hS gW,fun hS=>?_⟩;by_cases hs0:sg=0
     ·subst hs0;obtain rfl:bx=false:=hbx
      iterate 6 refine aW ?_
      iterate 10 refine Cc ?_
      iterate 2 refine aW ?_
      refine dH ?_;go_wp2
      go_meet
      case rel=>exact⟨rfl,hS⟩
     ·obtain rfl:bx=true:=by rw[hbx];exact decide_eq_true hs0
      have hsb:(sg !=0)=true:=bne_iff_ne.2 hs0;clear hbx jA oI HCM HPC EJ aah HF HR HE HUF hkc
      iterate 3 refine aW ?_
      iterate 14 refine Cc ?_
      refine aW ?_;refine dH ?_;go_wp2
      go_meet
      case rel=>exact⟨rfl,hS⟩
    ·have hbx:bx=decide (0<=cm):=by rw[jA.out,if_neg hj0];rfl
     have hj1:((j:Int)==0)=false:=by simp[hj0]
     have hj2:(0:Int)<(j:Int):=by omega
     have hj3:0<j:=by omega
     have hbp:=fun Y (hY:Below w7.heap.size w7 Y)=>HPC.out Y (ah hb5 (ah aai hY)) (by omega)
     have HC:=zH (fun W=>HCM.out W (by omega) trivial);have hw1:IntKind.i64.wrap ((j:Int)-1)=((j-1:Nat):Int):=by rw[IntWalk.i64_in _ (by omega)];omega
     have hin:j-1<n:=by omega
     clear HPC HCM;generalize l[j-1]=pb at hbp HC;obtain⟨⟨pn,pm,pd⟩,pr⟩:=pb;simp only at hbp HC;generalize j-1=i at*;have i0:(0:Int)<=(i:Int):=by omega
     have i1:(i:Int)<(n:Int):=by omega
     refine dN (Below w7.heap.size w7) 99 (ak _ _ 1) (fun w8 _ hS=>?_)
     iterate 3 refine aW ?_
     iterate 4 refine Cc ?_
     iterate 13 refine aW ?_
     refine cO 20 (HC.out w8) ?_;rintro e w9 ⟨rfl,gW⟩;refine⟨_,rfl,ah hS gW,fun hS=>?_⟩
     iterate 3 refine aW ?_
     refine dH ?_;go_wp2
     go_meet
     case rel=>exact⟨by rw[hbx],hS⟩
   case rest=>
    obtain⟨rfl,hbc⟩:=hcut;have hbx:=ah hb5 (ah aai hbc);cases bx
    ·go_wp2
     go_roundg (n-(j+1))
     case measure=>omega
     case rel=>exact⟨j+1,by omega,by go_num,EJ,aah.out trivial,ah hbr hbx⟩
    ·obtain rfl:z=11:=by rw[HE.out,EJ.out];rfl
     go_wp2;go_ret;exact⟨rfl,ah hbw hbx⟩
  ·obtain rfl:j=n:=by omega
   have hU:=HUF.out _ hbw (by omega);have hgo:=hgo.out;rw[HN.out,List.drop_length] at hgo;have hz:z=if l.any jT then 3 else 0:=by rw[HE.out,hgo];rfl
   generalize l.any jT=an at*;go_wp2_with fail;refine hU.mono ?_;rintro e w6 ⟨rfl,hb6⟩;subst hz;cases an
   all_goals
    go_wp2;go_ret;exact⟨rfl,ah hbw hb6⟩
structure Hd where
 a:Option Addr
 n:Nat
 c:Nat
structure aJ {α:Type} (w:World) (enc:α->List Value) (xs:List α) (h:Hd):Prop where
 len:h.n=xs.length
 cap:h.n<=h.c
 max:h.c<=maxLen
 rd:Rd w h.a (xs.flatMap enc)
theorem aJ.below {α:Type} {w w':World} {enc:α->List Value} {xs:List α} {h:Hd} (k:aJ w enc xs h) (hb:Below w.heap.size w w'):aJ w' enc xs h:=⟨k.len,k.cap,k.max,k.rd.below hb⟩
theorem aJ.nil {α:Type} (w:World) (enc:α->List Value):aJ w enc ([]:List α) ⟨none,0,0⟩:=⟨rfl,Nat.le_refl _,Nat.zero_le _,.inl rfl⟩
theorem aJ.l7 {α:Type} {w:World} {enc:α->List Value} {xs:List α} {base m n:Nat} {e:TypeId} {v:Value} (h:w.ownsRow base e m v n (xs.flatMap enc)) (hn:n=xs.length):∃h:Hd,v=.slice h.a h.n h.c/\h.n=n/\aJ w enc xs h:=by
 obtain⟨A,c,rfl,h1,h2,h3,_⟩:=bY h;exact⟨⟨A,n,c⟩,rfl,rfl,hn,h1,h2,h3⟩
structure Dc where
 name:ByteArray
 ty:Ty
deriving DecidableEq
structure Sc where
 name:ByteArray
 aN:Int
 days:Int
 bI:List Bk
deriving DecidableEq
structure Pv where
 name:ByteArray
 ty:Ty
 dS:Bool
 step:Ra
 cap:Ra
 body:List Nd
deriving DecidableEq
structure Lw where
 facts:List Dc
 aU:List Sc
 aH:List Pv
deriving DecidableEq
def Dc.cells (d:Dc):List Value:=[.string d.name,.bool d.ty.truth,.int .i64 d.ty.aN,.int .i64 d.ty.days]
def bK (s:Sc × Hd):List Value:=[.string s.1.name,.int .i64 s.1.aN,.int .i64 s.1.days,.slice s.2.a s.2.n s.2.c]
def aA (p:Pv × Hd):List Value:=[.string p.1.name,.bool p.1.ty.truth,.int .i64 p.1.ty.aN,.int .i64 p.1.ty.days,.slice p.2.a p.2.n p.2.c,.bool p.1.dS,
 .bool p.1.step.neg,.string p.1.step.num,.string p.1.step.den,.bool p.1.cap.neg,.string p.1.cap.num,.string p.1.cap.den]
structure dV (w:World) (l:Lw) (ss:List (Sc × Hd)) (ps:List (Pv × Hd)) (f s p:Hd):Prop where
 f:aJ w Dc.cells l.facts f
 s:aJ w bK ss s
 p:aJ w aA ps p
 sl:ss.map Prod.fst=l.aU
 pl:ps.map Prod.fst=l.aH
 sb:∀x∈ss,aJ w Bk.cells x.1.bI x.2
 pb:∀x∈ps,aJ w Nd.cells x.1.body x.2
theorem dV.below {w w':World} {l:Lw} {ss:List (Sc × Hd)} {ps:List (Pv × Hd)} {f s p:Hd} (k:dV w l ss ps f s p) (hb:Below w.heap.size w w'):dV w' l ss ps f s p:=
 ⟨k.f.below hb,k.s.below hb,k.p.below hb,k.sl,k.pl,fun x hx=>(k.sb x hx).below hb,fun x hx=>(k.pb x hx).below hb⟩
def dR (f s p:Hd):Value:=.agg #[.slice f.a f.n f.c,.slice s.a s.n s.c,.slice p.a p.n p.c]
structure nV (l:Lw):Prop where
 fn:l.facts.length<=1000
 sn:l.aU.length<=1000
 pn:l.aH.length<=1000
 sb:∀s∈l.aU,∀b∈s.bI,rH b
 pb:∀p∈l.aH,jH p.step/\jH p.cap/\∀n∈p.body,Fine n
def jd (d:Dc):Sg:=⟨5,d.name,d.ty⟩
def iK (op:Int) (p:Pv):Sg:=⟨op,p.name,p.ty⟩
def kY (s:Sc):Sg:=⟨24,s.name,⟨false,s.aN,s.days⟩⟩
def dW (l:Lw):List Sg:=l.facts.map jd++(l.aH.map (iK 6)++(l.aH.map (iK 7)++(l.aH.map (iK 8)++l.aU.map kY)))
def dZ (p:Pv):Bool:=decide (p.step=zR)&&decide (p.cap=zR)
def kZ (p:Pv):Bool:= !p.ty.truth&&(aV p.step&&(aV p.cap&&(decide (0<eH p.step)&&(decide ((iR p.cap p.step).1.den=(aS 1).den)&&(decide (0<eH (iR p.cap p.step).1)&&decide (sJ (iR p.cap p.step).1 (aS 200)<=0))))))
def jm (sg:List Sg) (p:Pv):Int:=if (iU sg p.body).2≠0 then (iU sg p.body).2 else if (iU sg p.body).1≠p.ty then 13 else if (p.dS&&decide (p.ty≠bT))||(!dZ p&& !kZ p) then 1 else 0
def pG (l:Lw):Bool:=l.facts.all (fun d=>bH d.ty)&&(l.aH.all (fun p=>bH p.ty)&&l.aU.all (fun s=>gu s.aN s.days))
theorem rJ (a b:List Sg):jf (a++b)=jf a++jf b:=List.flatMap_append
theorem qw:(Tryz.prog.info? 102).map (fun i=>(i.zero,i.size,i.bytes))=some (some (.agg #[.int .i64 0,.string ⟨#[]⟩,.bool false,.int .i64 0,.int .i64 0]),5,48):=by kernel_rfl
theorem sZ {α β:Type} (f:α->β) {l:List α} {k:Nat} (hk:k<l.length):(l.take (k+1)).map f=(l.take k).map f++[f l[k]]:=by
 rw[List.take_succ_eq_append_getElem hk,List.map_append];rfl
def opsL (l:Lw) (r:Nat):List Sg:=(List.range r).flatMap fun q:Nat=>l.aH.map (iK (6+(q:Int)))
theorem J6 (l:Lw) (r:Nat):opsL l (r+1)=opsL l r++l.aH.map (iK (6+(r:Int))):=by
 unfold opsL;rw[List.range_succ,List.flatMap_append];simp
theorem aaj (l:Lw) (r:Nat):(opsL l r).length=r*l.aH.length:=by
 induction r with
 |zero=>unfold opsL;simp
 |succ r ih=>rw[J6,List.length_append,ih,List.length_map,Nat.succ_mul]
theorem aak (l:Lw):dW l=l.facts.map jd++opsL l 3++l.aU.map kY:=by
 unfold dW opsL;simp[List.range_succ,List.flatMap_cons]
theorem J7 (l:Lw) (ss:List (Sc × Hd)) (ps:List (Pv × Hd)) (f s p:Hd) (w:World) (h:dV w l ss ps f s p) (hf:nV l):
  Calls Tryz.prog 16 #[dR f s p] w fun e w'=>∃h:Hd,e=.returned (.slice h.a h.n h.c)/\aJ w' Sg.cells (dW l) h/\Below w.heap.size w w':=by
 have aal:=hf.fn;have aam:=hf.sn;have UA:=hf.pn;obtain⟨fa,fn,fc⟩:=f;obtain⟨sa,sn,sc⟩:=s;obtain⟨pa,pn,pc⟩:=p;unfold dR;simp only
 obtain⟨W,hW⟩:=zE (w.alloc (.cells #[.slice fa fn fc,.slice sa sn sc,.slice pa pn pc] 28));obtain⟨B,hB⟩:=zE w.heap.size;have jG:Hid (aj W B 28 [.slice fa fn fc,.slice sa sn sc,.slice pa pn pc]):=by show aj _ _ _ _;rw[hW,hB];exact aj.new w _ _
 have aY:Hid (Below w.heap.size w W):=by show Below _ _ _;rw[hW];exact zB _ _
 have lU:=zH (h.below aY.out);have zk:Hid (fn=l.facts.length):=h.f.len;have uS:Hid (sn=l.aU.length):=by show _=_;rw[<-h.sl,List.length_map];exact h.s.len
 have iW:Hid (pn=l.aH.length):=by show _=_;rw[<-h.pl,List.length_map];exact h.p.len
 rw[<-zk.out] at aal;rw[<-uS.out] at aam;rw[<-iW.out] at UA;have Xy:Hid (∀k (hk:k<l.aU.length) (hk':k<ss.length),l.aU[k]=ss[k].1):=fun k hk hk'=>by have e:=h.sl;simp[<-e]
 have NW:Hid (∀k (hk:k<l.aH.length) (hk':k<ps.length),l.aH[k]=ps[k].1):=fun k hk hk'=>by have e:=h.pl;simp[<-e]
 clear h hf;have HST:Hid (W.ownsRow W.heap.size 102 5 (.slice none 0 0) (0+0) (jf [])):=World.ownsRow_nil _ _ _ _;have bC:Hid (Below W.heap.size W W):=Below.refl _ _;have aiz:=aY;have hkc:=jG.out.cells;go_enter Tryz.func16,Tryz.ntmps16
 go_upto_region 1 with fail
 simp only[<-hW,<-hB]
 clear hW hB;go_wp2_with fail
 go_loopg [2,14] fn (fun g ov iv wr=>∃j:Nat,j+g=fn/\iv=.int .i64 j/\Hid (wr.ownsRow W.heap.size 102 5 ov (0+j) (jf (([]:List Sg)++(l.facts.take j).map jd)))/\Hid (Below W.heap.size W wr))
 case atStart=>exact⟨0,by omega,rfl,(by show World.ownsRow _ _ _ _ _ _ _;rw[List.take_zero,List.map_nil,List.append_nil];exact HST.out),bC⟩
 case round=>
  obtain⟨j,hj,rfl,hown,hbr⟩:=hrel;clear HST bC;by_cases hlt:j<fn
  ·have mZ:j<l.facts.length:=by rw[<-zk.out];exact hlt
   have hjm:j<l.facts.length:=by rw[<-lU.out.f.len];exact hlt
   have oJ:=sZ jd mZ;rw[show l.facts[j]=l.facts[j] from rfl] at oJ;obtain⟨b,off,hA,hb,hc⟩:=Rd.row Dc.cells 4 (fun _=>rfl) (by omega) (lU.out.f.below hbr.out).rd hjm;simp only at hA;subst hA;generalize l.facts[j]=x at*;obtain⟨nm,⟨tt,tm,td⟩⟩:=x;have CS:=zH oJ;have c0:=hc 0 _ rfl;have c1:=hc 1 _ rfl;have c2:=hc 2 _ rfl;have c3:=hc 3 _ rfl;simp only[Nat.add_zero] at c0;obtain⟨K,hK⟩:=zE (0+j);obtain⟨XS,oK⟩:∃X,X=jf (([]:List Sg)++(l.facts.take j).map jd):=⟨_,rfl⟩
   rw[<-hK,<-oK] at hown;have xg:=zH oK;have HK:=zH hK;have hKb:K<=5000:=by omega
   have CU:Hid ((wr.alloc (.cells #[.string nm,.bool tt,.int .i64 tm,.int .i64 td] 36)).ownsRow W.heap.size 102 5 u2 K XS):=hown.out.alloc _;have aY:Hid (Below W.heap.size W (wr.alloc (.cells #[.string nm,.bool tt,.int .i64 tm,.int .i64 td] 36))):=hbr.out.alloc hbr.out.size _;clear hown hbr hc oJ hK oK;go_wp2_with (at_builtin;go_must (refine bP (wr.alloc (.cells #[.string nm,.bool tt,.int .i64 tm,.int .i64 td] 36)) #[.int .i64 5,.string nm,.bool tt,.int .i64 tm,.int .i64 td] rfl _ _ 61 rfl W.heap.size 102 _ 5 48 1 Tryz.underlying61 qw rfl (by decide) u2 K XS rfl CU.out (by rw[World.size_alloc];rfl) rfl ?_ ?_ ?_ ?_ ?_))
   any_goals first|(unfold maxLen;omega)|omega
   ·exact⟨rfl,rfl,rfl,rfl,rfl⟩
   ·have hz:=aY.out.size;rw[World.size_alloc] at hz;exact hz
   intro v' w' hown' hb';have HOWN:Hid (w'.ownsRow W.heap.size 102 5 v' (0+(j+1)) (jf (([]:List Sg)++(l.facts.take (j+1)).map jd))):=by show World.ownsRow _ _ _ _ _ _ _;rw[CS.out,<-List.append_assoc,rJ,<-xg.out,<-Nat.add_assoc,<-HK.out];exact hown'
   have HB:=zH (aY.out.trans hb');clear hown' hb' c0;go_wp2
   go_roundg (fn-(j+1))
   case measure=>omega
   case rel=>exact⟨j+1,by omega,by go_num,HOWN,HB⟩
  ·have hjn:j=fn:=by omega
   have HST:Hid (wr.ownsRow W.heap.size 102 5 u2 (0+fn) (jf (([]:List Sg)++l.facts.map jd))):=by
    have h:=hown.out;rw[hjn] at h;rw[List.take_of_length_le (Nat.le_of_eq zk.out.symm)] at h;exact h
   have bC:=hbr;have hkc:=(jG.out.below hbr.out jG.out.lt).cells;clear hown hbr hjn;go_wp2_with fail
   go_loopg [2,28] 3 (fun g ov iv wr=>∃r:Nat,r+g=3/\iv=.int .i64 r/\Hid (wr.ownsRow W.heap.size 102 5 ov (fn+r*pn) (jf (l.facts.map jd++opsL l r)))/\Hid (Below W.heap.size W wr))
   case atStart=>exact⟨0,by omega,rfl,(by show World.ownsRow _ _ _ _ _ _ _;rw[Nat.zero_mul,Nat.add_zero,show opsL l 0=[] from rfl,List.append_nil,<-Nat.zero_add fn];exact HST.out),bC⟩
   case round=>
    obtain⟨r,hr,rfl,hown,hbr⟩:=hrel;clear HST bC;by_cases hlt:r<3
    ·have HST:=hown;have bC:=hbr;have hkc:=(jG.out.below hbr.out jG.out.lt).cells;have hr3:r=0∨r=1∨r=2:=by omega
     clear hown hbr
     go_upto_region 8 with fail
     go_cut [6] from 30 to 30 (fun v wc=>v=.int .i64 (6+(r:Int))/\wc=wr)
     case first=>
      have hix:∀W,(Instr.index 58 (.agg #[.int .i64 6,.int .i64 7,.int .i64 8]) (.int .i64 (r:Int))).run Tryz.prog W=.ok (.int .i64 (6+(r:Int))) W:=fun W=>by rcases hr3 with rfl|rfl|rfl<;>kernel_rfl
      go_wp2
      go_meet
      case rel=>exact⟨rfl,rfl⟩
     case rest=>
      obtain⟨rfl,rfl⟩:=hcut;have hrp:r*pn<=3000:=Nat.mul_le_mul (show r<=3 from by omega) UA;clear hr3;have hd3:decide ((r:Int)<3)=true:=decide_eq_true (by omega);simp only[hd3]
      go_wp2_with fail
      go_loopg [2,34] pn (fun g ov iv wr=>∃j:Nat,j+g=pn/\iv=.int .i64 j/\Hid (wr.ownsRow W.heap.size 102 5 ov ((fn+r*pn)+j) (jf ((l.facts.map jd++opsL l r)++(l.aH.take j).map (iK (6+(r:Int))))))/\Hid (Below W.heap.size W wr))
      case atStart=>exact⟨0,by omega,rfl,(by show World.ownsRow _ _ _ _ _ _ _;rw[List.take_zero,List.map_nil,List.append_nil];exact HST.out),bC⟩
      case round=>
       obtain⟨j,hj,rfl,hown,hbr⟩:=hrel;clear HST bC;by_cases hlt:j<pn
       ·have mZ:j<l.aH.length:=by rw[<-iW.out];exact hlt
        have hjm:j<ps.length:=by rw[<-lU.out.p.len];exact hlt
        have oJ:=sZ (iK (6+(r:Int))) mZ;rw[show l.aH[j]=ps[j].1 from NW.out j mZ hjm] at oJ;obtain⟨b,off,hA,hb,hc⟩:=Rd.row aA 12 (fun _=>rfl) (by omega) (lU.out.p.below hbr.out).rd hjm;simp only at hA;subst hA;generalize ps[j]=x at*;obtain⟨⟨nm,⟨tt,tm,td⟩,ch,⟨pI,pJ,pK⟩,⟨pO,pR,cn3⟩,bo⟩,⟨ha,hn,hcc⟩⟩:=x;have CS:=zH oJ;have c0:=hc 0 _ rfl;have c1:=hc 1 _ rfl;have c2:=hc 2 _ rfl;have c3:=hc 3 _ rfl;have c4:=hc 4 _ rfl;have c5:=hc 5 _ rfl;have c6:=hc 6 _ rfl;have c7:=hc 7 _ rfl;have c8:=hc 8 _ rfl;have c9:=hc 9 _ rfl;have c10:=hc 10 _ rfl;have c11:=hc 11 _ rfl;simp only[Nat.add_zero] at c0;obtain⟨K,hK⟩:=zE ((fn+r*pn)+j);obtain⟨XS,oK⟩:∃X,X=jf ((l.facts.map jd++opsL l r)++(l.aH.take j).map (iK (6+(r:Int)))):=⟨_,rfl⟩
        rw[<-hK,<-oK] at hown;have xg:=zH oK;have HK:=zH hK;have hKb:K<=5000:=by omega
        have CU:Hid ((wr.alloc (.cells #[.string nm,.bool tt,.int .i64 tm,.int .i64 td,.slice ha hn hcc,.bool ch,.bool pI,.string pJ,.string pK,.bool pO,.string pR,.string cn3] 45)).ownsRow W.heap.size 102 5 u2 K XS):=hown.out.alloc _;have aY:Hid (Below W.heap.size W (wr.alloc (.cells #[.string nm,.bool tt,.int .i64 tm,.int .i64 td,.slice ha hn hcc,.bool ch,.bool pI,.string pJ,.string pK,.bool pO,.string pR,.string cn3] 45))):=hbr.out.alloc hbr.out.size _;clear hown hbr hc oJ hK oK;go_wp2_with (at_builtin;go_must (refine bP (wr.alloc (.cells #[.string nm,.bool tt,.int .i64 tm,.int .i64 td,.slice ha hn hcc,.bool ch,.bool pI,.string pJ,.string pK,.bool pO,.string pR,.string cn3] 45)) #[.int .i64 (6+(r:Int)),.string nm,.bool tt,.int .i64 tm,.int .i64 td] rfl _ _ 61 rfl W.heap.size 102 _ 5 48 1 Tryz.underlying61 qw rfl (by decide) u2 K XS rfl CU.out (by rw[World.size_alloc];rfl) rfl ?_ ?_ ?_ ?_ ?_))
        any_goals first|(unfold maxLen;omega)|omega
        ·exact⟨rfl,rfl,rfl,rfl,rfl⟩
        ·have hz:=aY.out.size;rw[World.size_alloc] at hz;exact hz
        intro v' w' hown' hb';have HOWN:Hid (w'.ownsRow W.heap.size 102 5 v' ((fn+r*pn)+(j+1)) (jf ((l.facts.map jd++opsL l r)++(l.aH.take (j+1)).map (iK (6+(r:Int)))))):=by show World.ownsRow _ _ _ _ _ _ _;rw[CS.out,<-List.append_assoc,rJ,<-xg.out,<-Nat.add_assoc,<-HK.out];exact hown'
        have HB:=zH (aY.out.trans hb');clear hown' hb' c0;go_wp2
        go_roundg (pn-(j+1))
        case measure=>omega
        case rel=>exact⟨j+1,by omega,by go_num,HOWN,HB⟩
       ·have hjn:j=pn:=by omega
        have HST:Hid (wr.ownsRow W.heap.size 102 5 u2 ((fn+r*pn)+pn) (jf ((l.facts.map jd++opsL l r)++l.aH.map (iK (6+(r:Int)))))):=by
         have h:=hown.out;rw[hjn] at h;rw[List.take_of_length_le (Nat.le_of_eq iW.out.symm)] at h;exact h
        have bC:=hbr;have hkc:=(jG.out.below hbr.out jG.out.lt).cells;clear hown hbr hjn;go_wp2
        go_roundg (3-(r+1))
        case measure=>omega
        case rel=>exact⟨r+1,by omega,by go_num,(by show World.ownsRow _ _ _ _ _ _ _;rw[J6,<-List.append_assoc,show fn+(r+1)*pn=fn+r*pn+pn from by rw[Nat.succ_mul];omega];exact HST.out),bC⟩
    ·have hrn:r=3:=by omega
     have HST:Hid (wr.ownsRow W.heap.size 102 5 u2 (fn+3*pn) (jf (l.facts.map jd++opsL l 3))):=by have h:=hown.out;rw[hrn] at h;exact h
     have bC:=hbr;have hkc:=(jG.out.below hbr.out jG.out.lt).cells;clear hown hbr hrn;go_wp2_with fail
     go_loopg [2,52] sn (fun g ov iv wr=>∃j:Nat,j+g=sn/\iv=.int .i64 j/\Hid (wr.ownsRow W.heap.size 102 5 ov ((fn+3*pn)+j) (jf ((l.facts.map jd++opsL l 3)++(l.aU.take j).map kY)))/\Hid (Below W.heap.size W wr))
     case atStart=>exact⟨0,by omega,rfl,(by show World.ownsRow _ _ _ _ _ _ _;rw[List.take_zero,List.map_nil,List.append_nil];exact HST.out),bC⟩
     case round=>
      obtain⟨j,hj,rfl,hown,hbr⟩:=hrel;clear HST bC;by_cases hlt:j<sn
      ·have mZ:j<l.aU.length:=by rw[<-uS.out];exact hlt
       have hjm:j<ss.length:=by rw[<-lU.out.s.len];exact hlt
       have oJ:=sZ kY mZ;rw[show l.aU[j]=ss[j].1 from Xy.out j mZ hjm] at oJ;obtain⟨b,off,hA,hb,hc⟩:=Rd.row bK 4 (fun _=>rfl) (by omega) (lU.out.s.below hbr.out).rd hjm;simp only at hA;subst hA;generalize ss[j]=x at*;obtain⟨⟨nm,mo,da,br⟩,⟨ha,hn,hcc⟩⟩:=x;have CS:=zH oJ;have c0:=hc 0 _ rfl;have c1:=hc 1 _ rfl;have c2:=hc 2 _ rfl;have c3:=hc 3 _ rfl;simp only[Nat.add_zero] at c0;obtain⟨K,hK⟩:=zE ((fn+3*pn)+j);obtain⟨XS,oK⟩:∃X,X=jf ((l.facts.map jd++opsL l 3)++(l.aU.take j).map kY):=⟨_,rfl⟩
       rw[<-hK,<-oK] at hown;have xg:=zH oK;have HK:=zH hK;have hKb:K<=5000:=by omega
       have CU:Hid ((wr.alloc (.cells #[.string nm,.int .i64 mo,.int .i64 da,.slice ha hn hcc] 39)).ownsRow W.heap.size 102 5 u2 K XS):=hown.out.alloc _;have aY:Hid (Below W.heap.size W (wr.alloc (.cells #[.string nm,.int .i64 mo,.int .i64 da,.slice ha hn hcc] 39))):=hbr.out.alloc hbr.out.size _;clear hown hbr hc oJ hK oK;go_wp2_with (at_builtin;go_must (refine bP (wr.alloc (.cells #[.string nm,.int .i64 mo,.int .i64 da,.slice ha hn hcc] 39)) #[.int .i64 24,.string nm,.bool false,.int .i64 mo,.int .i64 da] rfl _ _ 61 rfl W.heap.size 102 _ 5 48 1 Tryz.underlying61 qw rfl (by decide) u2 K XS rfl CU.out (by rw[World.size_alloc];rfl) rfl ?_ ?_ ?_ ?_ ?_))
       any_goals first|(unfold maxLen;omega)|omega
       ·exact⟨rfl,rfl,rfl,rfl,rfl⟩
       ·have hz:=aY.out.size;rw[World.size_alloc] at hz;exact hz
       intro v' w' hown' hb';have HOWN:Hid (w'.ownsRow W.heap.size 102 5 v' ((fn+3*pn)+(j+1)) (jf ((l.facts.map jd++opsL l 3)++(l.aU.take (j+1)).map kY))):=by show World.ownsRow _ _ _ _ _ _ _;rw[CS.out,<-List.append_assoc,rJ,<-xg.out,<-Nat.add_assoc,<-HK.out];exact hown'
       have HB:=zH (aY.out.trans hb');clear hown' hb' c0;go_wp2
       go_roundg (sn-(j+1))
       case measure=>omega
       case rel=>exact⟨j+1,by omega,by go_num,HOWN,HB⟩
      ·have hjn:j=sn:=by omega
       have HST:Hid (wr.ownsRow W.heap.size 102 5 u2 ((fn+3*pn)+sn) (jf ((l.facts.map jd++opsL l 3)++l.aU.map kY))):=by
        have h:=hown.out;rw[hjn] at h;rw[List.take_of_length_le (Nat.le_of_eq uS.out.symm)] at h;exact h
       have bC:=hbr;have hkc:=(jG.out.below hbr.out jG.out.lt).cells;clear hown hbr hjn;go_wp2;obtain⟨h,rfl,hn,hrow⟩:=aJ.l7 (enc:=Sg.cells) HST.out (by rw[List.length_append,List.length_append,List.length_map,List.length_map,aaj,zk.out,iW.out,uS.out]);go_ret;refine⟨h,rfl,?_,ah aiz.out bC.out⟩;rw[aak];exact hrow
end Go.Proofs.YtimokmplkpbmdaaGreatDoor
