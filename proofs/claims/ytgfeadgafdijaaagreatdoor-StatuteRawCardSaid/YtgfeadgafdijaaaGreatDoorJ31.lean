/- A part of the proof: Kb Kc U0 U1 U2 Yb. -/
import Derived.Deep.Cut
import Derived.Deep.CutRange
import Derived.Deep.RegionHeld3
import Derived.Test.YtgfeadgafdijaaaGreatDoorJ01
import Derived.Test.YtgfeadgafdijaaaGreatDoorJ17
import Derived.Test.YtgfeadgafdijaaaGreatDoorJ18
import Derived.Test.YtgfeadgafdijaaaGreatDoorJ21
import Derived.Test.YtgfeadgafdijaaaGreatDoorJ26
import Derived.Test.YtgfeadgafdijaaaGreatDoorJ30
set_option linter.unusedVariables false
set_option linter.unusedSimpArgs false
set_option maxRecDepth 100000
set_option maxHeartbeats 40000000
namespace Go.Proofs.YtgfeadgafdijaaaGreatDoor
open Go.RowKit
theorem Keeps.iP {B lo:Nat} {w W:World} (h:aJ B w W) (hl:B<lo):Keeps lo w W:=⟨h.size,fun b h1 h2=>h.block b h2 (by omega)⟩
theorem aJ.more {G:Nat} {a w w':World} (h:aJ G a w) (hb:Below a.heap.size w w'):aJ G a w':=
 ⟨hb.os.trans h.os,hb.tape.trans h.tape,hb.output.trans h.output,Nat.le_trans h.size hb.size,fun k hk hne=>(hb.block k hk).trans (h.block k hk hne)⟩
theorem aJ.grown {G:Nat} {a w:World} (h:aJ G a w):a.grownBy w (some G):=⟨h.os,h.tape,h.output,h.size,fun k hk hne=>h.block k hk (fun e=>hne (by rw[e]))⟩
theorem EP:(Tryz.prog.info? 32).map (fun i=>(i.zero,i.size,i.bytes))=some (some (.agg #[.bool false,.int .i64 0,.int .i64 0]),3,24):=by kernel_rfl
theorem wZ (a b:List Ty):tys (a++b)=tys a++tys b:=List.flatMap_append
theorem OO (op:Int):(aC op).ops≤3:=by
 unfold aC;rw[List.getD_eq_getElem?_getD];rcases Nat.lt_or_ge op.toNat kK.length with h|h
 ·rw[List.getElem?_eq_getElem h];exact (by decide:∀s∈kK,s.ops≤3) _ (List.getElem_mem h)
 ·rw[List.getElem?_eq_none h];decide
theorem FN (z:Int) (w wx:World) (B:Nat) (tm:Array Value) (v v':Value) (hk0:aj wx B 168 [v]) (hk1:aj wx (B+1) 50 [v']) (hB:B=w.heap.size) (hbe:Below w.heap.size w wx)
  (h4:tm[4]?=some (.pointer (some ⟨B,0,none⟩))) (h5:tm[5]?=some (.pointer (some ⟨B+1,0,none⟩))):
  bodyPostD Tryz.prog Tryz.f116 (oW ([],z) w) (Exit.panic (Bc z)) {tmps:=tm,defers:=[{target:=.fn (.func 155) #[.pointer (some ⟨B,0,none⟩),.pointer (some ⟨B+1,0,none⟩)],args:=#[]}]} wx:=by
 have hc0:wx.cell? ⟨B,0,none⟩=some v:=hk0.cells 0;have hc1:wx.cell? ⟨B+1,0,none⟩=some v':=hk1.cells 0;unfold Bc;refine leaves_cons (f:=155) (args:=#[.pointer (some ⟨B,0,none⟩),.pointer (some ⟨B+1,0,none⟩)]) (by simp) (by simp[go_sem]) ?_;refine (Gs B (B+1) z _ _ [] wx hc0 hc1 (hk0.aF 0) (hk1.aF 0) (by omega) (by omega)).mono ?_;rintro e u' w6 ⟨rfl,rfl,rfl⟩
 have hd0:((wx.setCell ⟨B,0,none⟩ (.slice none 0 0)).setCell ⟨B+1,0,none⟩ (.int .i64 z)).cell? ⟨B,0,none⟩=some (.slice none 0 0):=by
  rw[World.cell?_setCell_other _ _ _ _ (by simp)];exact World.cell?_setCell_same' _ _ _ (by rw[hc0];rfl)
 have hd1:((wx.setCell ⟨B,0,none⟩ (.slice none 0 0)).setCell ⟨B+1,0,none⟩ (.int .i64 z)).cell? ⟨B+1,0,none⟩=some (.int .i64 z):=
  World.cell?_setCell_same' _ _ _ (by rw[World.cell?_setCell_other _ _ _ _ (by simp),hc1];rfl)
 simp[Leaves,settle,results,Tryz.results116,go_sem,hd0,hd1,h4,h5];exact oW.bad ((hbe.setCell (p:=⟨B,0,none⟩) (by show _≤B;omega) _).setCell (p:=⟨B+1,0,none⟩) (by show _≤B+1;omega) _)
theorem Xr (sg:List Sg) (es:List Nd) (A1 A2:Option Addr) (k1 c1 l2 c2:Nat) (w:World) (hL:bZ w) (hk1:k1=sg.length) (hm1:k1≤maxLen) (hr1:Rd w A1 (kM sg)) (h2:Es w es A2 l2 c2) (hf:∀n∈es,Fine n) (hz:bC es=0):
  Calls Tryz.prog 116 #[.slice A1 k1 c1,.slice A2 l2 c2] w (oW (eG sg es) w):=by
 have HC:Hid (∀W,Below w.heap.size w W→Calls Tryz.prog 32 #[.slice A2 l2 c2] W fun e w'=>e=.returned (.int .i64 0)∧Below W.heap.size W w'):=fun W hb=>by
  have h:=check_any es A2 l2 c2 W (hL.below hb).e (h2.below hb).len (h2.below hb).cap (h2.below hb).max (h2.below hb).rd hf;rw[hz] at h;exact h
 have OQ:Hid (∀W,Below w.heap.size w W→Calls Tryz.prog 105 #[.slice A2 l2 c2] W (Iz true (iY es) W)):=fun W hb=>by
  have h:=NW es A2 l2 c2 W (hL.below hb).e (h2.below hb) hf;rw[hz,if_pos rfl] at h;exact h
 have Ur:=zH (fun j hj=>Oi hz j hj);have h60:=(wW hz).2
 have ni:Hid (∀W nd,Below w.heap.size w W→Calls Tryz.prog 157 #[.slice A1 k1 c1,Nd.v nd] W fun e w'=>Rf (pW sg nd) e∧Below W.heap.size W w'):=fun W nd hb=>
  Zf sg A1 k1 c1 nd W (hL.below hb) hk1 hm1 (hr1.below hb)
 have vO:Hid ((iY es).length=es.length):=nY _ _ _;obtain⟨res,hres⟩:∃r,r=eG sg es:=⟨_,rfl⟩
 have CV:Hid (lY sg es (iY es) []=res):=by show _=_;rw[hres];unfold eG;rw[if_pos hz]
 rw[←hres];have H2:=zH h2;have HL:Hid (∀W,Below w.heap.size w W→bZ W):=fun W hb=>hL.below hb
 have hl2:l2≤60:=by rw[h2.len];exact h60
 generalize iY es=yT at*;clear hL hk1 hm1 hr1 h2 hf hz h60 hres;have hmf:=uz;obtain⟨W,hW⟩:=zE ((w.alloc (.cells #[.slice none 0 0] 168)).alloc (.cells #[.int .i64 0] 50));have jY:=Bg w 168 50 #[.slice none 0 0] #[.int .i64 0];rw[←hW] at jY;obtain⟨hk0,hk1,hba,hsz⟩:=jY;clear hsz;obtain⟨B,hB⟩:=zE w.heap.size;rw[←hB] at hk0 hk1;have HB:=zH hB;have iJ:=zH hk0;have jL:=zH hk1;have aK:=zH hba;clear hk0 hk1 hba
 go_enter_defers Tryz.func116,Tryz.ntmps116
 go_wp2_with fail;simp only[←hW,←hB]
 clear hW hB;refine (HC.out W aK.out).mono ?_;rintro e w5 ⟨rfl,hb5⟩;replace iJ:=zH (iJ.out.below hb5 iJ.out.lt);replace jL:=zH (jL.out.below hb5 jL.out.lt);replace aK:=zH (ah aK.out hb5);clear hb5 HC;go_wp2_with fail;refine (OQ.out w5 aK.out).mono ?_;rintro e w6 ⟨A6,n6,c6,rfl,hag,hb6,adv,cs6,adw,adx⟩;have eF:Hid (B+1<w5.heap.size):=jL.out.lt;replace iJ:=zH (iJ.out.below hb6 iJ.out.lt);replace jL:=zH (jL.out.below hb6 jL.out.lt);replace aK:=zH (ah aK.out hb6);have HN6:=zH hag.len;have qB:=zH adv;have qw:=zH adw;have Ac:=zH adx;have HS6:Hid (w5.heap.size≤w6.heap.size):=hb6.size;clear hag hb6 adv adw adx OQ;go_wp2_with fail;refine (Ug w6 (HL.out _ aK.out)).mono ?_;rintro e w7 ⟨⟨rb,rfl,hru⟩,hb7⟩;replace iJ:=zH (iJ.out.below hb7 iJ.out.lt);replace jL:=zH (jL.out.below hb7 jL.out.lt);replace aK:=zH (ah aK.out hb7);have HRU:=zH hru;have Ll:Hid (aJ B w6 w7):=aJ.of_below hb7;clear hru hb7;go_wp2
 go_loopg [32] l2 (fun g iv wr=>∃(j:Nat) (ts:List Ty) (v:Value),j+g=l2∧iv=.int .i64 j∧ts.length=j∧Hid (lY sg (es.drop j) (yT.drop j) ts=res)∧Hid (∀t∈ts,aN t=true)∧
  Hid (aj wr B 168 [v])∧Hid (aj wr (B+1) 50 [.int .i64 0])∧Hid (wr.ownsRow w7.heap.size 32 3 v j (tys ts))∧Hid (aJ B w7 wr)∧Hid (Below w.heap.size w wr))
 case atStart=>exact⟨0,[],.slice none 0 0,by omega,rfl,rfl,CV.out,(fun t h=>by cases h),iJ,jL,World.ownsRow_nil _ _ _ _,aJ.refl _ _,aK⟩
 case round=>
  obtain⟨j,ts,v,hj,rfl,htl,hty,hrt,hk0,hk1,hown,hon,hbr⟩:=hrel;clear iJ jL aK CV;by_cases hlt:j<l2
  ·have hje:j<es.length:=by rw[←H2.out.len];exact hlt
   obtain⟨row,hrow,hrl,hrx,hwn⟩:=Ur.out j hje;have hdE:=List.drop_eq_getElem_cons hje
   have hdA:yT.drop j=row::yT.drop (j+1):=by
    have hja:j<yT.length:=by rw[vO.out];exact hje
    rw[List.drop_eq_getElem_cons hja];rw[List.getElem?_eq_getElem hja] at hrow;injection hrow with hrow;rw[hrow]
   have Zx:=hty.out;rw[hdE,hdA] at Zx;obtain⟨hop1,hop2⟩:=Oj hwn;obtain⟨b,off,hA,hb,hc0,hc1,hc2,hc3,hc4⟩:=(H2.out.rd.below hbr.out).nd hje;subst hA;generalize es[j]=nd at*;obtain⟨op,⟨neg,num,den⟩,nm⟩:=nd;simp only at hc0 hc1 hc2 hc3 hc4 hop1 hop2 hrl;obtain⟨p,rfl⟩:∃p:Nat,op=p:=⟨op.toNat,by omega⟩
   have yU:=zH Zx;have HRX:=zH hrx;have HRL:=zH hrl;obtain⟨vr,yV,hrow1⟩:=(Ac.out.step (X':=fun _=>False) (Ll.out.trans hon.out).grown (fun g h=>by injection h with h;subst h;have:=eF.out;show _<_;omega) (fun g h=>h.elim)).row j row hrow;clear hdE hdA Zx hty hwn hrx hrl;obtain⟨hlo,hrb,hrk⟩:=HRU.out.keeps (Keeps.iP hon.out (by have:=eF.out;have:=HS6.out;omega));obtain⟨f,hq0,hq1,hrv⟩:=hrk p (by omega) (by omega);rw[Nat.mul_comm] at hq0 hq1;have jY:=Bg wr 48 32 #[.int .i64 (p:Int),.bool neg,.string num,.string den,.string nm] #[.bool false,.int .i64 0,.int .i64 0];obtain⟨WB,hWB⟩:=zE ((wr.alloc (.cells #[.int .i64 (p:Int),.bool neg,.string num,.string den,.string nm] 48)).alloc (.cells #[.bool false,.int .i64 0,.int .i64 0] 32));obtain⟨N,hN⟩:=zE wr.heap.size;rw[←hWB,←hN] at jY;obtain⟨hn0,hn1,hnb,hsz⟩:=jY;rw[hN] at hnb;have ql:=zH hq0;have ji:=zH hq1;have HRV:=zH hrv;have IV:=zH hrb;have Xt:=zH hn0;have CQ:=zH hn1;have jc:=zH hnb;have yS:=zH hN;clear hsz hlo hrk hq0 hq1 hrv hrb hn0 hn1 hnb
   go_upto_region 12 with fail
   simp only[←hWB,←hN]
   clear hWB hN hc0 hc1 hc2 hc3 hc4;have hn0:=Xt.out.cells;have hq0:=(jc.out.cell IV.out).trans ql.out;obtain⟨sb,hsb⟩:=zF (sN (p:Int));rw[hsb] at hq0;have jh:=zH hsb;clear hsb
   go_upto_if 42 with fail
   clear hn0 hq0
   go_cut [42] from 42 to 45 (fun qv wc=>∃own:Ty,Hid (qQ sg ⟨(p:Int),⟨neg,num,den⟩,nm⟩=some own)∧Hid (aj wc N 48 [.int .i64 (p:Int),.bool neg,.string num,.string den,.string nm])∧Hid (aj wc (N+1) 32 own.cells)∧Hid (Below wr.heap.size wr wc))
   case first=>
    have hn0:=Xt.out.cells;cases sb
    ·go_wp2
     go_meet
     case rel=>exact⟨aI,(by show _=_;unfold qQ;rw[if_neg (by rw[jh.out];simp)]),Xt,CQ,jc⟩
    ·go_wp2_with fail;refine (ni.out _ ⟨(p:Int),⟨neg,num,den⟩,nm⟩ (ah hbr.out jc.out)).mono ?_;rintro e w9 ⟨hsp,eP⟩;obtain⟨q,hq⟩:=zF (pW sg ⟨(p:Int),⟨neg,num,den⟩,nm⟩);rw[hq] at hsp;have hot:qQ sg ⟨(p:Int),⟨neg,num,den⟩,nm⟩=q:=by unfold qQ;rw[if_pos jh.out,hq]
     cases q with
     |none=>
      obtain rfl:e=.panicked (Bc 12):=hsp;obtain rfl:res=([],12):=by rw[←yU.out,KX hot]
      have hk0':=hk0.out.below (ah jc.out eP) hk0.out.lt;have AP:=hk1.out.below (ah jc.out eP) hk1.out.lt;have gu:Hid (Below w.heap.size w w9):=ah hbr.out (ah jc.out eP);clear eP hq hot hn0;go_wp2;exact FN 12 w w9 B _ _ _ hk0' AP HB.out gu.out rfl rfl
     |some t=>
      obtain rfl:e=.returned t.v:=hsp;obtain⟨tt,tm,td⟩:=t;have hn1':=CQ.out.below eP CQ.out.lt;have ajb:=hn1'.cells;have ajc:=hn1'.aF;have agO:=zH (Xt.out.below eP Xt.out.lt);have agP:=zH hn1';have lG:=zH (ah jc.out eP);have Xu:=zH hot;clear eP hn1' hq hot hn0;unfold Ty.v;go_wp2
      go_meet
      case rel=>
       refine⟨⟨tt,tm,td⟩,Xu,?_,?_,?_⟩
       ·exact ((agO.out.other (by show N≠N+1;omega) _).other (by show N≠N+1;omega) _).other (by show N≠N+1;omega) _
       ·exact ((agP.out.set 0 _).set 1 _).set 2 _
       ·exact eu (B:=N+1) lG.out (by have:=yS.out;omega) _ _ _
   case rest=>
    obtain⟨own,hot,hm0,hm1,hbc⟩:=hcut;have hor:=zH (IJ hot.out);obtain⟨Ar,cr,rfl,hr1,hr2,hrd,_⟩:=hrow1;obtain⟨b6,o6,hA6,hb6,hc6⟩:=qw.out.at_ (k:=j) (by rw[Ac.out.len,vO.out];exact hje);replace hc6:=hc6 j (by rw[Ac.out.len,vO.out];exact hje)
    have hv6:cs6[j]'(by rw[Ac.out.len,vO.out];exact hje)=.slice Ar row.length cr:=by
     rw[List.getElem?_eq_getElem (by rw[Ac.out.len,vO.out];exact hje)] at yV;injection yV
    rw[hv6] at hc6;have adA:b6≠B:=by have h1:=qB.out _ hA6;have h2:=eF.out;show b6≠B;have h3:w5.heap.size≤b6:=h1;omega
    have ajd:wc.cell? ⟨b6,o6+j,none⟩=some (.slice Ar row.length cr):=by
     rw[hbc.out.cell (Nat.lt_of_lt_of_le hb6 (Ll.out.trans hon.out).size),World.cell?_of_block ((Ll.out.trans hon.out).block b6 hb6 adA)];exact hc6
    subst hA6;have hjn:j<n6:=by rw[HN6.out,vO.out];exact hje
    have DN:=hm0;have jU:=hm1;have DR:=hbc;have Xu:=hot;have iJ:Hid (aj wc B 168 [v]):=hk0.out.below hbc.out hk0.out.lt;have jL:Hid (aj wc (B+1) 50 [.int .i64 0]):=hk1.out.below hbc.out hk1.out.lt;have HOW:Hid (wc.ownsRow w7.heap.size 32 3 v j (tys ts)):=own_below hown.out hbc.out;have HRW:Hid (Rd wc Ar (I row)):=hrd.below hbc.out;have hrow3:row.length≤3:=by rw[HRL.out];exact OO _
    clear hot hm0 hm1 hbc hrd hv6 hc6 yV hb6 adA hk0 hk1 hown hrow;go_wp2
    go_loopg [13,51] row.length (fun g lv iv wq=>∃i:Nat,i+g=row.length∧iv=.int .i64 i∧Hid (wq.ownsRow wc.heap.size 32 3 lv i (tys (rowT ts (row.take i))))∧Hid (Below wc.heap.size wc wq))
    case atStart=>exact⟨0,by omega,rfl,World.ownsRow_nil _ _ _ _,Below.refl _ _⟩
    case round=>
     obtain⟨i,hi,rfl,hol,hbq⟩:=hrel;by_cases hil:i<row.length
     ·have hxj:row[i]<j:=HRX.out _ (List.getElem_mem hil);obtain⟨br,orr,rfl,agQ,hcr⟩:=HRW.out.i hil;have hgd:row.getD i 0=row[i]:=by rw[List.getD_eq_getElem?_getD,List.getElem?_eq_getElem hil];rfl
      rw[hgd] at hcr;obtain⟨Av,cv,rfl,hv1,hv2,yV,hvl⟩:=bM HOW.out;have hxt:row[i]<ts.length:=by rw[htl];exact hxj
      obtain⟨bv,ov,rfl,hbv,hx0,hx1,hx2⟩:=yV.ty hxt
      have HST:Hid (tys (rowT ts (row.take (i+1)))=tys (rowT ts (row.take i))++Ty.cells ts[row[i]]):=by
       show _=_;rw[List.take_succ_eq_append_getElem hil];unfold rowT;rw[List.map_append,wZ];congr 1;show Ty.cells (ts.getD row[i] aI)++[]=_;rw[List.append_nil,List.getD_eq_getElem?_getD,List.getElem?_eq_getElem hxt];rfl
      generalize ts[row[i]]=tx at*;obtain⟨tt,tm,td⟩:=tx;generalize row[i]=x at*;have adB:wr.cell? ⟨B,0,none⟩=some (.slice (some ⟨bv,ov,none⟩) j cv):=(hbq.out.cell iJ.out.lt).trans (iJ.out.cells 0);have aje:=(hbq.out.cell agQ).trans hcr;have hx0':=(hbq.out.cell hbv).trans hx0;have agR:=(hbq.out.cell hbv).trans hx1;have agS:=(hbq.out.cell hbv).trans hx2;simp only at hx0' agR agS;clear hx0 hx1 hx2 hcr yV hvl hxt hgd;go_wp2_with (at_builtin;go_must (refine dh wr #[.bool tt,.int .i64 tm,.int .i64 td] rfl _ _ 168 rfl wc.heap.size 32 _ 3 24 1 Tryz.underlying168 EP rfl (by decide) u13 i (tys (rowT ts (row.take i))) rfl hol.out rfl rfl ?_ ?_ ?_ ?_ ?_))
      any_goals first|(unfold maxLen;omega)|omega
      ·exact⟨rfl,rfl,rfl⟩
      ·exact hbq.out.size
      intro v' w' hown' hb';have wQ:Hid (w'.ownsRow wc.heap.size 32 3 v' (i+1) (tys (rowT ts (row.take (i+1))))):=by show World.ownsRow _ _ _ _ _ _ _;rw[HST.out];exact hown'
      have CU:=zH (hbq.out.trans hb');clear hown' hb';go_wp2
      go_roundg (row.length-(i+1))
      case measure=>omega
      case rel=>exact⟨i+1,by omega,by go_num,wQ,CU⟩
     ·have hie:i=row.length:=by omega
      have Zy:=hol.out;rw[hie,List.take_length] at Zy;clear hol;have agT:=zH (ah hbr.out (ah DR.out hbq.out));obtain⟨g,lb,rfl,heg,hcall⟩:=HRV.out.keeps (Keeps.of (ah DR.out hbq.out) _);obtain⟨Al,cl,rfl,hl1,agU,hlr,_⟩:=bM Zy
      have OT:=zH (fun W hb=>hcall own (rowT ts row) Al row.length cl W (Keeps.of hb _) (HL.out _ (ah agT.out hb)) (by unfold rowT;rw[List.length_map]) hl1 (Nat.le_trans hl1 agU) (hlr.below hb)
       (fun t ht=>by unfold rowT at ht;obtain⟨k,_,rfl⟩:=List.mem_map.1 ht;exact sS hrt.out k) (by unfold rowT;rw[List.length_map];exact HRL.out))
      obtain⟨rt,Zz⟩:=zE ((dU (p:Int) own (rowT ts row)).1);obtain⟨ok,hok⟩:=zE ((dU (p:Int) own (rowT ts row)).2);rw[←Zz,←hok] at OT;have iH:=zH Zz;have iU:=zH hok;obtain⟨ra,rm,rd'⟩:=rt;obtain⟨oa,om,od⟩:=own;have hq1:=((ah DR.out hbq.out).cell IV.out).trans ji.out;have hn0:wr.cell? ⟨N,0,none⟩=some (.int .i64 (p:Int)):=(hbq.out.cell DN.out.lt).trans (DN.out.cells 0);have ho0:wr.cell? ⟨N+1,0,none⟩=some (.bool oa):=(hbq.out.cell jU.out.lt).trans (jU.out.cells 0);have ho1:wr.cell? ⟨N+1,1,none⟩=some (.int .i64 om):=(hbq.out.cell jU.out.lt).trans (jU.out.cells 1);have ho2:wr.cell? ⟨N+1,2,none⟩=some (.int .i64 od):=(hbq.out.cell jU.out.lt).trans (jU.out.cells 2);have aaM:Hid (∀W,Below wr.heap.size wr W→Calls Tryz.prog g (#[.agg #[.bool oa,.int .i64 om,.int .i64 od],.slice Al row.length cl]++lb) W fun e w'=>e=.returned (.tuple #[.agg #[.bool ra,.int .i64 rm,.int .i64 rd'],.bool ok])∧Below W.heap.size W w'):=OT.out
      have dW:Hid (∀W,Below wr.heap.size wr W→Below wr.heap.size wr W∧W.cell? ⟨N,0,none⟩=some (.int .i64 (p:Int))∧W.cell? ⟨rb,p*2+1,none⟩=some (.func (.func g) #[] lb)∧W.cell? ⟨N+1,0,none⟩=some (.bool oa)∧W.cell? ⟨N+1,1,none⟩=some (.int .i64 om)∧W.cell? ⟨N+1,2,none⟩=some (.int .i64 od)):=fun W hb=>
       ⟨hb,(hb.cell (Nat.lt_of_lt_of_le DN.out.lt hbq.out.size)).trans hn0,(hb.cell (Nat.lt_of_lt_of_le IV.out (ah DR.out hbq.out).size)).trans hq1,(hb.cell (Nat.lt_of_lt_of_le jU.out.lt hbq.out.size)).trans ho0,(hb.cell (Nat.lt_of_lt_of_le jU.out.lt hbq.out.size)).trans ho1,(hb.cell (Nat.lt_of_lt_of_le jU.out.lt hbq.out.size)).trans ho2⟩
      clear Zz hok hcall OT hlr hn0 hq1 ho0 ho1 ho2;have ajf:(p:Int)<25:=by omega
      go_upto_region 19 with fail
      go_cut [16,17] from 33 to 74 (fun pv okv wy=>∃b9:Nat,pv=.pointer (some ⟨b9,0,none⟩)∧okv=.bool ok∧Hid (aj wy b9 32 [.bool ra,.int .i64 rm,.int .i64 rd'])∧Hid (Below wr.heap.size wr wy))
      case first=>
       refine wp_region_noPanic ?_;refine wp_region_held_drew (S:=(fun w'=>Below wr.heap.size wr w'∧w'.cell? ⟨N,0,none⟩=some (.int .i64 (p:Int))∧w'.cell? ⟨rb,p*2+1,none⟩=some (.func (.func g) #[] lb)∧w'.cell? ⟨N+1,0,none⟩=some (.bool oa)∧w'.cell? ⟨N+1,1,none⟩=some (.int .i64 om)∧w'.cell? ⟨N+1,2,none⟩=some (.int .i64 od))) (by kernel_rfl) (dW.out _ (ak wr.heap.size wr 1)) (fun hHeld=>?_);refine ay 0 ?_;refine ay 1 ?_;refine ay 2 ?_;refine ay 3 ?_;refine ay 4 ?_;refine ay 5 ?_;refine ay 6 ?_;refine ay 7 ?_;refine Ap 8 12 (fun K hK=>?_) fun K hK=>?_
       ·skip
        go_simp;have hbS:=hHeld.1;refine (aaM.out _ hbS).mono ?_;rintro e w10 ⟨rfl,dA⟩;have dO:=zH (ah hbS dA);go_wp2_with fail;refine aT hK (dW.out _ (dO.out)) fun hHeld=>?_
        clear hK K;refine ay 9 ?_;refine ay 10 ?_;refine ay 11 ?_;refine bJ 12 fun K hK=>?_
        go_simp;go_wp2_with fail;refine aT hK (dW.out _ (ah dO.out (zB _ _))) fun hHeld=>?_
        clear hK K;refine bJ 13 fun K hK=>?_
        go_simp;go_wp2_with fail;refine aT hK (dW.out _ (ah dO.out (zB _ _))) fun hHeld=>?_
        clear hK K;refine ay 14 ?_;refine wpAnyH_done (by kernel_rfl) ?_ _;refine NoPanic.normal ?_;go_wp2
        go_meet
        case rel=>exact⟨_,rfl,rfl,aj.new _ _ _,ah dO.out (zB _ _)⟩
       ·skip
        go_simp;go_wp2_with fail;refine aT hK (dW.out _ (below_drewN (zB _ _) 1)) fun hHeld=>?_
        clear hK K;refine bJ 8 fun K hK=>?_
        go_simp;have hbS:=hHeld.1;refine (aaM.out _ hbS).mono ?_;rintro e w10 ⟨rfl,dA⟩;have dO:=zH (ah hbS dA);have HBM:=zH (((aj.new wr 32 #[.bool false,.int .i64 0,.int .i64 0]).drewN 1).below dA ((aj.new wr _ _).drewN 1).lt);have hcm:=HBM.out.cells;have hfm:=HBM.out.aF;go_wp2_with fail;refine aT hK (dW.out _ dO.out) fun hHeld=>?_
        clear hK K;refine ay 9 ?_;refine ay 10 ?_;refine ay 11 ?_;refine bJ 13 fun K hK=>?_
        go_simp;go_wp2_with fail;refine aT hK (dW.out _ (eu (B:=wr.heap.size) dO.out (Nat.le_refl _) _ _ _)) fun hHeld=>?_
        clear hK K;refine ay 14 ?_;refine wpAnyH_done (by kernel_rfl) ?_ _;refine NoPanic.normal ?_;go_wp2
        go_meet
        case rel=>exact⟨_,rfl,rfl,((HBM.out.set 0 _).set 1 _).set 2 _,eu (B:=wr.heap.size) dO.out (Nat.le_refl _) _ _ _⟩
      case rest=>
       obtain⟨b9,rfl,rfl,hk9,hby⟩:=hcut;have HBY:=zH (ah DR.out (ah hbq.out hby.out));have Us:=iJ.out.below (ah hbq.out hby.out) iJ.out.lt;have ZA:=jL.out.below (ah hbq.out hby.out) jL.out.lt;have HRO:=Xu;cases ok
       ·obtain rfl:res=([],13):=by rw[←yU.out,Ol Xu.out iU.out.symm]
        have gu:=zH (ah hbr.out HBY.out);clear hby hk9;go_wp2;exact FN 13 w wc B _ _ _ Us ZA HB.out gu.out rfl rfl
       ·have agV:Hid (lY sg (es.drop (j+1)) (yT.drop (j+1)) (ts++[⟨ra,rm,rd'⟩])=res):=by
         show _=_;rw[←yU.out,KW Xu.out iU.out.symm,←iH.out]
        have HRR:Hid (aN ⟨ra,rm,rd'⟩=true):=by
         show _=_;rw[iH.out];exact FM _ _ _ hor.out (fun t ht=>by unfold rowT at ht;obtain⟨k,_,rfl⟩:=List.mem_map.1 ht;exact sS hrt.out k) iU.out.symm
        have agW:Hid (wc.ownsRow w7.heap.size 32 3 v j (tys ts)):=own_below HOW.out (ah hbq.out hby.out);have agX:=hk9.out.cells;have adB:wc.cell? ⟨B,0,none⟩=some v:=Us.cells 0;have HD:Hid (B+1<w7.heap.size):=by have h1:=eF.out;have h2:=HS6.out;have h3:=Ll.out.size;show _<_;omega
        have HSY:Hid (w7.heap.size≤wc.heap.size):=Nat.le_trans hon.out.size HBY.out.size;have agY:=zH Us;have agZ:=zH ZA;clear Us ZA hby hk9 Zy;go_wp2_with (at_builtin;go_must (refine dh wc #[.bool ra,.int .i64 rm,.int .i64 rd'] rfl _ _ 168 rfl w7.heap.size 32 _ 3 24 1 Tryz.underlying168 EP rfl (by decide) v j (tys ts) rfl agW.out rfl rfl ?_ ?_ ?_ ?_ ?_))
        any_goals first|(unfold maxLen;omega)|omega
        ·exact⟨rfl,rfl,rfl⟩
        ·exact HSY.out
        intro v' w' hown' hb';obtain⟨Av',cv',rfl,_⟩:=bM hown';have hk0':aj w' B 168 [v]:=agY.out.of_block (hb'.block B (by have:=HD.out;omega));have AP:aj w' (B+1) 50 [.int .i64 0]:=agZ.out.of_block (hb'.block (B+1) HD.out);have aiV:w'.cell? ⟨B,0,none⟩=some v:=hk0'.cells 0;have aiW:=hk0'.aF;have OM:=zH hk0';have Un:=zH AP;have D8:=zH hb';have HOWN':=zH hown';clear hk0' AP hb' hown' adB agX;go_wp2
        go_roundg (l2-(j+1))
        case measure=>omega
        case rel=>
         have hgs:=lM w' B 0 (.slice Av' (j+1) cv');refine⟨j+1,ts++[⟨ra,rm,rd'⟩],.slice Av' (j+1) cv',by omega,by go_num,by rw[List.length_append,htl];rfl,agV,?_,OM.out.set 0 _,Un.out.other (by show B+1≠B;omega) _,?_,?_,?_⟩
         ·intro t ht;rcases List.mem_append.1 ht with ht|ht
          ·exact hrt.out t ht
          ·rw[List.mem_singleton.1 ht];exact HRR.out
         ·show World.ownsRow _ _ _ _ _ _ _;rw[wZ];refine HOWN'.out.kept hgs ?_;cases hv:(Value.slice Av' (j+1) cv').ownBlock with
          |none=>exact .inl rfl
          |some g=>exact .inr (fun h=>by have h1:=(HOWN'.out.lt g hv).1;have h2:g=B:=Option.some.inj h;have:=HD.out;omega)
         ·exact (((hon.out.more (HBY.out.mono hon.out.size)).more (D8.out)).set 0 _)
         ·exact (((ah hbr.out HBY.out).trans (D8.out.mono (by have h1:=HB.out;have:=HD.out;omega))).setCell (p:=⟨B,0,none⟩) (by show _≤B;have h1:=HB.out;omega) _)
  ·obtain rfl:j=l2:=by omega
   have hres:res=(ts,0):=by
    rw[←hty.out,H2.out.len,List.drop_length];cases yT.drop es.length<;>rfl
   subst hres;obtain⟨Av,cv,rfl,hv1,hv2,yV,hvl⟩:=bM hown.out;have hc0:wr.cell? ⟨B,0,none⟩=some (.slice Av j cv):=hk0.out.cells 0;have hc1:wr.cell? ⟨B+1,0,none⟩=some (.int .i64 0):=hk1.out.cells 0;have hf0:=hk0.out.aF;have hf1:=hk1.out.aF
   have yS:Hid (∀ad,Av=some ad→w7.heap.size≤ad.block):=by
    obtain⟨A',c',hv,_,_,_,h4⟩:=zO hown.out;injection hv with e1 e2 e3;show ∀ad,_→_;rw[e1];exact h4
   have HD:Hid (B+1<w7.heap.size):=by have h1:=eF.out;have h2:=HS6.out;have h3:=Ll.out.size;show _<_;omega
   have bF:Hid (∀u u',Below w.heap.size w ((wr.setCell ⟨B,0,none⟩ u).setCell ⟨B+1,0,none⟩ u')):=fun u u'=>
    (hbr.out.setCell (p:=⟨B,0,none⟩) (by show _≤B;have:=HB.out;omega) u).setCell (p:=⟨B+1,0,none⟩) (by show _≤B+1;have:=HB.out;omega) u'
   have Xv:=zH yV;clear yV hvl hown hty hbr hk0 hk1;go_wp2;refine leaves_cons (f:=155) (args:=#[.pointer (some ⟨B,0,none⟩),.pointer (some ⟨B+1,0,none⟩)]) (by simp) (by simp[go_sem]) ?_;refine (Qo B (B+1) _).mono ?_;rintro e u' w7 ⟨rfl,rfl,rfl⟩
   have hd0:((wr.setCell ⟨B,0,none⟩ (.slice Av j cv)).setCell ⟨B+1,0,none⟩ (.int .i64 0)).cell? ⟨B,0,none⟩=some (.slice Av j cv):=by
    rw[World.cell?_setCell_other _ _ _ _ (by simp)];exact World.cell?_setCell_same' _ _ _ (by rw[hc0];rfl)
   have hd1:((wr.setCell ⟨B,0,none⟩ (.slice Av j cv)).setCell ⟨B+1,0,none⟩ (.int .i64 0)).cell? ⟨B+1,0,none⟩=some (.int .i64 0):=
    World.cell?_setCell_same' _ _ _ (by rw[World.cell?_setCell_other _ _ _ _ (by simp),hc1];rfl)
   simp[Leaves,settle,results,Tryz.results116,go_sem,hd0,hd1];refine⟨Av,j,cv,rfl,htl.symm,hv1,hv2,?_,bF.out _ _⟩;exact Bq (Bq Xv.out ⟨B,0,none⟩ _ (fun ad h=>by have h1:=yS.out ad h;have:=HD.out;show ad.block≠B;omega)) ⟨B+1,0,none⟩ _ (fun ad h=>by have h1:=yS.out ad h;have:=HD.out;show ad.block≠B+1;omega)
theorem Ut (sg:List Sg) (es:List Nd) (A1 A2:Option Addr) (k1 c1 l2 c2:Nat) (w:World) (hL:bZ w) (hk1:k1=sg.length) (hm1:k1≤maxLen) (hr1:Rd w A1 (kM sg)) (h2:Es w es A2 l2 c2) (hf:∀n∈es,Fine n):
  Calls Tryz.prog 116 #[.slice A1 k1 c1,.slice A2 l2 c2] w (oW (eG sg es) w):=by
 by_cases hz:bC es=0
 ·exact Xr sg es A1 A2 k1 c1 l2 c2 w hL hk1 hm1 hr1 h2 hf hz
 ·exact Oq sg es A1 A2 k1 c1 l2 c2 w hL h2 hf hz
theorem IW {sg:List Sg} {es:List Nd} (h:(eG sg es).2=0):0<(eG sg es).1.length:=by
 by_cases hz:bC es=0
 ·unfold eG at h⊢;rw[if_pos hz] at h⊢;rw[Om es (iY es) [] (nY _ _ _) h];have:=(wW hz).1;simp;omega
 ·unfold eG at h;rw[if_neg hz] at h;exact absurd h hz
theorem Xw (sg:List Sg) (es:List Nd) (A1 A2:Option Addr) (k1 c1 l2 c2:Nat) (w:World) (hL:bZ w) (hk1:k1=sg.length) (hm1:k1≤maxLen) (hr1:Rd w A1 (kM sg)) (h2:Es w es A2 l2 c2) (hf:∀n∈es,Fine n):
  Calls Tryz.prog 72 #[.slice A1 k1 c1,.slice A2 l2 c2] w fun e w'=>e=.returned (.tuple #[(iK sg es).1.v,.int .i64 (iK sg es).2])∧Below w.heap.size w w':=by
 have HT:=zH (fun W hb=>Ut sg es A1 A2 k1 c1 l2 c2 W (hL.below hb) hk1 hm1 (hr1.below hb) (h2.below hb) hf);have HP:=zH (IW (sg:=sg) (es:=es));have HE:Hid (iK sg es=(let r:=eG sg es;if r.2=0 then (r.1.getD (r.1.length-1) aI,0) else (aI,r.2))):=rfl;have BN:Hid ((eG sg es).2=0→iK sg es=((eG sg es).1.getD ((eG sg es).1.length-1) aI,0)):=fun h=>by rw[HE.out];simp only;rw[if_pos h]
 have jE:Hid ((eG sg es).2≠0→iK sg es=(aI,(eG sg es).2)):=fun h=>by rw[HE.out];simp only;rw[if_neg h]
 generalize iK sg es=R at*;generalize eG sg es=r at*;obtain⟨ts,z⟩:=r;clear HE hL hk1 hm1 hr1 h2 hf;obtain⟨W,hW⟩:=zE (w.alloc (.cells #[.bool false,.int .i64 0,.int .i64 0] 32));obtain⟨B,hB⟩:=zE w.heap.size;have hk0:aj W B 32 [.bool false,.int .i64 0,.int .i64 0]:=by rw[hW,hB];exact aj.new w _ _
 have hba:Below w.heap.size w W:=by rw[hW];exact zB _ _
 have HB:=zH hB;have iJ:=zH hk0;have aK:=zH hba;clear hk0 hba;go_enter Tryz.func72,Tryz.ntmps72;go_wp2_with fail;simp only[←hW,←hB]
 clear hW hB;refine (HT.out W aK.out).mono ?_;rintro e w5 ⟨A,n,c,rfl,hn,hnc,hcm,hrd,hb5⟩;have hk0:=iJ.out.below hb5 iJ.out.lt;have hkc:=hk0.cells;have rO:=hk0.aF;have bF:=zH (ah aK.out hb5);replace hn:n=ts.length:=hn;replace hrd:Rd w5 A (tys ts):=hrd;simp only
 have adD:Hid (∀u0 u1 u2,Below w.heap.size w (((w5.setCell ⟨B,0,none⟩ u0).setCell ⟨B,1,none⟩ u1).setCell ⟨B,2,none⟩ u2)):=fun u0 u1 u2=>eu (B:=B) bF.out (by have:=HB.out;omega) _ _ _
 clear hb5 hk0;by_cases hz:z=0
 ·subst hz;have hp:0<ts.length:=HP.out rfl;have hlast:n-1<ts.length:=by omega
  obtain⟨b,off,hA,hbb,hx0,hx1,hx2⟩:=hrd.ty hlast;subst hA;have l7:Hid (ts.getD (ts.length-1) aI=ts[n-1]):=by show _=_;rw[←hn,List.getD_eq_getElem?_getD,List.getElem?_eq_getElem hlast];rfl
  generalize ts[n-1]=tx at hx0 hx1 hx2 l7;obtain rfl:R=(tx,0):=by rw[←l7.out];exact BN.out rfl
  clear BN jE l7;obtain⟨tt,tm,td⟩:=tx;simp only at hx0 hx1 hx2;have hw1:IntKind.i64.wrap ((n:Int)-1)=((n-1:Nat):Int):=by rw[IntWalk.i64_in _ (by unfold maxLen at hcm;omega)];omega
  have hn1:n-1<n:=by omega
  generalize n-1=m at*;have HN:=zH hn;clear hrd hp hlast hn hcm;go_wp2;refine bodyPost_ret (v:=.tuple #[.agg #[.bool tt,.int .i64 tm,.int .i64 td],.int .i64 0]) (by simp[results,Tryz.results72,go_sem,hkc]) rfl ⟨rfl,?_⟩;exact adD.out _ _ _
 ·have hzb:(z !=0)=true:=by simp[hz]
  have hzc:(z==0)=false:=by simp[hz]
  obtain rfl:R=(aI,z):=jE.out hz;have HN:=zH hn;clear hz hn hrd;go_wp2;refine bodyPost_ret (v:=.tuple #[.agg #[.bool false,.int .i64 0,.int .i64 0],.int .i64 z]) (by simp[results,Tryz.results72,go_sem,hkc]) rfl ⟨rfl,?_⟩;exact adD.out _ _ _
structure Bk where
 fr:Ra
 rt:Ra
deriving DecidableEq
def Bk.cells (b:Bk):List Value:=[.bool b.fr.neg,.string b.fr.num,.string b.fr.den,.bool b.rt.neg,.string b.rt.num,.string b.rt.den]
def bks (l:List Bk):List Value:=l.flatMap Bk.cells
def iw (a:Ra):Prop:=a.num.size≤1048576∧a.den.size≤1048576
def oL (b:Bk):Prop:=iw b.fr∧iw b.rt
def IX (k:Nat) (p b:Bk):Bool:= !okR b.fr|| !okR b.rt||(if k=0 then decide (dV b.fr≠0) else decide (0≤lX p.fr b.fr))
def sW:Nat→Bk→List Bk→Bool
 |_,_,[]=>false
 |k,p,b::r=>IX k p b||sW (k+1) b r
def jV (b:Bk):Bool:= !dJ b.fr|| !dJ b.rt
def fF (l:List Bk):Int:=if 8<l.length then 2 else if l.length=0 then 11 else if sW 0 ⟨zR,zR⟩ l then 11 else if l.any jV then 3 else 0
theorem Qq (b:Bk) (hf:oL b) (w:World):Calls Tryz.prog 70 #[.agg (Bk.cells b).toArray] w fun e w'=>e=.returned (.bool (jV b))∧Below w.heap.size w w':=by
 obtain⟨⟨h1,h2⟩,h3,h4⟩:=hf;have HA:=zH (fun W=>vG b.fr W (by omega) (by omega));have HB:=zH (fun W=>vG b.rt W (by omega) (by omega));have HU:Hid (jV b=(!dJ b.fr|| !dJ b.rt)):=rfl;obtain⟨⟨an,am,ad⟩,⟨bn,bm,bd⟩⟩:=b;unfold Bk.cells;simp only[Ra.v] at HA HB HU⊢;generalize dJ ⟨an,am,ad⟩=fa at*;generalize dJ ⟨bn,bm,bd⟩=fb at*;rw[HU.out];clear HU h1 h2 h3 h4;obtain⟨W,hW⟩:=zE (w.alloc (.cells #[.bool an,.string am,.string ad,.bool bn,.string bm,.string bd] 42));obtain⟨B,hB⟩:=zE w.heap.size;have hk0:aj W B 42 [.bool an,.string am,.string ad,.bool bn,.string bm,.string bd]:=by rw[hW,hB];exact aj.new w _ _
 have hba:Below w.heap.size w W:=by rw[hW];exact zB _ _
 have iJ:=zH hk0;have aK:=zH hba;have hkc:=hk0.cells;clear hk0 hba;cases fa
 ·go_enter Tryz.func70,Tryz.ntmps70;go_wp2_with fail;simp only[←hW,←hB]
  clear hW hB;go_wp2_with fail;refine (HA.out W).mono ?_;rintro e w5 ⟨rfl,hb5⟩;have gu:=zH (ah aK.out hb5);clear hb5;go_wp2;go_ret;exact⟨rfl,gu.out⟩
 ·go_enter Tryz.func70,Tryz.ntmps70;go_wp2_with fail;simp only[←hW,←hB]
  clear hW hB;go_wp2_with fail;refine (HA.out W).mono ?_;rintro e w5 ⟨rfl,hb5⟩;have gu:=zH (ah aK.out hb5);have hk5:=(iJ.out.below hb5 iJ.out.lt).cells;clear hb5;go_wp2_with fail;refine (HB.out _).mono ?_;rintro e w6 ⟨rfl,hb6⟩;have Xx:=zH (ah gu.out hb6);clear hb6;go_wp2;go_ret;exact⟨by simp,Xx.out⟩
theorem Lm (p q:Bk) (l:List Bk):sW 0 p l=sW 0 q l:=by cases l<;>rfl
theorem Xy (k:Nat) (p b:Bk) (r:List Bk):sW k p (b::r)=(IX k p b||sW (k+1) b r):=rfl
theorem Rd.bk {w:World} {A:Option Addr} {l:List Bk} (h:Rd w A (bks l)) {j:Nat} (hj:j<l.length):
  ∃b off,A=some ⟨b,off,none⟩∧b<w.heap.size∧∀k (hk:k<l.length),w.cell? ⟨b,off+k*6,none⟩=some (.bool l[k].fr.neg)∧w.cell? ⟨b,off+k*6+1,none⟩=some (.string l[k].fr.num)∧w.cell? ⟨b,off+k*6+2,none⟩=some (.string l[k].fr.den)∧
   w.cell? ⟨b,off+k*6+3,none⟩=some (.bool l[k].rt.neg)∧w.cell? ⟨b,off+k*6+4,none⟩=some (.string l[k].rt.num)∧w.cell? ⟨b,off+k*6+5,none⟩=some (.string l[k].rt.den):=by
 obtain⟨b,off,hA,hb,_⟩:=Rd.row Bk.cells 6 (fun _=>rfl) (by omega) h hj;refine⟨b,off,hA,hb,fun k hk=>?_⟩;obtain⟨b',off',hA',hb',hc⟩:=Rd.row Bk.cells 6 (fun _=>rfl) (by omega) h hk;rw[hA] at hA';injection hA' with hA';injection hA' with h1 h2;subst h1 h2;exact⟨hc 0 _ rfl,hc 1 _ rfl,hc 2 _ rfl,hc 3 _ rfl,hc 4 _ rfl,hc 5 _ rfl⟩
theorem Qr (w:World):PredBelow Tryz.prog 70 #[] (fun x:{b:Bk // oL b}=>.agg (Bk.cells x.1).toArray) (fun x=>jV x.1) w:=fun W x hW=>by
 refine (Qq x.1 x.2 W).mono ?_;rintro e w' ⟨rfl,h⟩;exact⟨rfl,ah hW h⟩
instance aaO:Inhabited {b:Bk // oL b}:=⟨⟨⟨zR,zR⟩,⟨Nat.zero_le _,Nat.zero_le _⟩,Nat.zero_le _,Nat.zero_le _⟩⟩
theorem ZB (l:List Bk) (A:Option Addr) (n c:Nat) (w:World) (hn:n=l.length) (hm:n≤maxLen) (h0:0<n) (hr:Rd w A (bks l)) (hf:∀b∈l,oL b):
  Calls Tryz.prog 69 #[.slice A n c,.func (.func 70) #[] #[]] w fun e w'=>e=.returned (.bool (l.any jV))∧Below w.heap.size w w':=by
 obtain⟨b,off,rfl,hb,hc⟩:=Rd.row Bk.cells 6 (fun _=>rfl) (by omega) hr (j:=0) (by omega);have eg:∀args w,(callFunc 70 args).run Tryz.prog w=.ok (.enter 70 args) w:=enters_of Tryz.func70 (by kernel_rfl) rfl
 have h:=AnyQ.slices_ContainsFunc Tryz.conB 6 Tryz.isAgg42 Tryz.sizeOf42 (fun x:{b:Bk // oL b}=>Bk.cells x.1) (fun _=>rfl) (fun x=>jV x.1) 70 #[] eg b off n c (l.attach.map fun x=>⟨x.1,hf x.1 x.2⟩) w
  (Qr w) (by rw[List.length_map,List.length_attach];omega) (by unfold maxLen at hm;omega) hb (fun j hj i v hv=>by
    rw[List.length_map,List.length_attach] at hj;obtain⟨b',off',hA',hb',hc'⟩:=Rd.row Bk.cells 6 (fun _=>rfl) (by omega) hr hj;injection hA' with hA';injection hA' with h1 h2;subst h1 h2;refine hc' i v ?_;rw[getElem!_pos _ _ (by rw[List.length_map,List.length_attach];exact hj)] at hv;simpa using hv)
 have e1:((l.attach.map fun x=>(⟨x.1,hf x.1 x.2⟩:{b:Bk // oL b})).take n).any (fun x=>jV x.1)=l.any jV:=by
  rw[List.take_of_length_le (by rw[List.length_map,List.length_attach];omega),List.any_map];rw[Bool.eq_iff_iff,List.any_eq_true,List.any_eq_true];constructor
  ·rintro⟨x,_,h⟩;exact⟨x.1,x.2,h⟩
  ·rintro⟨x,hx,h⟩;exact⟨⟨x,hx⟩,List.mem_attach _ _,h⟩
 rw[e1] at h;exact h
theorem Uu (nm:ByteArray) (m d:Int) (l:List Bk) (A:Option Addr) (n c:Nat) (w:World) (hn:n=l.length) (hm:n≤maxLen) (hr:Rd w A (bks l)) (hf:∀b∈l,oL b):
  Calls Tryz.prog 28 #[.agg #[.string nm,.int .i64 m,.int .i64 d,.slice A n c]] w fun e w'=>e=.returned (.int .i64 (fF l))∧Below w.heap.size w w':=by
 obtain⟨z,hz⟩:=zE (fF l);have HV8:Hid (8<n→z=2):=fun h=>by rw[hz];unfold fF;rw[if_pos (by omega)]
 have BN:Hid (n=0→z=11):=fun h=>by rw[hz];unfold fF;rw[if_neg (by omega),if_pos (by omega)]
 have CZ:Hid (¬8<n→n≠0→sW 0 (l.getD (0-1) ⟨zR,zR⟩) l=true→z=11):=fun h h' h2=>by rw[hz];unfold fF;rw[if_neg (by omega),if_neg (by omega),Lm,if_pos h2]
 have Lp:Hid (¬8<n→n≠0→sW 0 (l.getD (0-1) ⟨zR,zR⟩) l=false→z=if l.any jV then 3 else 0):=fun h h' h2=>by rw[hz];unfold fF;rw[if_neg (by omega),if_neg (by omega),Lm,h2,if_neg (by simp)]
 have HUF:=zH (fun W (hb:Below w.heap.size w W) h0=>ZB l A n c W hn hm h0 (hr.below hb) hf);rw[←hz];have HN:=zH hn;have HR:=zH hr;have HF:=zH hf;have hm2:n≤9223372036854775807:=by unfold maxLen at hm;omega
 clear hz hn hm hr hf;obtain⟨W,hW⟩:=zE (w.alloc (.cells #[.string nm,.int .i64 m,.int .i64 d,.slice A n c] 37));obtain⟨B,hB⟩:=zE w.heap.size;have hk0:aj W B 37 [.string nm,.int .i64 m,.int .i64 d,.slice A n c]:=by rw[hW,hB];exact aj.new w _ _
 have hba:Below w.heap.size w W:=by rw[hW];exact zB _ _
 have aK:=zH hba;have hkc:=hk0.cells;clear hba hk0;by_cases h8:8<n
 ·obtain rfl:=HV8.out h8;go_enter Tryz.func28,Tryz.ntmps28
  go_upto_region 1 with fail
  simp only[←hW,←hB]
  clear hW hB;go_wp2;go_ret;exact⟨rfl,aK.out⟩
 by_cases h0:n=0
 ·obtain rfl:=BN.out h0;subst h0;go_enter Tryz.func28,Tryz.ntmps28
  go_upto_region 1 with fail
  simp only[←hW,←hB]
  clear hW hB;go_wp2;go_ret;exact⟨rfl,aK.out⟩
 replace CZ:=zH (CZ.out h8 h0);replace Lp:=zH (Lp.out h8 h0);have h0b:((n:Int)==0)=false:=by simp[h0]
 have HP:Hid (0<n):=by show _<_;omega
 clear HV8 BN;go_enter Tryz.func28,Tryz.ntmps28
 go_upto_region 1 with fail
 simp only[←hW,←hB]
 clear hW hB;go_wp2_with fail
 go_loopg [18] n (fun g iv wr=>∃j:Nat,j+g=n∧iv=.int .i64 j∧Hid (sW 0 (l.getD (0-1) ⟨zR,zR⟩) l=sW j (l.getD (j-1) ⟨zR,zR⟩) (l.drop j))∧Hid (∀k (hk:k<l.length),k<j→okR l[k].fr=true)∧Hid (Below W.heap.size W wr))
 case atStart=>exact⟨0,by omega,rfl,rfl,(fun k hk h=>absurd h (by omega)),Below.refl _ _⟩
 case round=>
  obtain⟨j,hj,rfl,hgo,hok,hbr⟩:=hrel;by_cases hlt:j<n
  ·have hjl:j<l.length:=by rw[←HN.out];exact hlt
   have hbw:=ah aK.out hbr.out;obtain⟨b,off,hA,hbb,hcs⟩:=(HR.out.below hbw).bk hjl;subst hA;obtain⟨c0,c1,c2,c3,c4,c5⟩:=hcs j hjl;obtain⟨⟨f1,f2⟩,f3,f4⟩:=HF.out l[j] (List.getElem_mem hjl);have Uw:=hgo.out;rw[List.drop_eq_getElem_cons hjl,Xy] at Uw;have hnx:l.getD (j+1-1) ⟨zR,zR⟩=l[j]:=by rw[Nat.add_sub_cancel,List.getD_eq_getElem?_getD,List.getElem?_eq_getElem hjl];rfl
   rw[←hnx] at Uw;have Rn:=zH Uw;have OU:=zH (fun W=>sF l[j].fr W (by omega) (by omega));have iH:=zH (fun W=>sF l[j].rt W (by omega) (by omega));have ni:=zH (fun W=>vC l[j].fr W (by omega) (by omega));have fQ:Hid (IX j (l.getD (j-1) ⟨zR,zR⟩) (l.getD (j+1-1) ⟨zR,zR⟩)=(!okR l[j].fr|| !okR l[j].rt||(if j=0 then decide (dV l[j].fr≠0) else decide (0≤lX (l.getD (j-1) ⟨zR,zR⟩).fr l[j].fr)))):=by show _=_;rw[hnx];rfl
   have HCM:Hid (∀W (h:0<j),okR l[j].fr=true→Calls Tryz.prog 68 #[(l[j-1]'(by omega)).fr.v,l[j].fr.v] W fun e w'=>e=.returned (.int .i64 (lX (l.getD (j-1) ⟨zR,zR⟩).fr l[j].fr))∧Below W.heap.size W w'):=fun W h ho=>by
    have hj1:j-1<l.length:=by omega
    obtain⟨⟨g1,g2⟩,_⟩:=HF.out l[j-1] (List.getElem_mem hj1);have h1:=QZ l[j-1].fr l[j].fr W (hok.out _ hj1 (by omega)) ho 1048576 (by omega) g1 g2 f1 f2;have e1:l.getD (j-1) ⟨zR,zR⟩=l[j-1]:=by rw[List.getD_eq_getElem?_getD,List.getElem?_eq_getElem hj1];rfl
    rw[e1];exact h1
   have HPC:Hid (∀h:0<j,wr.cell? ⟨b,off+(j-1)*6,none⟩=some (.bool (l[j-1]'(by omega)).fr.neg)∧wr.cell? ⟨b,off+(j-1)*6+1,none⟩=some (.string (l[j-1]'(by omega)).fr.num)∧wr.cell? ⟨b,off+(j-1)*6+2,none⟩=some (.string (l[j-1]'(by omega)).fr.den)):=fun h=>by
    obtain⟨x0,x1,x2,_⟩:=hcs (j-1) (by omega);exact⟨x0,x1,x2⟩
   have adF:Hid (okR l[j].fr=true→∀k (hk:k<l.length),k<j+1→okR l[k].fr=true):=fun h k hk hkj=>by
    by_cases e:k<j
    ·exact hok.out k hk e
    ·obtain rfl:k=j:=by omega
     exact h
   obtain⟨cur,hcur⟩:∃c,c=l.getD (j+1-1) ⟨zR,zR⟩:=⟨_,rfl⟩
   rw[←hcur] at Rn fQ;have ag0:=zH hcur;clear hcur Uw hnx;generalize l.getD (j-1) ⟨zR,zR⟩=prv at*;generalize l[j]=bb at*;obtain⟨⟨an,am,ad⟩,⟨bn,bm,bd⟩⟩:=bb;simp only at c0 c1 c2 c3 c4 c5 OU iH ni fQ HCM adF;generalize okR ⟨an,am,ad⟩=okf at*;generalize okR ⟨bn,bm,bd⟩=okr at*;generalize dV ⟨an,am,ad⟩=sg at*;generalize lX prv.fr ⟨an,am,ad⟩=cm at*;unfold Ra.v at OU iH ni HCM;simp only at OU iH ni HCM;obtain⟨bx,hbx⟩:∃x,x=IX j prv cur:=⟨_,rfl⟩
   rw[←hbx] at Rn fQ;have DR:=zH hbb;clear hbx hgo hcs f1 f2 f3 f4 hok hbw;obtain⟨W5,DL⟩:=zE (wr.alloc (.cells #[.bool an,.string am,.string ad,.bool bn,.string bm,.string bd] 42));obtain⟨N,hN⟩:=zE wr.heap.size;have hk5:aj W5 N 42 [.bool an,.string am,.string ad,.bool bn,.string bm,.string bd]:=by rw[DL,hN];exact aj.new _ _ _
   have hb5:Below wr.heap.size wr W5:=by rw[DL];exact zB _ _
   have gZ:=zH hk5;have eF:=zH hb5;clear hk5 hb5
   go_upto_region 9 with fail
   simp only[←DL,←hN]
   clear DL hN c0 c1 c2 c3 c4 c5;have ag1:=gZ.out.cells;cases okf
   ·obtain rfl:bx=true:=by rw[fQ.out];rfl
    obtain rfl:z=11:=CZ.out (by rw[Rn.out];rfl);go_wp2_with fail;refine (OU.out _).mono ?_;rintro e w6 ⟨rfl,hb6⟩;have gu:=zH (ah aK.out (ah hbr.out (ah eF.out hb6)));clear hb6;go_wp2;go_ret;exact⟨rfl,gu.out⟩
   cases okr
   ·obtain rfl:bx=true:=by rw[fQ.out];rfl
    obtain rfl:z=11:=CZ.out (by rw[Rn.out];rfl);go_wp2_with fail;refine (OU.out _).mono ?_;rintro e w6 ⟨rfl,hb6⟩;have adG:=(gZ.out.below hb6 gZ.out.lt).cells;go_wp2_with fail;refine (iH.out _).mono ?_;rintro e w7 ⟨rfl,hb7⟩;have gu:=zH (ah aK.out (ah hbr.out (ah eF.out (ah hb6 hb7))));clear hb6 hb7;go_wp2;go_ret;exact⟨rfl,gu.out⟩
   go_wp2_with fail;refine (OU.out _).mono ?_;rintro e w6 ⟨rfl,hb6⟩;have adG:=(gZ.out.below hb6 gZ.out.lt).cells;go_wp2_with fail;refine (iH.out _).mono ?_;rintro e w7 ⟨rfl,hb7⟩;have fA:=zH (ah eF.out (ah hb6 hb7));have fD:=zH (gZ.out.below (ah hb6 hb7) gZ.out.lt);clear hb6 hb7 ag1 adG OU iH;have hn0:w7.cell? ⟨N,0,none⟩=some (.bool an):=fD.out.cells 0;have hn1:w7.cell? ⟨N,1,none⟩=some (.string am):=fD.out.cells 1;have hn2:w7.cell? ⟨N,2,none⟩=some (.string ad):=fD.out.cells 2;have IE:=zH hn0;have BQ:=zH hn1;have HC2:=zH hn2;clear hn0 hn1 hn2
   go_upto_region 11 with fail
   go_cut [56] from 33 to 56 (fun qv wc=>qv=.bool bx∧Hid (Below w7.heap.size w7 wc))
   case first=>
    by_cases hj0:j=0
    ·subst hj0
     have dW:Hid (∀W,Below w7.heap.size w7 W→Below w7.heap.size w7 W∧W.cell? ⟨N,0,none⟩=some (.bool an)∧W.cell? ⟨N,1,none⟩=some (.string am)∧W.cell? ⟨N,2,none⟩=some (.string ad)):=fun W hb=>
      ⟨hb,(hb.cell fD.out.lt).trans IE.out,(hb.cell fD.out.lt).trans BQ.out,(hb.cell fD.out.lt).trans HC2.out⟩
     by_cases hs:sg=0
     ·subst hs;obtain rfl:bx=false:=by rw[fQ.out];rfl
      refine wp_region_noPanic ?_;refine wp_region_held_drew (S:=(fun w'=>Below w7.heap.size w7 w'∧w'.cell? ⟨N,0,none⟩=some (.bool an)∧w'.cell? ⟨N,1,none⟩=some (.string am)∧w'.cell? ⟨N,2,none⟩=some (.string ad))) (by kernel_rfl) (dW.out _ (ak w7.heap.size w7 1)) (fun hHeld=>?_);refine ay 0 ?_;refine ay 1 ?_;refine ay 2 ?_;refine ay 3 ?_;refine ay 4 ?_;refine bJ 5 fun K hK=>?_
      go_simp;have hbS:=hHeld.1;refine (ni.out _).mono ?_;rintro e w10 ⟨rfl,dA⟩;have dO:=zH (ah hbS dA);go_wp2_with fail;refine aT hK (dW.out _ dO.out) fun hHeld=>?_
      clear hK K;refine ay 6 ?_;refine ay 7 ?_;refine ay 8 ?_;refine ay 9 ?_;refine ay 10 ?_;refine ay 11 ?_;refine bK 12 rfl ?_
      try simp only[Act.put,tk1,tk2,tk3,tk4,aQ,aS]
      refine bK 13 rfl ?_
      try simp only[Act.put,tk1,tk2,tk3,tk4,aQ,aS]
      refine bK 14 rfl ?_
      try simp only[Act.put,tk1,tk2,tk3,tk4,aQ,aS]
      refine bK 15 rfl ?_
      try simp only[Act.put,tk1,tk2,tk3,tk4,aQ,aS]
      refine bK 16 rfl ?_
      try simp only[Act.put,tk1,tk2,tk3,tk4,aQ,aS]
      refine bK 17 rfl ?_
      try simp only[Act.put,tk1,tk2,tk3,tk4,aQ,aS]
      refine bK 18 rfl ?_
      try simp only[Act.put,tk1,tk2,tk3,tk4,aQ,aS]
      refine bK 19 rfl ?_
      try simp only[Act.put,tk1,tk2,tk3,tk4,aQ,aS]
      refine bK 20 rfl ?_
      try simp only[Act.put,tk1,tk2,tk3,tk4,aQ,aS]
      refine bK 21 rfl ?_
      try simp only[Act.put,tk1,tk2,tk3,tk4,aQ,aS]
      refine ay 22 ?_;refine ay 23 ?_;refine wpAnyH_done (by kernel_rfl) ?_ _;refine NoPanic.normal ?_;go_wp2
      go_meet
      case rel=>exact⟨rfl,dO.out⟩
     ·have hsb:(sg !=0)=true:=by simp[hs]
      obtain rfl:bx=true:=by rw[fQ.out,if_pos rfl,decide_eq_true hs];rfl
      refine wp_region_noPanic ?_;refine wp_region_held_drew (S:=(fun w'=>Below w7.heap.size w7 w'∧w'.cell? ⟨N,0,none⟩=some (.bool an)∧w'.cell? ⟨N,1,none⟩=some (.string am)∧w'.cell? ⟨N,2,none⟩=some (.string ad))) (by kernel_rfl) (dW.out _ (ak w7.heap.size w7 1)) (fun hHeld=>?_);refine ay 0 ?_;refine ay 1 ?_;refine ay 2 ?_;refine ay 3 ?_;refine ay 4 ?_;refine bJ 5 fun K hK=>?_
      go_simp;have hbS:=hHeld.1;refine (ni.out _).mono ?_;rintro e w10 ⟨rfl,dA⟩;have dO:=zH (ah hbS dA);go_wp2_with fail;refine aT hK (dW.out _ dO.out) fun hHeld=>?_
      clear hK K;refine ay 6 ?_;refine ay 7 ?_;refine ay 8 ?_;refine bK 9 rfl ?_
      try simp only[Act.put,tk1,tk2,tk3,tk4,aQ,aS]
      refine bK 10 rfl ?_
      try simp only[Act.put,tk1,tk2,tk3,tk4,aQ,aS]
      refine bK 11 rfl ?_
      try simp only[Act.put,tk1,tk2,tk3,tk4,aQ,aS]
      refine bK 12 rfl ?_
      try simp only[Act.put,tk1,tk2,tk3,tk4,aQ,aS]
      refine bK 13 rfl ?_
      try simp only[Act.put,tk1,tk2,tk3,tk4,aQ,aS]
      refine bK 14 rfl ?_
      try simp only[Act.put,tk1,tk2,tk3,tk4,aQ,aS]
      refine bK 15 rfl ?_
      try simp only[Act.put,tk1,tk2,tk3,tk4,aQ,aS]
      refine bK 16 rfl ?_
      try simp only[Act.put,tk1,tk2,tk3,tk4,aQ,aS]
      refine bK 17 rfl ?_
      try simp only[Act.put,tk1,tk2,tk3,tk4,aQ,aS]
      refine bK 18 rfl ?_
      try simp only[Act.put,tk1,tk2,tk3,tk4,aQ,aS]
      refine bK 19 rfl ?_
      try simp only[Act.put,tk1,tk2,tk3,tk4,aQ,aS]
      refine bK 20 rfl ?_
      try simp only[Act.put,tk1,tk2,tk3,tk4,aQ,aS]
      refine bK 21 rfl ?_
      try simp only[Act.put,tk1,tk2,tk3,tk4,aQ,aS]
      refine bK 22 rfl ?_
      try simp only[Act.put,tk1,tk2,tk3,tk4,aQ,aS]
      refine ay 23 ?_;refine wpAnyH_done (by kernel_rfl) ?_ _;refine NoPanic.normal ?_;go_wp2
      go_meet
      case rel=>exact⟨rfl,dO.out⟩
    ·have ajg:((j:Int)==0)=false:=by simp[hj0]
     have hjp:(0:Int)<(j:Int):=by omega
     have hjn:0<j:=by omega
     obtain⟨x0,x1,x2⟩:=HPC.out hjn;have ZC:=zH (fun W=>HCM.out W hjn trivial);clear HPC HCM;generalize l[j-1]'(by omega)=pb at x0 x1 x2 ZC;obtain⟨⟨pn,pm,pd⟩,pr⟩:=pb;simp only[Ra.v] at x0 x1 x2 ZC;have hw1:IntKind.i64.wrap ((j:Int)-1)=((j-1:Nat):Int):=by rw[IntWalk.i64_in _ (by omega)];omega
     have hin:j-1<n:=by omega
     have hbx:bx=decide (0≤cm):=by rw[fQ.out,if_neg hj0];rfl
     generalize j-1=i at*;have HCM:=ZC;have HX0:=zH x0;have Cb:=zH x1;have oP:=zH x2
     have dW:Hid (∀W,Below w7.heap.size w7 W→Below w7.heap.size w7 W∧W.cell? ⟨N,0,none⟩=some (.bool an)∧W.cell? ⟨N,1,none⟩=some (.string am)∧W.cell? ⟨N,2,none⟩=some (.string ad)∧W.cell? ⟨b,off+i*6,none⟩=some (.bool pn)∧W.cell? ⟨b,off+i*6+1,none⟩=some (.string pm)∧W.cell? ⟨b,off+i*6+2,none⟩=some (.string pd)):=fun W hb=>
      have h7:=ah fA.out hb
      ⟨hb,(hb.cell fD.out.lt).trans IE.out,(hb.cell fD.out.lt).trans BQ.out,(hb.cell fD.out.lt).trans HC2.out,(h7.cell DR.out).trans HX0.out,(h7.cell DR.out).trans Cb.out,(h7.cell DR.out).trans oP.out⟩
     clear x0 x1 x2;by_cases hcm:0≤cm
     ·obtain rfl:bx=true:=by rw[hbx,decide_eq_true hcm]
      clear hbx;refine wp_region_noPanic ?_;refine wp_region_held_drew (S:=(fun w'=>Below w7.heap.size w7 w'∧w'.cell? ⟨N,0,none⟩=some (.bool an)∧w'.cell? ⟨N,1,none⟩=some (.string am)∧w'.cell? ⟨N,2,none⟩=some (.string ad)∧w'.cell? ⟨b,off+i*6,none⟩=some (.bool pn)∧w'.cell? ⟨b,off+i*6+1,none⟩=some (.string pm)∧w'.cell? ⟨b,off+i*6+2,none⟩=some (.string pd))) (by kernel_rfl) (dW.out _ (ak w7.heap.size w7 1)) (fun hHeld=>?_);refine ay 0 ?_;refine ay 1 ?_;refine ay 2 ?_;refine bK 3 rfl ?_
      try simp only[Act.put,tk1,tk2,tk3,tk4,aQ,aS]
      refine bK 4 rfl ?_
      try simp only[Act.put,tk1,tk2,tk3,tk4,aQ,aS]
      refine bK 5 rfl ?_
      try simp only[Act.put,tk1,tk2,tk3,tk4,aQ,aS]
      refine bK 6 rfl ?_
      try simp only[Act.put,tk1,tk2,tk3,tk4,aQ,aS]
      refine ay 7 ?_;refine ay 8 ?_;refine ay 9 ?_;refine ay 10 ?_;refine ay 11 ?_;refine ay 12 ?_;refine ay 13 ?_;refine ay 14 ?_;refine ay 15 ?_;refine ay 16 ?_;refine ay 17 ?_;refine ay 18 ?_;refine ay 19 ?_;refine bJ 20 fun K hK=>?_
      go_simp;have hbS:=hHeld.1;refine (HCM.out _).mono ?_;rintro e w10 ⟨rfl,dA⟩;have dO:=zH (ah hbS dA);go_wp2_with fail;refine aT hK (dW.out _ dO.out) fun hHeld=>?_
      clear hK K;refine ay 21 ?_;refine ay 22 ?_;refine ay 23 ?_;refine wpAnyH_done (by kernel_rfl) ?_ _;refine NoPanic.normal ?_;go_wp2
      go_meet
      case rel=>exact⟨rfl,dO.out⟩
     ·obtain rfl:bx=false:=by rw[hbx,decide_eq_false hcm]
      have hcd:decide (0≤cm)=false:=decide_eq_false hcm;clear hbx hcm;refine wp_region_noPanic ?_;refine wp_region_held_drew (S:=(fun w'=>Below w7.heap.size w7 w'∧w'.cell? ⟨N,0,none⟩=some (.bool an)∧w'.cell? ⟨N,1,none⟩=some (.string am)∧w'.cell? ⟨N,2,none⟩=some (.string ad)∧w'.cell? ⟨b,off+i*6,none⟩=some (.bool pn)∧w'.cell? ⟨b,off+i*6+1,none⟩=some (.string pm)∧w'.cell? ⟨b,off+i*6+2,none⟩=some (.string pd))) (by kernel_rfl) (dW.out _ (ak w7.heap.size w7 1)) (fun hHeld=>?_);refine ay 0 ?_;refine ay 1 ?_;refine ay 2 ?_;refine bK 3 rfl ?_
      try simp only[Act.put,tk1,tk2,tk3,tk4,aQ,aS]
      refine bK 4 rfl ?_
      try simp only[Act.put,tk1,tk2,tk3,tk4,aQ,aS]
      refine bK 5 rfl ?_
      try simp only[Act.put,tk1,tk2,tk3,tk4,aQ,aS]
      refine bK 6 rfl ?_
      try simp only[Act.put,tk1,tk2,tk3,tk4,aQ,aS]
      refine ay 7 ?_;refine ay 8 ?_;refine ay 9 ?_;refine ay 10 ?_;refine ay 11 ?_;refine ay 12 ?_;refine ay 13 ?_;refine ay 14 ?_;refine ay 15 ?_;refine ay 16 ?_;refine ay 17 ?_;refine ay 18 ?_;refine ay 19 ?_;refine bJ 20 fun K hK=>?_
      go_simp;have hbS:=hHeld.1;refine (HCM.out _).mono ?_;rintro e w10 ⟨rfl,dA⟩;have dO:=zH (ah hbS dA);go_wp2_with fail;refine aT hK (dW.out _ dO.out) fun hHeld=>?_
      clear hK K;refine ay 21 ?_;refine ay 22 ?_;refine ay 23 ?_;refine wpAnyH_done (by kernel_rfl) ?_ _;refine NoPanic.normal ?_;go_wp2
      go_meet
      case rel=>exact⟨rfl,dO.out⟩
   case rest=>
    obtain⟨rfl,hbc⟩:=hcut;have nS:=zH (ah hbr.out (ah fA.out hbc.out));clear hbc;cases bx
    ·have HGN:Hid (sW 0 (l.getD (0-1) ⟨zR,zR⟩) l=sW (j+1) (l.getD (j+1-1) ⟨zR,zR⟩) (l.drop (j+1))):=by show _=_;rw[Rn.out,ag0.out];rfl
     have HON:=zH (adF.out trivial);go_wp2
     go_roundg (n-(j+1))
     case measure=>omega
     case rel=>exact⟨j+1,by omega,by go_num,HGN,HON,nS⟩
    ·obtain rfl:z=11:=CZ.out (by rw[Rn.out];rfl);have gu:=zH (ah aK.out nS.out);go_wp2;go_ret;exact⟨rfl,gu.out⟩
  ·obtain rfl:j=n:=by omega
   have hgf:=hgo.out;rw[HN.out,List.drop_length] at hgf;have hz:=Lp.out hgf;have gu:=zH (ah aK.out hbr.out);have HU:=zH (HUF.out _ gu.out HP.out);generalize l.any jV=an at*;clear hgo hok hbr hgf HUF Lp CZ;cases an
   ·obtain rfl:z=0:=hz;go_wp2_with fail;refine HU.out.mono ?_;rintro e w6 ⟨rfl,hb6⟩;have Xx:=zH (ah gu.out hb6);clear hb6;go_wp2;go_ret;exact⟨rfl,Xx.out⟩
   ·obtain rfl:z=3:=hz;go_wp2_with fail;refine HU.out.mono ?_;rintro e w6 ⟨rfl,hb6⟩;have Xx:=zH (ah gu.out hb6);clear hb6;go_wp2;go_ret;exact⟨rfl,Xx.out⟩
structure Hd where
 a:Option Addr
 n:Nat
 c:Nat
structure aU {α:Type} (w:World) (enc:α→List Value) (xs:List α) (h:Hd):Prop where
 len:h.n=xs.length
 cap:h.n≤h.c
 max:h.c≤maxLen
 rd:Rd w h.a (xs.flatMap enc)
theorem aU.below {α:Type} {w w':World} {enc:α→List Value} {xs:List α} {h:Hd} (k:aU w enc xs h) (hb:Below w.heap.size w w'):aU w' enc xs h:=⟨k.len,k.cap,k.max,k.rd.below hb⟩
theorem aU.nil {α:Type} (w:World) (enc:α→List Value):aU w enc ([]:List α) ⟨none,0,0⟩:=⟨rfl,Nat.le_refl _,Nat.zero_le _,.inl rfl⟩
theorem aU.mP {α:Type} {w:World} {enc:α→List Value} {xs:List α} {base m n:Nat} {e:TypeId} {v:Value} (h:w.ownsRow base e m v n (xs.flatMap enc)) (hn:n=xs.length):∃h:Hd,v=.slice h.a h.n h.c∧h.n=n∧aU w enc xs h:=by
 obtain⟨A,c,rfl,h1,h2,h3,_⟩:=bM h;exact⟨⟨A,n,c⟩,rfl,rfl,hn,h1,h2,h3⟩
structure Dc where
 name:ByteArray
 ty:Ty
deriving DecidableEq
structure Sc where
 name:ByteArray
 aH:Int
 days:Int
 bQ:List Bk
deriving DecidableEq
structure Pv where
 name:ByteArray
 ty:Ty
 jI:Bool
 step:Ra
 cap:Ra
 body:List Nd
deriving DecidableEq
structure Lw where
 facts:List Dc
 bI:List Sc
 aP:List Pv
deriving DecidableEq
def Dc.cells (d:Dc):List Value:=[.string d.name,.bool d.ty.truth,.int .i64 d.ty.aH,.int .i64 d.ty.days]
def fU (s:Sc × Hd):List Value:=[.string s.1.name,.int .i64 s.1.aH,.int .i64 s.1.days,.slice s.2.a s.2.n s.2.c]
def bg (p:Pv × Hd):List Value:=[.string p.1.name,.bool p.1.ty.truth,.int .i64 p.1.ty.aH,.int .i64 p.1.ty.days,.slice p.2.a p.2.n p.2.c,.bool p.1.jI,
 .bool p.1.step.neg,.string p.1.step.num,.string p.1.step.den,.bool p.1.cap.neg,.string p.1.cap.num,.string p.1.cap.den]
structure fG (w:World) (l:Lw) (ss:List (Sc × Hd)) (ps:List (Pv × Hd)) (f s p:Hd):Prop where
 f:aU w Dc.cells l.facts f
 s:aU w fU ss s
 p:aU w bg ps p
 sl:ss.map Prod.fst=l.bI
 pl:ps.map Prod.fst=l.aP
 sb:∀x∈ss,aU w Bk.cells x.1.bQ x.2
 pb:∀x∈ps,aU w Nd.cells x.1.body x.2
theorem fG.below {w w':World} {l:Lw} {ss:List (Sc × Hd)} {ps:List (Pv × Hd)} {f s p:Hd} (k:fG w l ss ps f s p) (hb:Below w.heap.size w w'):fG w' l ss ps f s p:=
 ⟨k.f.below hb,k.s.below hb,k.p.below hb,k.sl,k.pl,fun x hx=>(k.sb x hx).below hb,fun x hx=>(k.pb x hx).below hb⟩
def dQ (f s p:Hd):Value:=.agg #[.slice f.a f.n f.c,.slice s.a s.n s.c,.slice p.a p.n p.c]
structure lU (l:Lw):Prop where
 fn:l.facts.length≤1000
 sn:l.bI.length≤1000
 pn:l.aP.length≤1000
 sb:∀s∈l.bI,∀b∈s.bQ,oL b
 pb:∀p∈l.aP,iw p.step∧iw p.cap∧∀n∈p.body,Fine n
def jR (d:Dc):Sg:=⟨5,d.name,d.ty⟩
def mQ (op:Int) (p:Pv):Sg:=⟨op,p.name,p.ty⟩
def lI (s:Sc):Sg:=⟨24,s.name,⟨false,s.aH,s.days⟩⟩
def jA (l:Lw):List Sg:=l.facts.map jR++(l.aP.map (mQ 6)++(l.aP.map (mQ 7)++(l.aP.map (mQ 8)++l.bI.map lI)))
def je (p:Pv):Bool:=decide (p.step=zR)&&decide (p.cap=zR)
def qc (p:Pv):Bool:= !p.ty.truth&&(dJ p.step&&(dJ p.cap&&(decide (0<dV p.step)&&(decide ((iZ p.cap p.step).1.den=(aW 1).den)&&(decide (0<dV (iZ p.cap p.step).1)&&decide (lX (iZ p.cap p.step).1 (aW 200)≤0))))))
def jB (sg:List Sg) (p:Pv):Int:=if (iK sg p.body).2≠0 then (iK sg p.body).2 else if (iK sg p.body).1≠p.ty then 13 else if (p.jI&&decide (p.ty≠jk))||(!je p&& !qc p) then 1 else 0
def mV (l:Lw):Bool:=l.facts.all (fun d=>aN d.ty)&&(l.aP.all (fun p=>aN p.ty)&&l.bI.all (fun s=>dZ s.aH s.days))
theorem xg (a b:List Sg):kM (a++b)=kM a++kM b:=List.flatMap_append
def okB (b:Bk):Bool:=okR b.fr&&okR b.rt
theorem OV:∀(l:List Bk) (k:Nat) (p:Bk),sW k p l=true↔∃i,∃h:i<l.length,IX (k+i) ((p::l)[i]'(by simp;omega)) l[i]=true:=by
 intro l
 induction l with
 |nil=>intro k p;constructor
       ·intro h;cases h
       ·rintro⟨i,h,_⟩;cases h
 |cons b r ih=>
  intro k p;rw[sW,Bool.or_eq_true,ih];constructor
  ·rintro (h|⟨i,h,h2⟩)
   ·exact⟨0,by simp,h⟩
   ·exact⟨i+1,by simp;omega,by rw[show k+(i+1)=k+1+i by omega];exact h2⟩
  ·rintro⟨i,h,h2⟩;cases i with
   |zero=>exact .inl h2
   |succ i=>exact .inr ⟨i,by simpa using h,by rw[show k+1+i=k+(i+1) by omega];exact h2⟩
theorem ER {l:List Bk} (h8:l.length≤8) (h0:0<l.length) (h:(∃b∈l,okB b=false)∨dV l[0].fr≠0∨∃i,∃h:i+1<l.length,0≤lX l[i].fr l[i+1].fr):fF l=11:=by
 unfold fF;rw[if_neg (by omega),if_neg (by omega),if_pos];rw[OV];rcases h with⟨b,hb,h⟩|h|⟨i,hi,h⟩
 ·obtain⟨i,hi,rfl⟩:=List.getElem_of_mem hb;refine⟨i,hi,?_⟩;unfold okB at h;unfold IX;cases h1:okR (l[i]).fr
  ·rfl
  ·rw[h1,Bool.true_and] at h;rw[h];rfl
 ·refine⟨0,h0,?_⟩;unfold IX;rw[if_pos rfl,decide_eq_true h,Bool.or_true]
 ·refine⟨i+1,hi,?_⟩;unfold IX;rw[if_neg (by omega)];simp only[List.getElem_cons_succ]
  rw[decide_eq_true h,Bool.or_true]
theorem ZE {l:List Bk} (h8:l.length≤8) (h0:0<l.length) (h1:∀b∈l,okB b=true) (h2:dV l[0].fr=0) (h3:∀i,∀h:i+1<l.length,lX l[i].fr l[i+1].fr<0):fF l=if l.any jV then 3 else 0:=by
 unfold fF;rw[if_neg (by omega),if_neg (by omega),if_neg];rw[OV];rintro⟨i,hi,h⟩;have ho:=h1 _ (List.getElem_mem hi);unfold okB at ho;rw[Bool.and_eq_true] at ho;unfold IX at h;rw[ho.1,ho.2] at h;cases i with
 |zero=>simp[h2] at h
 |succ i=>
  have:=h3 i hi;simp only[Bool.not_true,Bool.false_or,List.getElem_cons_succ] at h;rw[if_neg (by omega),decide_eq_true_eq] at h;omega
end Go.Proofs.YtgfeadgafdijaaaGreatDoor
