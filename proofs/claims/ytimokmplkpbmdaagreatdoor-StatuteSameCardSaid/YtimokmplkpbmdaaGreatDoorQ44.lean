/- A part of the proof: ZE. -/
import Derived.Test.YtimokmplkpbmdaaGreatDoorQ43
set_option linter.all false
set_option maxRecDepth 100000
set_option maxHeartbeats 0
namespace Go.Proofs.YtimokmplkpbmdaaGreatDoor
open Go.RowKit
theorem ET.parts {l:Lw} {w:World} {ss:List (Sc × Hd)} {ps:List (Pv × Hd)} {f s p:Hd} (h:ET l) (k:dV w l ss ps f s p):(l.facts.length<=25/\∀d∈l.facts,d.name.size<=25)/\(ss.length<=10/\∀x∈ss,Yp w x)/\(ps.length<=35/\∀x∈ps,Ij w x)/\(0<l.facts.length/\0<ss.length/\0<ps.length):=by
 obtain⟨_,hg⟩:=qO h.chk;obtain⟨n1,n2,n3⟩:=h.n.len;have hF:=h.fine;have e1:ss.length=l.aU.length:=by rw[<-k.sl,List.length_map]
 have e2:ps.length=l.aH.length:=by rw[<-k.pl,List.length_map]
 refine⟨⟨by omega,fun d hd=>?_⟩,⟨by omega,fun x hx=>?_⟩,⟨by omega,fun x hx=>?_⟩,List.length_pos_iff.2 h.fe,by rw[e1];exact List.length_pos_iff.2 h.se,by rw[e2];exact List.length_pos_iff.2 h.ne⟩
 ·have g:vH (.f d):=hg _ (List.mem_append_left _ (List.mem_map_of_mem hd));have:=lT g.1;omega
 ·have hm:x.1∈l.aU:=k.sl ▸ List.mem_map_of_mem hx;have g:vH (.s x.1):=hg _ (List.mem_append_right _ (List.mem_append_left _ (List.mem_map_of_mem hm)));have:=lT g.1;exact⟨by omega,Nat.le_trans g.2.2.2.1 (by omega),hF.sb _ hm,k.sb x hx⟩
 ·have hm:x.1∈l.aH:=k.pl ▸ List.mem_map_of_mem hx;have g:vH (.p x.1):=hg _ (List.mem_append_right _ (List.mem_append_right _ (List.mem_map_of_mem hm)));have:=lT g.1;obtain⟨f1,f2,f3⟩:=hF.pb _ hm;exact⟨by omega,f1,f2,f3,k.pb x hx⟩
theorem OU {l m:Lw} (hl:bg l=0) (hm:bg m=0) (hs:(dh l).length<=1000000):decide ((⟨(dh l).toArray⟩:ByteArray)=⟨(dh m).toArray⟩)=decide (l=m):=by
 rw[decide_eq_decide];refine⟨fun h=>aa4 hl hm hs ?_,fun h=>by rw[h]⟩;have:=congrArg (fun x:ByteArray=>x.data.toList) h;simpa using this
theorem YK (xs ys:List (List Int × Hd)) (hh kk:Hd) (q0 q1 q2:Int) (r0:-9223372036854775808<=q0/\q0<=9223372036854775807) (r1:-9223372036854775808<=q1/\q1<=9223372036854775807) (r2:-9223372036854775808<=q2/\q2<=9223372036854775807) (w:World) (hK:cZ w) (hr:aJ w vk xs hh) (hq:∀r∈xs,IR w w.heap.size r) (kr:aJ w vk ys kk) (kq:∀r∈ys,IR w w.heap.size r)
  (hY:∀W,Below w.heap.size w W->Calls Tryz.prog 6 #[] W fun e w'=>e=.returned (.bool true)/\Below W.heap.size W w'):
  Calls Tryz.prog 5 #[.slice hh.a hh.n hh.c,.slice kk.a kk.n kk.c,.agg #[.int .i64 q0,.int .i64 q1,.int .i64 q2]] w fun e w'=>e=.returned (.bool true)/\Below w.heap.size w w':=by
 have HKK:Hid (∀W,Below w.heap.size w W->cZ W):=fun W hb=>hK.below hb
 go_enter Tryz.func5,Tryz.ntmps5
 go_upto_region 1 with fail
 generalize hX:w.alloc _=W1;obtain⟨kQ,hb0⟩:=zA hX;clear hX;go_wp2_with fail;refine (hY W1 hb0).mono ?_;rintro e w1 ⟨rfl,hb1⟩;have hbw:=ah hb0 hb1;go_wp2_with fail;refine (EW xs hh w1 (hr.below hbw) (fun r hm=>((hq r hm).below hbw).lower hbw.size)).mono ?_;rintro e w2 ⟨la,sa,pa,⟨a0,a1,a2⟩,⟨a3,a4,a5⟩,⟨a6,a7,a8⟩,rfl,hma,hla,hb2⟩;unfold dR
 go_upto_region 3 with fail
 generalize hX:w2.alloc _=W2;obtain⟨kA,hb3⟩:=zA hX;clear hX;have hb4:=ah hb2 hb3;have hbw2:=ah hbw hb4;have hA:=hla.at.below hb3;go_wp2_with fail;refine (EW ys kk W2 (kr.below hbw2) (fun r hm=>((kq r hm).below hbw2).lower hbw2.size)).mono ?_;rintro e w3 ⟨lb,sb,pb,⟨b0,b1,b2⟩,⟨b3,b4,b5⟩,⟨b6,b7,b8⟩,rfl,hmb,hlb,hb5⟩;unfold dR
 go_upto_region 4 with fail
 generalize hX:w3.alloc _=W3;obtain⟨kB,hb6⟩:=zA hX;clear hX;have hb7:=ah hb5 hb6;have hbw3:=ah hbw2 hb7;have hA:=hA.below hb7;have hB:=hlb.at.below hb6;have kA:=kA.below hb7 kA.lt;have kQ:=(kQ.below (ah (ah hb1 hb4) hb7) kQ.lt)
 have hcA:=kA.cells;have hcQ:=kQ.cells;obtain⟨g1,g2,g3,g4⟩:=hma.parts hA;have jA:=zH (Va la sa pa ⟨a0,a1,a2⟩ ⟨a3,a4,a5⟩ ⟨a6,a7,a8⟩ W3 hA g1 g2 g3 g4 q0 q1 q2 r0 r1 r2);unfold dR at jA;clear hla hlb hb0 hb1 hb2 hb3 hb4 hb5 hb6 hb7 hbw hbw2 hr hq kr kq hY hK g1 g2 g3 g4 r0 r1 r2;go_wp2_with fail;refine jA.out.mono ?_;rintro e w4 ⟨fs,sc,pc,⟨c0,c1,c2⟩,⟨c3,c4,c5⟩,⟨c6,c7,c8⟩,rfl,hC,gf,gs,gp,hne,hb8⟩;clear jA hcA hcQ kQ;unfold dR
 go_upto_region 5 with fail
 generalize hX:w4.alloc _=W4;obtain⟨kC,gW⟩:=zA hX;clear hX;have jO:=ah hb8 gW;have hbw:=ah hbw3 jO;have hA:=hA.below jO;have hB:=hB.below jO;have hC:=hC.below gW;have hc:=fun Y (hY:Below W4.heap.size W4 Y)=>And.intro (((kA.below jO kA.lt).below hY (Nat.lt_of_lt_of_le kA.lt jO.size)).cells) (And.intro (((kB.below jO kB.lt).below hY (Nat.lt_of_lt_of_le kB.lt jO.size)).cells) ((kC.below hY kC.lt).cells))
 have hfC:nV ⟨fs,sc.map Prod.fst,pc.map Prod.fst⟩:=by
  refine⟨by show fs.length<=_;omega,by show (sc.map _).length<=_;rw[List.length_map];omega,by show (pc.map _).length<=_;rw[List.length_map];omega,fun x hx=>?_,fun x hx=>?_⟩
  ·obtain⟨y,hy,rfl⟩:=List.mem_map.1 hx;exact (gs.2 y hy).2.2.1
  ·obtain⟨y,hy,rfl⟩:=List.mem_map.1 hx;exact⟨(gp.2 y hy).2.1,(gp.2 y hy).2.2.1,(gp.2 y hy).2.2.2.1⟩
 have hnC:(⟨fs,sc.map Prod.fst,pc.map Prod.fst⟩:Lw).facts≠[]∨(⟨fs,sc.map Prod.fst,pc.map Prod.fst⟩:Lw).aH≠[]:=hne.imp id fun h e=>h (List.map_eq_nil_iff.1 e)
 generalize (⟨fs,sc.map Prod.fst,pc.map Prod.fst⟩:Lw)=lc at hC hfC hnC;have hta:=OU hma.chk hmb.chk hma.text;have htc:=fun h:bg lc=0=>OU hma.chk h hma.text
 have TA:=zH (fun Y (hY:Below W4.heap.size W4 Y)=>uZ la sa pa ⟨a0,a1,a2⟩ ⟨a3,a4,a5⟩ ⟨a6,a7,a8⟩ Y (HKK.out Y (ah hbw hY)) (hA.below hY) hma.fine (FU (.inr hma.ne)));have TB:=zH (fun Y (hY:Below W4.heap.size W4 Y)=>uZ lb sb pb ⟨b0,b1,b2⟩ ⟨b3,b4,b5⟩ ⟨b6,b7,b8⟩ Y (HKK.out Y (ah hbw hY)) (hB.below hY) hmb.fine (FU (.inr hmb.ne)));have TC:=zH (fun Y (hY:Below W4.heap.size W4 Y)=>uZ lc sc pc ⟨c0,c1,c2⟩ ⟨c3,c4,c5⟩ ⟨c6,c7,c8⟩ Y (HKK.out Y (ah hbw hY)) (hC.below hY) hfC (FU hnC));have SAB:=zH (fun Y (hY:Below W4.heap.size W4 Y)=>xY la lb sa sb pa pb _ _ _ _ _ _ Y (hA.below hY) (hB.below hY));have SAA:=zH (fun Y (hY:Below W4.heap.size W4 Y)=>xY la la sa sa pa pa _ _ _ _ _ _ Y (hA.below hY) (hA.below hY));have SAC:=zH (fun Y (hY:Below W4.heap.size W4 Y)=>xY la lc sa sc pa pc _ _ _ _ _ _ Y (hA.below hY) (hC.below hY));have XAC:=zH (fun Y (hY:Below W4.heap.size W4 Y)=>Kr la lc sa sc pa pc _ _ _ _ _ _ Y (hA.below hY) (hC.below hY));have SCB:=zH (fun Y (hY:Below W4.heap.size W4 Y)=>xY lc lb sc sb pc pb _ _ _ _ _ _ Y (hC.below hY) (hB.below hY));have XCB:=zH (fun Y (hY:Below W4.heap.size W4 Y)=>Kr lc lb sc sb pc pb _ _ _ _ _ _ Y (hC.below hY) (hB.below hY));rw[decide_eq_true (rfl:la=la)] at SAA;unfold zJ at TA TB TC;rw[hma.chk,if_pos rfl] at TA;rw[hmb.chk,if_pos rfl] at TB;have HV:Hid (bg lc=0->decide ((⟨(dh la).toArray⟩:ByteArray)=⟨(if bg lc=0 then dh lc else []).toArray⟩)=decide (la=lc)):=fun h=>by rw[if_pos h];exact htc h
 unfold dR at*;have hs1:=NZ ⟨(dh la).toArray⟩ ⟨(dh lb).toArray⟩;rw[hta] at hs1;have hs2:=NZ ⟨(dh la).toArray⟩ ⟨(if bg lc=0 then dh lc else []).toArray⟩;generalize decide ((⟨(dh la).toArray⟩:ByteArray)=⟨(if bg lc=0 then dh lc else []).toArray⟩)=d4 at*;generalize (⟨(dh la).toArray⟩:ByteArray)=ta at*;generalize (⟨(dh lb).toArray⟩:ByteArray)=tb at*;generalize (⟨(if bg lc=0 then dh lc else []).toArray⟩:ByteArray)=tc at*;generalize decide (la=lb)=d1 at*;generalize decide (la=lc)=d2 at*;generalize decide (lc=lb)=d3 at*;generalize bg lc=ec at*;clear hma hmb hA hB hC hfC hnC htc hta gf gs gp hne hb8 gW jO hbw3 kA kB kC;have hc0:=hc W4 (Below.refl _ _);go_wp2_with fail;refine (TA.out W4 (Below.refl _ _)).mono ?_;rintro e w5 ⟨rfl,hb1⟩;have hc1:=hc w5 hb1;clear hc0 TA;go_wp2_with fail;refine (TB.out w5 hb1).mono ?_;rintro e w6 ⟨rfl,hb2⟩;replace hb1:=ah hb1 hb2;have hc2:=hc w6 hb1;clear hc1 hb2 TB;go_wp2_with fail;refine (TC.out w6 hb1).mono ?_;rintro e w7 ⟨rfl,hb2⟩;replace hb1:=ah hb1 hb2;have hc3:=hc w7 hb1;clear hc2 hb2 TC
 go_upto_region 8 with fail
 go_cut [50] from 40 to 50 (fun v Y=>v=.bool false/\Below W4.heap.size W4 Y)
 case first=>
  by_cases he:ec=0
  ·subst he;obtain rfl:=HV.out rfl;go_wp2_with fail;refine (SAC.out w7 hb1).mono ?_;rintro e w8 ⟨rfl,hb2⟩;cases d4
   all_goals
    go_wp2
    go_meet
    case rel=>exact⟨rfl,ah hb1 hb2⟩
  ·have he2:(ec==0)=false:=beq_eq_false_iff_ne.2 he;go_wp2
   go_meet
   case rel=>exact⟨rfl,hb1⟩
 case rest=>
  obtain⟨rfl,hb1⟩:=hcut;clear hc3 HV hs2
  go_upto_region 10 with fail
  refine dN (Below W4.heap.size W4) 99 (ah hb1 (ak _ _ 1)) (fun w8 _ hS=>?_)
  iterate 4 refine aW ?_
  refine aG 5 ?_;refine aG 6 ?_;refine aG 7 ?_;refine cO 4 (SAB.out _ hS) ?_;rintro e w9 ⟨rfl,hb2⟩;refine⟨_,rfl,ah hS hb2,fun hS=>?_⟩
  iterate 5 refine aW ?_
  refine cO 13 (SAA.out _ hS) ?_;rintro e w9 ⟨rfl,hb2⟩;refine⟨_,rfl,ah hS hb2,fun hS=>?_⟩
  iterate 4 refine aW ?_
  refine aG 19 ?_;refine aG 20 ?_;refine cO 18 (SAC.out _ hS) ?_;rintro e w9 ⟨rfl,hb2⟩;refine⟨_,rfl,ah hS hb2,fun hS=>?_⟩;refine cO 21 (XAC.out _ hS) ?_;rintro e w9 ⟨rfl,hb2⟩;refine⟨_,rfl,ah hS hb2,fun hS=>?_⟩
  iterate 5 refine aW ?_
  refine aG 28 ?_;refine aG 29 ?_;refine cO 27 (SCB.out _ hS) ?_;rintro e w9 ⟨rfl,hb2⟩;refine⟨_,rfl,ah hS hb2,fun hS=>?_⟩;refine cO 30 (XCB.out _ hS) ?_;rintro e w9 ⟨rfl,hb2⟩;refine⟨_,rfl,ah hS hb2,fun hS=>?_⟩
  iterate 3 refine aW ?_
  refine dH ?_;have hend:=ah hbw hS;clear hc SAB SAA SAC XAC SCB XCB hs1;go_wp2;go_ret;exact⟨rfl,hend⟩
end Go.Proofs.YtimokmplkpbmdaaGreatDoor
