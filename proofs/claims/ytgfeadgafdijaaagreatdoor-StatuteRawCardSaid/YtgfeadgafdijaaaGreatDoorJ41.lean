/- A part of the proof: Yw Yz YB. -/
import Derived.Test.YtgfeadgafdijaaaGreatDoorJ01
import Derived.Test.YtgfeadgafdijaaaGreatDoorJ32
import Derived.Test.YtgfeadgafdijaaaGreatDoorJ34
import Derived.Test.YtgfeadgafdijaaaGreatDoorJ35
import Derived.Test.YtgfeadgafdijaaaGreatDoorJ36
import Derived.Test.YtgfeadgafdijaaaGreatDoorJ38
import Derived.Test.YtgfeadgafdijaaaGreatDoorJ40
set_option linter.unusedVariables false
set_option linter.unusedSimpArgs false
set_option maxRecDepth 100000
set_option maxHeartbeats 40000000
namespace Go.Proofs.YtgfeadgafdijaaaGreatDoor
open Go.RowKit
theorem FV {xs:List Int} {j:Nat} (h:j<xs.length):eH (xs.drop j)=if xs[j]=0 then eH (xs.drop (j+1)) else xs[j]:=by rw[List.drop_eq_getElem_cons h,uU]
theorem X7 (l:Lw) (ss:List (Sc × Hd)) (ps:List (Pv × Hd)) (f s p:Hd) (w:World) (h:fG w l ss ps f s p) (hF:lU l)
  (HN:Hid (∀W,Below w.heap.size w W→Calls Tryz.prog 35 #[dQ f s p] W fun e w'=>e=.returned (.int .i64 (lq l))∧Below W.heap.size W w')):
  Calls Tryz.prog 18 #[dQ f s p] w fun e w'=>e=.returned (.int .i64 (bT l))∧Below w.heap.size w w':=by
 have yU:=zH (fun W hb=>UJ l ss ps f s p W (h.below hb));obtain⟨y,hy⟩:=zE (bT l)
 have HY:Hid (y=if 20<l.facts.length∨8<l.bI.length∨30<l.aP.length then 2 else if lq l≠0 then lq l else if mV l=false then 13 else
  if eH (ss.map fun s=>fF s.1.bQ)≠0 then eH (ss.map fun s=>fF s.1.bQ) else eH (ps.map fun x=>jB (jA l) x.1)):=by
  show _=_;rw[hy];unfold bT;rw[←h.sl,←h.pl,List.map_map,List.map_map];rfl
 rw[←hy]
 have ni:Hid (l.facts.length≤100→ss.length≤100→ps.length≤100→∀W,Below w.heap.size w W→Calls Tryz.prog 17 #[dQ f s p] W (ZI (jA l) W)):=fun a1 a2 a3 W hb=>by
  have k:=Lu l.facts ss ps f s p W (h.f.below hb) (h.s.below hb) (h.p.below hb) a1 a2 a3
  have e:l.facts.map jR++(lV ps 0++ss.map fun x=>lI x.1)=jA l:=by
   unfold jA lV;rw[←h.sl,←h.pl];simp[List.map_map];rfl
  rw[e] at k;exact k
 have FD:=zH (fun x (hx:x∈ss)=>hF.sb x.1 (by rw[←h.sl];exact List.mem_map_of_mem hx));have sZ:=zH (fun x (hx:x∈ps)=>hF.pb x.1 (by rw[←h.pl];exact List.mem_map_of_mem hx));have HSL:Hid (l.bI.length=ss.length):=by show _=_;rw[←h.sl,List.length_map]
 have qF:Hid (l.aP.length=ps.length):=by show _=_;rw[←h.pl,List.length_map]
 obtain⟨hf,hs,hp,_,_,hsb,hpb⟩:=h;have jh:=zH hsb;have Jb:=zH hpb;obtain⟨fa,fn,fc⟩:=f;obtain⟨sa,sn,sc⟩:=s;obtain⟨pa,pn,pc⟩:=p;have yY:Hid (fn=l.facts.length):=hf.len;have wI:Hid (sn=ss.length):=hs.len;have yZ:Hid (pn=ps.length):=hp.len;rw[←yY.out,HSL.out,qF.out,←wI.out,←yZ.out] at HY;rw[←yY.out,←wI.out,←yZ.out] at ni;unfold dQ at HN yU ni⊢;simp only at HN yU ni⊢;obtain⟨nz,hnz⟩:=zF (lq l);rw[hnz] at HN HY;obtain⟨tz,htz⟩:=zF (mV l);rw[htz] at yU HY;obtain⟨sg,hsg⟩:=zF (jA l);rw[hsg] at ni HY;clear hy hF hsb hpb hf hnz htz hsg yY HSL qF;go_enter Tryz.func18,Tryz.ntmps18
 go_upto_region 1 with fail
 generalize hX:w.alloc _=W;obtain⟨hk,hb0⟩:=zA hX;have hL:=fun (X:World) (h:Below W.heap.size W X)=>show X.cell? ⟨w.heap.size,0,none⟩=some (.slice fa fn fc)∧X.cell? ⟨w.heap.size,1,none⟩=some (.slice sa sn sc)∧X.cell? ⟨w.heap.size,2,none⟩=some (.slice pa pn pc) from⟨(hk.below h hk.lt).cells 0,(hk.below h hk.lt).cells 1,(hk.below h hk.lt).cells 2⟩
 have hl:=hL W (Below.refl _ _);replace hs:=hs.below hb0;replace hp:=hp.below hb0;clear hX hk;by_cases h1:20<fn
 ·have HE:Hid (y=2):=HY.out.trans (if_pos (.inl h1));have h1':(20:Int)<fn:=by omega
  go_wp2;go_ret;exact⟨by rw[HE.out];rfl,hb0⟩
 by_cases h2:8<sn
 ·have HE:Hid (y=2):=HY.out.trans (if_pos (.inr (.inl h2)));have h1':¬(20:Int)<fn:=by omega
  have h2':(8:Int)<sn:=by omega
  go_wp2;go_ret;exact⟨by rw[HE.out];rfl,hb0⟩
 by_cases h3:30<pn
 ·have HE:Hid (y=2):=HY.out.trans (if_pos (.inr (.inr h3)));have h1':¬(20:Int)<fn:=by omega
  have h2':¬(8:Int)<sn:=by omega
  have h3':(30:Int)<pn:=by omega
  go_wp2;go_ret;exact⟨by rw[HE.out];rfl,hb0⟩
 have hY:=HY.out;rw[if_neg (by omega)] at hY;replace HY:=zH hY;replace ni:=zH (ni.out (by omega) (by omega) (by omega));have h1':¬(20:Int)<fn:=by omega
 have h2':¬(8:Int)<sn:=by omega
 have h3':¬(30:Int)<pn:=by omega
 clear hY;go_wp2_with fail;refine (HN.out _ hb0).mono ?_;rintro e w1 ⟨rfl,hb⟩;clear hl;have hl:=hL _ hb;by_cases h4:nz=0
 ·have hY:=HY.out;rw[if_neg (by simp[h4])] at hY;replace HY:=zH hY;subst h4;clear hY HN;go_wp2_with fail;refine (yU.out _ (ah hb0 hb)).mono ?_;unfold Ae;rintro e w2 ⟨rfl,hb2⟩;replace hb:=ah hb hb2;clear hl hb2 yU;have hl:=hL _ hb;cases tz
  ·have HE:Hid (y=13):=HY.out.trans (if_pos rfl);go_wp2;go_ret;exact⟨by rw[HE.out];rfl,ah hb0 hb⟩
  ·have hY:=HY.out;rw[if_neg (by decide)] at hY;replace HY:=zH hY;clear hY;go_wp2;clear hl;obtain⟨EL,hEL⟩:=zF (ss.map fun s=>fF s.1.bQ);obtain⟨PL,hPL⟩:=zF (ps.map fun x=>jB sg x.1);rw[hEL,hPL] at HY;have HEL:=zH hEL;have HPQ:=zH hPL;clear hEL hPL
   go_loopg [4] sn (fun g iv X=>∃j:Nat,j+g=sn∧iv=.int .i64 j∧Below W.heap.size W X∧Hid (eH (EL.drop j)=eH EL))
   case atStart=>exact⟨0,by omega,rfl,hb,rfl⟩
   case round=>
    clear hb;obtain⟨j,hj,rfl,hb,HE⟩:=hrel;have hl:=hL _ hb;by_cases hlt:j<sn
    ·obtain⟨b,off,nm,m,d,bs,hd,rfl,_,hx,hx2,hc⟩:=Bv hs hlt;have hm:=List.getElem_mem hx;rw[hx2] at hm;have hje:j<EL.length:=by rw[←HEL.out,List.length_map];exact hx
     have he:=HE.out;rw[FV hje,show EL[j]=fF bs by simp only[←HEL.out,List.getElem_map,hx2]] at he;have rH:=zH (fun X (h:Below W.heap.size W X)=>OY nm m d bs hd X ((jh.out _ hm).below (ah hb0 h)) (FD.out _ hm));obtain⟨z,hz⟩:=zF (fF bs);rw[hz] at rH he;replace HE:=zH he;have hc1:=hc _ hb;clear he hz hx2 hm hc hje;go_wp2_with fail;refine (rH.out _ hb).mono ?_;rintro e w3 ⟨rfl,hb3⟩;replace hb:=ah hb hb3;clear hc1 hb3 hl;by_cases h5:z=0
     ·have he:=HE.out;rw[if_pos h5] at he;replace HE:=zH he;subst h5;clear he;go_wp2
      go_roundg (sn-(j+1))
      case measure=>omega
      case rel=>exact⟨j+1,by omega,by go_num,hb,HE.out⟩
     ·have he:=HE.out;rw[if_neg h5] at he;have HE2:Hid (y=z):=by show _=_;rw[HY.out,←he,if_pos h5]
      have hz1:(z !=0)=true:=by simp[h5]
      have hz2:(z==0)=false:=by simp[h5]
      clear h5 he;go_wp2;go_ret;exact⟨by rw[HE2.out];rfl,ah hb0 hb⟩
    ·have pI:Hid (y=eH PL):=by
      have he:=HE.out;rw[List.drop_eq_nil_of_le (by rw[←HEL.out,List.length_map];have:=wI.out;omega)] at he;show _=_;rw[HY.out,←he,if_neg (by decide)]
     clear HE HY;go_wp2_with fail;refine (ni.out _ (ah hb0 hb)).mono ?_;rintro e w4 ⟨v,rfl,ho,hb4⟩;obtain⟨A1,c1,rfl,g1,g2,g3,_⟩:=bM ho;have tK:=zH (fun X (h:Below w4.heap.size w4 X) x (hx:x∈ps) (hw:Below w.heap.size w X)=>JV sg x A1 sg.length c1 X rfl (Nat.le_trans g1 g2) (g3.below h) ((Jb.out x hx).below hw) (sZ.out x hx).1 (sZ.out x hx).2.1 (sZ.out x hx).2.2);replace hb:=ah hb hb4;clear hl ho g1 g2 g3 hb4;go_wp2
     go_loopg [6] pn (fun g iv X=>∃j:Nat,j+g=pn∧iv=.int .i64 j∧Below W.heap.size W X∧Below w4.heap.size w4 X∧Hid (eH (PL.drop j)=eH PL))
     case atStart=>exact⟨0,by omega,rfl,hb,Below.refl _ _,rfl⟩
     case round=>
      clear hb;obtain⟨j,hj,rfl,hb,hb5,HE⟩:=hrel;have hl:=hL _ hb;by_cases hlt:j<pn
      ·obtain⟨b,off,x,rfl,_,hx,hx2,hc⟩:=Bz hp hlt;have hm:=List.getElem_mem hx;rw[hx2] at hm;have hje:j<PL.length:=by rw[←HPQ.out,List.length_map];exact hx
       have he:=HE.out;rw[FV hje,show PL[j]=jB sg x.1 by simp only[←HPQ.out,List.getElem_map,hx2]] at he;have rH:=tK.out _ hb5 x hm (ah hb0 hb);obtain⟨z,hz⟩:=zF (jB sg x.1);rw[hz] at rH he;replace HE:=zH he;have hc1:=hc _ hb;clear he hz hx2 hm hc hje;obtain⟨⟨pnm,⟨ty0,ty1,ty2⟩,ch,⟨kW,kX,kY⟩,⟨kZ,lg,cn3⟩,bo⟩,⟨ha,hnn,hcc⟩⟩:=x;unfold bg at rH;simp only at rH hc1;replace rH:=zH rH;go_wp2_with fail;refine rH.out.mono ?_;rintro e w5 ⟨rfl,hb6⟩;replace hb:=ah hb hb6;replace hb5:=ah hb5 hb6;clear hc1 hb6 hl;by_cases h5:z=0
       ·have he:=HE.out;rw[if_pos h5] at he;replace HE:=zH he;subst h5;clear he;go_wp2
        go_roundg (pn-(j+1))
        case measure=>omega
        case rel=>exact⟨j+1,by omega,by go_num,hb,hb5,HE.out⟩
       ·have he:=HE.out;rw[if_neg h5] at he;have HE2:Hid (y=z):=by show _=_;rw[pI.out,←he]
        have hz1:(z !=0)=true:=by simp[h5]
        have hz2:(z==0)=false:=by simp[h5]
        clear h5 he;go_wp2;go_ret;exact⟨by rw[HE2.out];rfl,ah hb0 hb⟩
      ·have HE2:Hid (y=0):=by
        have he:=HE.out;rw[List.drop_eq_nil_of_le (by rw[←HPQ.out,List.length_map];have:=yZ.out;omega)] at he;show _=_;rw[pI.out,←he];rfl
       go_wp2;go_ret;exact⟨by rw[HE2.out];rfl,ah hb0 hb⟩
 ·have HE:Hid (y=nz):=HY.out.trans (if_pos h4);have hz1:(nz !=0)=true:=by simp[h4]
  have hz2:(nz==0)=false:=by simp[h4]
  clear h4;go_wp2;go_ret;exact⟨by rw[HE.out];rfl,ah hb0 hb⟩
theorem aa8 {w:World} {A:Option Addr} {n c j:Nat} {xs:List Sg} (k:aU w Sg.cells xs ⟨A,n,c⟩) (hj:j<n):∃b off op nm t m d,A=some ⟨b,off,none⟩∧∃hx:j<xs.length,xs[j]=⟨op,nm,⟨t,m,d⟩⟩∧∀X,Below w.heap.size w X→X.cell? ⟨b,off+j*5,none⟩=some (.int .i64 op)∧X.cell? ⟨b,off+j*5+1,none⟩=some (.string nm)∧X.cell? ⟨b,off+j*5+2,none⟩=some (.bool t)∧X.cell? ⟨b,off+j*5+3,none⟩=some (.int .i64 m)∧X.cell? ⟨b,off+j*5+4,none⟩=some (.int .i64 d):=by
 obtain⟨b,off,hA,hb,hx,hc⟩:=k.at 5 (fun _=>rfl) (by omega) hj;exact⟨b,off,_,_,_,_,_,hA,hx,rfl,fun X hX=>⟨hc X hX 0 _ rfl,hc X hX 1 _ rfl,hc X hX 2 _ rfl,hc X hX 3 _ rfl,hc X hX 4 _ rfl⟩⟩
theorem ZX (l:Lw) (ss:List (Sc × Hd)) (ps:List (Pv × Hd)) (f s p:Hd) (w:World) (hK:bZ w) (h:fG w l ss ps f s p) (hR:Raw l):
  Calls Tryz.prog 7 #[dQ f s p] w fun e w'=>e=.returned (.bool true)∧Below w.heap.size w w':=by
 have HT:Hid (∀W,Below w.heap.size w W→Calls Tryz.prog 9 #[dQ f s p] W fun e w'=>e=.returned (pz l)∧Below W.heap.size W w'):=fun W hb=>by
  by_cases hn:gI l=[]
  ·obtain rfl:=ZV hn;obtain rfl:ss=[]:=List.map_eq_nil_iff.1 h.sl;obtain rfl:ps=[]:=List.map_eq_nil_iff.1 h.pl;exact XP f s p W (hK.below hb) (h.below hb)
  ·exact Ei l ss ps f s p W (hK.below hb) (h.below hb) hR.fine (fun hc=>⟨hR.UW hc,hn,hR.text hc⟩)
 have HC:=zH (fun W hb=>tu l ss ps f s p W (hK.below hb) (h.below hb) hR.fine)
 have HD:Hid (∀W,Below w.heap.size w W→Calls Tryz.prog 18 #[dQ f s p] W fun e w'=>e=.returned (.int .i64 (bT l))∧Below W.heap.size W w'):=fun W hb=>
  X7 l ss ps f s p W (h.below hb) hR.fine (fun X hb2=>Pm l ss ps f s p X (h.below (ah hb hb2)) hR.fine)
 have HU:Hid (∀W,Below w.heap.size w W→Calls Tryz.prog 16 #[dQ f s p] W fun e w'=>e=.returned (pz l)∧Below W.heap.size W w'):=fun W hb=>
  ZT l (gI l) f s p W (fun X hb2=>HD.out X (ah hb hb2)) (fun hc X hb2=>by
   have k:=UR l ss ps f s p X (h.below (ah hb hb2)) (hR.aeM hc);rw[ZU h.sl h.pl hc] at k;exact k (by have:=hR.text hc;omega))
 have HS:=zH (fun W hb=>D9 l ss ps f s p W (h.below hb) hR.fine)
 have HX:Hid (∀W,Below w.heap.size w W→Calls Tryz.prog 17 #[dQ f s p] W (ZI (jA l) W)):=fun W hb=>by
  have a1:=hR.fn;have a2:=hR.sn;have a3:=hR.pn;rw[←h.sl,List.length_map] at a2;rw[←h.pl,List.length_map] at a3;have k:=Lu l.facts ss ps f s p W (h.f.below hb) (h.s.below hb) (h.p.below hb) (by omega) (by omega) (by omega)
  have e:l.facts.map jR++(lV ps 0++ss.map fun x=>lI x.1)=jA l:=by
   unfold jA lV;rw[←h.sl,←h.pl];simp[List.map_map];rfl
  rw[e] at k;exact k
 unfold pz at HT HU;obtain⟨z,hz⟩:=zF (bT l);rw[hz] at HC HD HT HU;obtain⟨T,hT⟩:=zF (⟨(if z=0 then gI l else []).toArray⟩:ByteArray);rw[hT] at HT HU;obtain⟨sg,hsg⟩:=zF (jA l);rw[hsg] at HS HX;obtain⟨fa,fn,fc⟩:=f;obtain⟨sa,sn,sc⟩:=s;obtain⟨pa,pn,pc⟩:=p;unfold dQ at HT HC HD HU HS HX⊢;simp only at HT HC HD HU HS HX⊢;clear h hK hR hz hT hsg;go_enter Tryz.func7,Tryz.ntmps7
 go_upto_region 1 with fail
 generalize hX:w.alloc _=W;obtain⟨hk,hb0⟩:=zA hX;have hL:=fun (X:World) (h:Below W.heap.size W X)=>show X.cell? ⟨w.heap.size,0,none⟩=some (.slice fa fn fc)∧X.cell? ⟨w.heap.size,1,none⟩=some (.slice sa sn sc)∧X.cell? ⟨w.heap.size,2,none⟩=some (.slice pa pn pc) from⟨(hk.below h hk.lt).cells 0,(hk.below h hk.lt).cells 1,(hk.below h hk.lt).cells 2⟩
 have hl:=hL W (Below.refl _ _);clear hX hk;go_wp2_with fail;refine (HT.out _ hb0).mono ?_;rintro e w1 ⟨rfl,hb⟩;clear hl HT;have hl:=hL _ hb;go_wp2_with fail;refine (HU.out _ (ah hb0 hb)).mono ?_;rintro e w2 ⟨rfl,hb2⟩;replace hb:=ah hb hb2;clear hl hb2 HU;have hl:=hL _ hb;go_wp2_with fail;refine (HS.out _ (ah hb0 hb)).mono ?_;rintro e w3 ⟨⟨A1,n1,c1⟩,rfl,hr1,hb3⟩;replace hb:=ah hb hb3;clear hl hb3 HS;have hl:=hL _ hb;go_wp2_with fail;refine (HX.out _ (ah hb0 hb)).mono ?_;rintro e w4 ⟨v,rfl,ho,hb4⟩;obtain⟨⟨A2,n2,c2⟩,rfl,_,hr2⟩:=aU.mP (enc:=Sg.cells) ho rfl;replace hb:=ah hb hb4;replace hr1:=hr1.below hb4;obtain rfl:n1=n2:=hr1.len.trans hr2.len.symm;clear hl hb4 HX ho;have hl:=hL _ hb;have hb5:=Below.refl w4.heap.size w4;have hm1:=hr1.cap;have hm2:=hr1.max;unfold maxLen at hm2;simp only at hm1 hm2;go_wp2
 go_loopg [9] n1 (fun g iv X=>∃j:Nat,j+g=n1∧iv=.int .i64 j∧Below w4.heap.size w4 X)
 case atStart=>exact⟨0,by omega,rfl,hb5⟩
 case round=>
  clear hb5 hl;obtain⟨j,hj,rfl,hb5⟩:=hrel;by_cases hlt:j<n1
  ·obtain⟨b1,o1,op,nm,t,m,d,rfl,hx,hx1,hc1⟩:=aa8 hr1 hlt;obtain⟨b2,o2,op2,nm2,t2,m2,d2,rfl,_,hx2,hc2⟩:=aa8 hr2 hlt;rw[hx1] at hx2;injection hx2 with e1 e2 e3;injection e3 with e3 e4 e5;subst e1 e2 e3 e4 e5;have hc:=fun X (h:Below w4.heap.size w4 X)=>And.intro (hc1 X h) (hc2 X h)
   have j0:(0:Int)≤(j:Int):=by omega
   have j1:(j:Int)<(n1:Int):=by omega
   clear hx1 hc1 hc2 hr1 hr2
   go_upto_region 10 with fail
   refine gy (Below w4.heap.size w4) 99 hb5.drew (fun w5 h5 hS=>?_)
   iterate 9 refine bU ?_
   refine dY ?_;go_wp2
   go_roundg (n1-(j+1))
   case measure=>omega
   case rel=>exact⟨j+1,by omega,by go_num,hS⟩
  ·have hl:=fun X (h:Below w4.heap.size w4 X)=>hL X (ah hb h)
   go_upto_region 12 with fail
   refine gy (Below w4.heap.size w4) 99 hb5.drew (fun w5 h5 hS=>?_)
   iterate 9 refine bU ?_
   refine bW 9 ?_;refine bW 11 ?_;refine eY 10 (HC.out w5 (ah hb0 (ah hb hS))) ?_;rintro e w6 ⟨rfl,hb6⟩;refine⟨_,rfl,ah hS hb6,fun hS=>?_⟩;refine eY 12 (HD.out w6 (ah hb0 (ah hb hS))) ?_;rintro e w7 ⟨rfl,hb7⟩;refine⟨_,rfl,ah hS hb7,fun hS=>?_⟩
   iterate 3 refine bU ?_
   refine dY ?_;go_wp2;go_ret;exact⟨rfl,ah hb0 (ah hb hS)⟩
theorem ZY (l:Lw) (ss:List (Sc × Hd)) (ps:List (Pv × Hd)) (f s p:Hd) (w:World) (hK:bZ w) (h:fG w l ss ps f s p)
  (hY:∀W,Below w.heap.size w W→Calls Tryz.prog 4 #[] W fun e w'=>e=.returned (.bool true)∧Below W.heap.size W w'):
  Calls Tryz.prog 3 #[dQ f s p] w fun e w'=>e=.returned (.bool true)∧Below w.heap.size w w':=by
 have HY:=zH hY;have HK:=zH hK;have jh:=zH h.sb;have Jb:=zH h.pb
 have HE:Hid ((⟨(l.facts.take 25).map Em,(ss.take 10).map (fun x=>BI x.1),(ps.take 35).map (fun x=>JM x.1)⟩:Lw)=Pg l):=by
  show _=_;unfold Pg;rw[←h.sl,←h.pl,←List.map_take,←List.map_take,List.map_map,List.map_map];rfl
 have X8:Hid (∀(t:ByteArray) (W:World),Calls Tryz.prog 5 #[.string t] W fun e w'=>e=.returned (.string (oG t))∧w'=W):=UC;have X9:Hid (∀(a:Bool) (u d:ByteArray) (W:World),Calls Tryz.prog 6 #[.agg #[.bool a,.string u,.string d]] W fun e w'=>e=.returned (.agg #[.bool a,.string (iI u),.string (iI d)])∧Below W.heap.size W w'):=fun a u d W=>Qg ⟨a,u,d⟩ W
 obtain⟨hf,hs,hp,_,_,_,_⟩:=h;obtain⟨fa,fn,fc⟩:=f;obtain⟨sa,sn,sc⟩:=s;obtain⟨pa,pn,pc⟩:=p;unfold dQ;simp only
 clear hY hK;go_enter Tryz.func3,Tryz.ntmps3
 go_upto_region 1 with fail
 generalize hX:w.alloc _=W;obtain⟨hk,hb0⟩:=zA hX;clear hX;go_wp2_with fail;refine (HY.out W hb0).mono ?_;rintro e w1 ⟨rfl,hb1⟩;have hL:=fun (X:World) (h:Below w1.heap.size w1 X)=>show X.cell? ⟨w.heap.size,0,none⟩=some (.slice fa fn fc)∧X.cell? ⟨w.heap.size,1,none⟩=some (.slice sa sn sc)∧X.cell? ⟨w.heap.size,2,none⟩=some (.slice pa pn pc) from⟨(hk.below (ah hb1 h) hk.lt).cells 0,(hk.below (ah hb1 h) hk.lt).cells 1,(hk.below (ah hb1 h) hk.lt).cells 2⟩
 have HB:Hid (Below w.heap.size w w1):=ah hb0 hb1;replace hf:=hf.below HB.out;replace hs:=hs.below HB.out;replace hp:=hp.below HB.out;have yY:Hid (fn=l.facts.length):=hf.len;have wI:Hid (sn=ss.length):=hs.len;have yZ:Hid (pn=ps.length):=hp.len;clear hk hb0 hb1 HY
 go_upto_region 3 with fail
 generalize hX:w1.alloc _=W;obtain⟨hk,hb⟩:=zA hX;have h:PT w1 W w1.heap.size ⟨[],[],[]⟩ [] [] (.slice none 0 0) (.slice none 0 0) (.slice none 0 0):=⟨Nat.le_refl _,hb,hk,World.ownsRow_nil _ _ _ _,World.ownsRow_nil _ _ _ _,World.ownsRow_nil _ _ _ _,rfl,rfl,fun x hx=>(by cases hx),fun x hx=>(by cases hx)⟩
 generalize w1.heap.size=R at h⊢;clear hX hk hb;go_wp2
 go_loopg [5] 25 (fun g iv X=>∃(j:Nat) (fv:Value),j+g=25∧j≤fn∧iv=.int .i64 j∧PT w1 X R ⟨(l.facts.take j).map Em,[],[]⟩ [] [] fv (.slice none 0 0) (.slice none 0 0))
 case atStart=>exact⟨0,_,by omega,by omega,rfl,h⟩
 case round=>
  clear h;obtain⟨j,fv,hj,hjn,rfl,h⟩:=hrel;obtain⟨b,hbb⟩:=zF (decide (j<fn∧j<25));have hd:=dt hbb;have cO:=zH hbb;clear hbb;have hl:=hL _ h.bl
  go_upto_region 4 with fail
  go_cut [24] from 25 to 45 (fun v X=>v=.bool b∧X=wr)
  case first=>
   by_cases h1:j<fn
   ·have h1':(j:Int)<(fn:Int):=by omega
    by_cases h2:j<25
    ·have h2':(j:Int)<25:=by omega
     obtain rfl:=hd.1 h1 h2;clear hd;go_wp2
     go_meet
     case rel=>exact⟨rfl,rfl⟩
    ·have h2':¬(j:Int)<25:=by omega
     obtain rfl:=hd.2.2 h1 h2;clear hd;go_wp2
     go_meet
     case rel=>exact⟨rfl,rfl⟩
   ·have h1':¬(j:Int)<(fn:Int):=by omega
    obtain rfl:=hd.2.1 h1;clear hd;go_wp2
    go_meet
    case rel=>exact⟨rfl,rfl⟩
  case rest=>
   obtain⟨rfl,rfl⟩:=hcut;clear hl hd;cases b
   ·have HF:Hid ((l.facts.take j).map Em=(l.facts.take 25).map Em):=by show _=_;rw[yF yY.out cO.out hjn (by omega)]
    rw[HF.out] at h;generalize (l.facts.take 25).map Em=F at h HE;clear HF cO hjn hj hf yY;go_wp2
    go_loopg [6] 10 (fun g iv X=>∃(i:Nat) (sv:Value) (sq:List (Sc × Hd)),i+g=10∧i≤sn∧iv=.int .i64 i∧PT w1 X R ⟨F,(ss.take i).map (fun x=>BI x.1),[]⟩ sq [] fv sv (.slice none 0 0))
    case atStart=>exact⟨0,_,[],by omega,by omega,rfl,h⟩
    case round=>
     clear h;obtain⟨i,sv,sq,hi,hin,rfl,h⟩:=hrel;obtain⟨b,hbb⟩:=zF (decide (i<sn∧i<10));have hd:=dt hbb;have cO:=zH hbb;clear hbb;have hl:=hL _ h.bl
     go_upto_region 8 with fail
     go_cut [54] from 55 to 112 (fun v X=>v=.bool b∧X=wr)
     case first=>
      by_cases h1:i<sn
      ·have h1':(i:Int)<(sn:Int):=by omega
       by_cases h2:i<10
       ·have h2':(i:Int)<10:=by omega
        obtain rfl:=hd.1 h1 h2;clear hd;go_wp2
        go_meet
        case rel=>exact⟨rfl,rfl⟩
       ·have h2':¬(i:Int)<10:=by omega
        obtain rfl:=hd.2.2 h1 h2;clear hd;go_wp2
        go_meet
        case rel=>exact⟨rfl,rfl⟩
      ·have h1':¬(i:Int)<(sn:Int):=by omega
       obtain rfl:=hd.2.1 h1;clear hd;go_wp2
       go_meet
       case rel=>exact⟨rfl,rfl⟩
     case rest=>
      obtain⟨rfl,rfl⟩:=hcut;clear hl hd;cases b
      ·have HF:Hid ((ss.take i).map (fun x=>BI x.1)=(ss.take 10).map (fun x=>BI x.1)):=by show _=_;rw[yF wI.out cO.out hin (by omega)]
       rw[HF.out] at h;generalize (ss.take 10).map (fun x=>BI x.1)=SS at h HE;clear HF cO hin hi hs wI jh;go_wp2
       go_loopg [10] 35 (fun g iv X=>∃(i:Nat) (pv:Value) (pq:List (Pv × Hd)),i+g=35∧i≤pn∧iv=.int .i64 i∧PT w1 X R ⟨F,SS,(ps.take i).map (fun x=>JM x.1)⟩ sq pq fv sv pv)
       case atStart=>exact⟨0,_,[],by omega,by omega,rfl,h⟩
       case round=>
        clear h;obtain⟨i,pv,pq,hi,hin,rfl,h⟩:=hrel;obtain⟨b,hbb⟩:=zF (decide (i<pn∧i<35));have hd:=dt hbb;have cO:=zH hbb;clear hbb;have hl:=hL _ h.bl
        go_upto_region 18 with fail
        go_cut [121] from 122 to 182 (fun v X=>v=.bool b∧X=wr)
        case first=>
         by_cases h1:i<pn
         ·have h1':(i:Int)<(pn:Int):=by omega
          by_cases h2:i<35
          ·have h2':(i:Int)<35:=by omega
           obtain rfl:=hd.1 h1 h2;clear hd;go_wp2
           go_meet
           case rel=>exact⟨rfl,rfl⟩
          ·have h2':¬(i:Int)<35:=by omega
           obtain rfl:=hd.2.2 h1 h2;clear hd;go_wp2
           go_meet
           case rel=>exact⟨rfl,rfl⟩
         ·have h1':¬(i:Int)<(pn:Int):=by omega
          obtain rfl:=hd.2.1 h1;clear hd;go_wp2
          go_meet
          case rel=>exact⟨rfl,rfl⟩
        case rest=>
         obtain⟨rfl,rfl⟩:=hcut;clear hl hd;cases b
         ·have HF:Hid ((ps.take i).map (fun x=>JM x.1)=(ps.take 35).map (fun x=>JM x.1)):=by show _=_;rw[yF yZ.out cO.out hin (by omega)]
          rw[HF.out,HE.out] at h;obtain⟨⟨f1,f2,f3⟩,⟨s1,s2,s3⟩,⟨p1,p2,p3⟩,rfl,rfl,rfl,qW⟩:=h.law;have hsm:=ZX (Pg l) sq pq _ _ _ _ (HK.out.below (ah HB.out h.bl)) qW (abW l);unfold dQ at hsm;simp only at hsm;have HSM:=zH hsm;have lG:=zH (ah HB.out h.bl);have kR:=h.blk.cells;clear hsm qW h HF cO hin hi hp yZ Jb;go_wp2_with fail;refine HSM.out.mono ?_;rintro e w9 ⟨rfl,eP⟩;go_wp2;go_ret;exact⟨rfl,ah lG.out eP⟩
         ·have hbb:=of_decide_eq_true cO.out;have h1:=hbb.1;have h2:=hbb.2;clear hbb cO
          rename World=>W1
          obtain⟨ab,off,x,rfl,_,hx,hx1,hc⟩:=Bz hp h1;have HT:=zH (nT (fun x:Pv × Hd=>JM x.1) ps hx);have hbr:=Jb.out _ (List.getElem_mem hx);rw[hx1] at HT hbr;obtain⟨⟨nm,⟨t0,t1,t2⟩,ch,⟨s0,s1,s2⟩,⟨c0,c1,c2⟩,bo⟩,⟨ba,bn,bc⟩⟩:=x;replace hbr:aU w1 Nd.cells bo ⟨ba,bn,bc⟩:=hbr.below HB.out;have jc:Hid (bn=bo.length):=hbr.len;have i0:(0:Int)≤(i:Int):=by omega
          have i1:(i:Int)<(pn:Int):=by omega
          have hlen:pq.length≤35:=by have:=congrArg List.length h.pl;simp only[List.length_map,List.length_take] at this;omega
          have rP:=zH hlen;have hl:=And.intro (hL _ h.bl) (hc _ h.bl);simp only at hl;clear hx1 hc hlen
          go_upto_region 21 with fail
          generalize hX:World.alloc _ _=X;obtain⟨hk,hb⟩:=zA hX;have cK:=hk.cells;have fK:=hk.aF;clear hl hX
          go_upto_region 23 with fail
          generalize hY:World.setCell _ _ _=Y;have k:IS W1 Y 46 [.string nm,.bool t0,.int .i64 t1,.int .i64 t2,.slice none 0 0,.bool ch,.bool s0,.string s1,.string s2,.bool c0,.string c1,.string c2] 48 5 (.slice none 0 0) 0 []:=by rw[←hY];exact⟨hb.setCell (p:=⟨_,4,none⟩) (Nat.le_refl _) _,hk.set 4 _,World.ownsRow_nil _ _ _ _⟩
          clear hY hk hb cK fK;have cK:=k.b.cells;go_wp2_with fail;refine (X8.out nm _).mono ?_;rintro e w4 ⟨rfl,rfl⟩;have fK:=k.b.aF
          go_upto_region 24 with fail
          replace k:=k.put 0 (.string (oG nm));simp only[List.set] at k;generalize World.setCell w4 _ _=Y at k⊢;clear cK fK;have cK:=k.b.cells;go_wp2_with fail;refine (X9.out s0 s1 s2 _).mono ?_;rintro e w5 ⟨rfl,hb5⟩;replace k:=k.below hb5;clear cK hb5;have cK:=k.b.cells;have fK:=k.b.aF
          go_upto_region 25 with fail
          replace k:=((k.put 6 (.bool s0)).put 7 (.string (iI s1))).put 8 (.string (iI s2));simp only[List.set] at k;generalize World.setCell (World.setCell (World.setCell w5 _ _) _ _) _ _=Y at k⊢;clear fK cK;have cK:=k.b.cells;go_wp2_with fail;refine (X9.out c0 c1 c2 _).mono ?_;rintro e w6 ⟨rfl,hb6⟩;replace k:=k.below hb6;clear cK hb6;have cK:=k.b.cells;have fK:=k.b.aF
          go_upto_region 26 with fail
          replace k:=((k.put 9 (.bool c0)).put 10 (.string (iI c1))).put 11 (.string (iI c2));simp only[List.set] at k;generalize World.setCell (World.setCell (World.setCell w6 _ _) _ _) _ _=Y at k⊢;clear fK cK;go_wp2
          go_loopg [13] 8 (fun g iv X=>∃(q:Nat) (nv:Value),q+g=8∧q≤bn∧iv=.int .i64 q∧IS W1 X 46 [.string (oG nm),.bool t0,.int .i64 t1,.int .i64 t2,nv,.bool ch,.bool s0,.string (iI s1),.string (iI s2),.bool c0,.string (iI c1),.string (iI c2)] 48 5 nv q (((bo.take q).map GL).flatMap Nd.cells))
          case atStart=>exact⟨0,_,by omega,by omega,rfl,k⟩
          case round=>
           clear k;obtain⟨q,nv,hq,VD,rfl,k⟩:=hrel;obtain⟨b,hbb⟩:=zF (decide (q<bn∧q<8));have hd:=dt hbb;have cO:=zH hbb;clear hbb
           go_upto_region 27 with fail
           go_cut [151] from 152 to 176 (fun v X=>v=.bool b∧X=wr)
           case first=>
            by_cases h3:q<bn
            ·have h3':(q:Int)<(bn:Int):=by omega
             by_cases h4:q<8
             ·have h4':(q:Int)<8:=by omega
              obtain rfl:=hd.1 h3 h4;clear hd;go_wp2
              go_meet
              case rel=>exact⟨rfl,rfl⟩
             ·have h4':¬(q:Int)<8:=by omega
              obtain rfl:=hd.2.2 h3 h4;clear hd;go_wp2
              go_meet
              case rel=>exact⟨rfl,rfl⟩
            ·have h3':¬(q:Int)<(bn:Int):=by omega
             obtain rfl:=hd.2.1 h3;clear hd;go_wp2
             go_meet
             case rel=>exact⟨rfl,rfl⟩
           case rest=>
            obtain⟨rfl,rfl⟩:=hcut;clear hd;cases b
            ·have HQ:Hid ((bo.take q).map GL=(bo.take 8).map GL):=by show _=_;rw[yF jc.out cO.out VD (by omega)]
             have h5:=h.below k.bl;obtain⟨A9,c9,rfl,_⟩:=bM k.o;have kR:=h5.blk.cells;have kS:=k.b.cells;go_wp2_with (at_builtin;go_must (refine zPg Et Tryz.underlying24 h5.p (by have:=rP.out;omega) h5.hR ?_));intro v' w5 ho hg;obtain⟨A8,c8,rfl,_⟩:=bM ho;have kL:=(TF.grown h5.p hg).blk h5.blk (by decide);have cL:=kL.cells;have fL:=kL.aF;have hz:=h5.pushP (⟨oG nm,⟨t0,t1,t2⟩,ch,⟨s0,iI s1,iI s2⟩,⟨c0,iI c1,iI c2⟩,(bo.take q).map GL⟩,⟨A9,q,c9⟩) ⟨by show q=List.length (List.map _ _);rw[List.length_map,List.length_take];have:=jc.out;omega,lT k.o (by have:=h.hR;omega)⟩ ho hg;rw[HQ.out] at hz;clear kL ho hg h5 kR kS HQ;go_wp2
             go_roundg (35-(i+1))
             case measure=>omega
             case rel=>exact⟨i+1,_,_,by omega,by omega,by go_num,by rw[HT.out];exact hz⟩
            ·have hbb:=of_decide_eq_true cO.out;have h3:=hbb.1;have h4:=hbb.2;clear hbb cO;obtain⟨bb,bof,op,a1,a2,a3,nm2,rfl,hy,hy1,hcb⟩:=ad8 hbr h3;have HQ:=zH (nT GL bo hy);rw[hy1] at HQ;have q0:(0:Int)≤(q:Int):=by omega
             have q1:(q:Int)<(bn:Int):=by omega
             have hcx:=fun Y (h:aj Y W1.heap.size 46 [.string (oG nm),.bool t0,.int .i64 t1,.int .i64 t2,nv,.bool ch,.bool s0,.string (iI s1),.string (iI s2),.bool c0,.string (iI c1),.string (iI c2)]∧Below w1.heap.size w1 Y)=>And.intro (show Y.cell? ⟨W1.heap.size,4,none⟩=some nv from h.1.cells 4) (hcb Y h.2)
             clear hy1 hcb
             go_upto_region 29 with fail
             refine gy (fun Y=>aj Y W1.heap.size 46 [.string (oG nm),.bool t0,.int .i64 t1,.int .i64 t2,nv,.bool ch,.bool s0,.string (iI s1),.string (iI s2),.bool c0,.string (iI c1),.string (iI c2)]∧Below w1.heap.size w1 Y) 23 ⟨k.b.drew,(ah h.bl k.bl).drew⟩ (fun w3 h3 hS=>?_);replace k:=k.below h3
             iterate 12 refine bU ?_
             refine bW 13 ?_;refine bW 14 ?_;refine bW 15 ?_;refine bW 16 ?_;refine bW 17 ?_;refine eY 12 (X9.out a1 a2 a3 w3) ?_;rintro e w4 ⟨rfl,hb4⟩;refine⟨_,rfl,⟨hS.1.below hb4 hS.1.lt,ah hS.2 hb4⟩,fun hS=>?_⟩;replace k:=k.below hb4;refine eY 18 (X8.out nm2 w4) ?_;rintro e w5 ⟨rfl,rfl⟩;refine⟨_,rfl,hS,fun hS=>?_⟩;refine bU ?_;refine lF 20 (fun _=>⟨hS.1.alloc _,hS.2.alloc hS.2.size _⟩) (fun _=>?_);refine Ah 21 vH Tryz.underlying44 k.o (by omega) k.hW (fun v' w6 ho hg _ _=>⟨⟨k.blk (by decide) hg,ah h.bl (k.blg hg)⟩,fun hS=>?_⟩);obtain⟨A9,c9,rfl,_⟩:=bM ho;have fL:=hS.1.aF;refine bU ?_;refine qg 23 (fun h=>absurd rfl h) (fun _=>?_);refine dY ?_;have k2:=k.push (ys:=((bo.take (q+1)).map GL).flatMap Nd.cells) (by decide) hg (by rw[HQ.out,List.flatMap_append];exact ho) 4;clear hcx hS fL ho hg k hb4 h3;go_wp2
             go_roundg (8-(q+1))
             case measure=>omega
             case rel=>exact⟨q+1,_,by omega,by omega,by go_num,k2⟩
      ·have hbb:=of_decide_eq_true cO.out;have h1:=hbb.1;have h2:=hbb.2;clear hbb cO;obtain⟨ab,off,nm,m,d,bs,⟨ba,bn,bc⟩,rfl,_,hx,hx1,hc⟩:=Bv hs h1;have HT:=zH (nT (fun x:Sc × Hd=>BI x.1) ss hx);have hbr:=jh.out _ (List.getElem_mem hx);rw[hx1] at HT hbr;replace hbr:aU w1 Bk.cells bs ⟨ba,bn,bc⟩:=hbr.below HB.out;have jc:Hid (bn=bs.length):=hbr.len;have i0:(0:Int)≤(i:Int):=by omega
       have i1:(i:Int)<(sn:Int):=by omega
       have hlen:sq.length≤10:=by have:=congrArg List.length h.sl;simp only[List.length_map,List.length_take] at this;omega
       have rP:=zH hlen;clear hx1 hlen;have hcc:=fun X (h:Below w1.heap.size w1 X)=>And.intro (hL X h) (hc X h)
       go_upto_region 10 with fail
       go_cut [7] from 57 to 112 (fun v X=>∃W1,PT w1 W1 R ⟨F,(ss.take i).map (fun x=>BI x.1),[]⟩ sq [] fv sv (.slice none 0 0)∧v=.pointer (some ⟨W1.heap.size,0,none⟩)∧IS W1 X 37 [.string (oG nm),.int .i64 m,.int .i64 d,.slice none 0 0] 42 6 (.slice none 0 0) 0 [])
       case first=>
        refine gy (Below w1.heap.size w1) 99 h.bl.drew (fun w3 h3 hS=>?_);replace h:=h.below h3
        iterate 6 refine bU ?_
        refine bW 7 ?_;refine bW 8 ?_;refine bW 9 ?_;refine bW 10 ?_;refine bW 11 ?_;refine bW 12 ?_;have hS0:=hS;refine Hg 6 14 (opC (X8.out nm w3) ?_) (Kq (fun _=>hS.alloc hS.size _) (fun hS=>?_))
        ·rintro e w4 ⟨rfl,rfl⟩;refine⟨_,rfl,hS,fun hS=>?_⟩;refine bW 13 ?_;refine lF 14 (fun _=>hS.alloc hS.size _) (fun _=>?_);refine qg 15 (fun _=>hS0.alloc hS0.size _) (fun _=>?_);refine dY ?_;go_wp2
         go_meet
         case rel=>exact⟨_,h,rfl,zB _ _,aj.new _ _ _,World.ownsRow_nil _ _ _ _⟩
        ·refine eY 6 (X8.out nm _) ?_;rintro e w4 ⟨rfl,rfl⟩;refine⟨_,rfl,hS,fun hS=>?_⟩;refine bW 13 ?_;refine qg 15 (fun _=>hS0.alloc hS0.size _) (fun _=>?_);refine dY ?_;go_wp2
         go_meet
         case rel=>exact⟨_,h,rfl,zB _ _,aj.new _ _ _,World.ownsRow_nil _ _ _ _⟩
       case rest=>
        clear h;obtain⟨W1,h,rfl,k⟩:=hcut;go_wp2
        go_loopg [8] 10 (fun g iv X=>∃(q:Nat) (bv:Value),q+g=10∧q≤bn∧iv=.int .i64 q∧IS W1 X 37 [.string (oG nm),.int .i64 m,.int .i64 d,bv] 42 6 bv q (((bs.take q).map GK).flatMap Bk.cells))
        case atStart=>exact⟨0,_,by omega,by omega,rfl,k⟩
        case round=>
         clear k;obtain⟨q,bv,hq,VD,rfl,k⟩:=hrel;obtain⟨b,hbb⟩:=zF (decide (q<bn∧q<10));have hd:=dt hbb;have cO:=zH hbb;clear hbb;have hl:=hcc _ (h.below k.bl).bl
         go_upto_region 12 with fail
         go_cut [83] from 84 to 106 (fun v X=>v=.bool b∧X=wr)
         case first=>
          by_cases h3:q<bn
          ·have h3':(q:Int)<(bn:Int):=by omega
           by_cases h4:q<10
           ·have h4':(q:Int)<10:=by omega
            obtain rfl:=hd.1 h3 h4;clear hd;go_wp2
            go_meet
            case rel=>exact⟨rfl,rfl⟩
           ·have h4':¬(q:Int)<10:=by omega
            obtain rfl:=hd.2.2 h3 h4;clear hd;go_wp2
            go_meet
            case rel=>exact⟨rfl,rfl⟩
          ·have h3':¬(q:Int)<(bn:Int):=by omega
           obtain rfl:=hd.2.1 h3;clear hd;go_wp2
           go_meet
           case rel=>exact⟨rfl,rfl⟩
         case rest=>
          obtain⟨rfl,rfl⟩:=hcut;clear hd;cases b
          ·have HQ:Hid ((bs.take q).map GK=(bs.take 10).map GK):=by show _=_;rw[yF jc.out cO.out VD (by omega)]
           have h5:=h.below k.bl;obtain⟨A9,c9,rfl,_⟩:=bM k.o;have kR:=h5.blk.cells;have kS:=k.b.cells;clear hl;go_wp2_with (at_builtin;go_must (refine zPg GN Tryz.underlying23 h5.s (by have:=rP.out;omega) h5.hR ?_));intro v' w5 ho hg;obtain⟨A8,c8,rfl,_⟩:=bM ho;have kL:=(TF.grown h5.s hg).blk h5.blk (by decide);have cL:=kL.cells;have fL:=kL.aF;have hz:=h5.UY (⟨oG nm,m,d,(bs.take q).map GK⟩,⟨A9,q,c9⟩) ⟨by show q=List.length (List.map _ _);rw[List.length_map,List.length_take];have:=jc.out;omega,lT k.o (by have:=h.hR;omega)⟩ ho hg;rw[HQ.out] at hz;clear kL ho hg h5 kR kS HQ;go_wp2
           go_roundg (10-(i+1))
           case measure=>omega
           case rel=>exact⟨i+1,_,_,by omega,by omega,by go_num,by rw[HT.out];exact hz⟩
          ·have hbb:=of_decide_eq_true cO.out;have h3:=hbb.1;have h4:=hbb.2;clear hbb cO;obtain⟨bb,bo,a1,a2,a3,b1,b2,b3,rfl,hy,hy1,hcb⟩:=ad7 hbr h3;have HQ:=zH (nT GK bs hy);rw[hy1] at HQ;have q0:(0:Int)≤(q:Int):=by omega
           have q1:(q:Int)<(bn:Int):=by omega
           have hcb0:=hcb _ (h.below k.bl).bl;clear hy1 hcb
           go_upto_region 15 with fail
           generalize hX:World.alloc _ _=X;obtain⟨hk,hb⟩:=zA hX;have hlt:=fun z (e:bv.ownBlock=some z)=>(k.o.lt z e).2
           replace k:=k.below hb;generalize wc.heap.size=N at hk hlt⊢;clear hX hl hcb0;have hcx:=fun Y (h:aj Y W1.heap.size 37 [.string (oG nm),.int .i64 m,.int .i64 d,bv]∧aj Y N 42 [.bool a1,.string a2,.string a3,.bool b1,.string b2,.string b3])=>show Y.cell? ⟨W1.heap.size,3,none⟩=some bv∧Y.cell? ⟨N,0,none⟩=some (.bool a1)∧Y.cell? ⟨N,1,none⟩=some (.string a2)∧Y.cell? ⟨N,2,none⟩=some (.string a3)∧Y.cell? ⟨N,3,none⟩=some (.bool b1)∧Y.cell? ⟨N,4,none⟩=some (.string b2)∧Y.cell? ⟨N,5,none⟩=some (.string b3) from⟨h.1.cells 3,h.2.cells 0,h.2.cells 1,h.2.cells 2,h.2.cells 3,h.2.cells 4,h.2.cells 5⟩
           refine gy (fun Y=>aj Y W1.heap.size 37 [.string (oG nm),.int .i64 m,.int .i64 d,bv]∧aj Y N 42 [.bool a1,.string a2,.string a3,.bool b1,.string b2,.string b3]) 12 ⟨k.b.drew,hk.drew⟩ (fun w3 h3 hS=>?_);replace k:=k.below h3
           iterate 4 refine bU ?_
           refine bW 5 ?_;refine bW 6 ?_;refine eY 4 (X9.out a1 a2 a3 w3) ?_;rintro e w4 ⟨rfl,hb4⟩;refine⟨_,rfl,⟨hS.1.below hb4 hS.1.lt,hS.2.below hb4 hS.2.lt⟩,fun hS=>?_⟩;replace k:=k.below hb4;refine eY 7 (X9.out b1 b2 b3 w4) ?_;rintro e w5 ⟨rfl,hb5⟩;refine⟨_,rfl,⟨hS.1.below hb5 hS.1.lt,hS.2.below hb5 hS.2.lt⟩,fun hS=>?_⟩;replace k:=k.below hb5;refine bU ?_;refine lF 9 (fun _=>⟨hS.1.alloc _,hS.2.alloc _⟩) (fun _=>?_);refine Ah 10 yD Tryz.underlying35 k.o (by omega) k.hW (fun v' w6 ho hg _ _=>⟨⟨k.blk (by decide) hg,ad6 hS.2 hg hlt⟩,fun hS=>?_⟩);obtain⟨A9,c9,rfl,_⟩:=bM ho;have fL:=hS.1.aF;refine bU ?_;refine qg 12 (fun h=>absurd rfl h) (fun _=>?_);refine dY ?_;have k2:=k.push (ys:=((bs.take (q+1)).map GK).flatMap Bk.cells) (by decide) hg (by rw[HQ.out,List.flatMap_append];exact ho) 3;clear hcx hS fL ho hg k hk hlt hb hb4 hb5 h3;go_wp2
           go_roundg (10-(q+1))
           case measure=>omega
           case rel=>exact⟨q+1,_,by omega,by omega,by go_num,k2⟩
   ·have hbb:=of_decide_eq_true cO.out;have h1:=hbb.1;have h2:=hbb.2;clear hbb;obtain⟨ab,off,nm,t,m,d,rfl,_,hx,hx1,hc⟩:=ES hf h1;have HT:=zH (nT Em l.facts hx);rw[hx1] at HT;have j0:(0:Int)≤(j:Int):=by omega
    have j1:(j:Int)<(fn:Int):=by omega
    have hlen:((l.facts.take j).map Em).length≤25:=by rw[List.length_map,List.length_take];omega
    have rP:=zH hlen;clear hx1 hlen;have hcc:=fun X (h:SV w1 R fv (.slice none 0 0) (.slice none 0 0) X)=>And.intro (hL X h.2) (And.intro (hc X h.2) (show X.cell? ⟨R,0,none⟩=some fv from h.1.cells 0))
    go_upto_region 6 with fail
    refine gy (SV w1 R fv (.slice none 0 0) (.slice none 0 0)) 19 h.svd (fun w3 h3 hS=>?_);replace h:=h.below h3
    iterate 8 refine bU ?_
    refine bW 9 ?_;refine bW 10 ?_;refine bW 11 ?_;refine bW 12 ?_;refine bW 13 ?_;refine bW 14 ?_;refine eY 8 (X8.out nm w3) ?_;rintro e w4 ⟨rfl,rfl⟩;refine⟨_,rfl,hS,fun hS=>?_⟩;refine bU ?_;refine lF 16 (fun _=>hS.alloc _) (fun _=>?_);refine Ah 17 y8 Tryz.underlying22 h.f (Nat.le_trans rP.out (by decide)) h.hR (fun v' w5 ho hg _ _=>⟨h.grow h.f (by decide) hg,fun hS=>?_⟩);obtain⟨A9,c9,rfl,_⟩:=bM ho;have fL:=hS.1.aF;refine bU ?_;refine qg 19 (fun h=>absurd rfl h) (fun _=>?_);refine dY ?_;have k:=h.MO ⟨oG nm,⟨t,m,d⟩⟩ ho hg;simp only[List.length_map,List.length_take] at k;clear hcc hS fL ho hg h;go_wp2
    go_roundg (25-(j+1))
    case measure=>omega
    case rel=>exact⟨j+1,_,by omega,by omega,by go_num,by rw[HT.out];exact k⟩
end Go.Proofs.YtgfeadgafdijaaaGreatDoor
