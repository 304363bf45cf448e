/- A part of the proof: Y8 Yp. -/
import Derived.Test.YtgfeadgafdijaaaGreatDoorJ01
import Derived.Test.YtgfeadgafdijaaaGreatDoorJ31
import Derived.Test.YtgfeadgafdijaaaGreatDoorJ32
import Derived.Test.YtgfeadgafdijaaaGreatDoorJ34
import Derived.Test.YtgfeadgafdijaaaGreatDoorJ39
set_option linter.unusedVariables false
set_option linter.unusedSimpArgs false
set_option maxRecDepth 100000
set_option maxHeartbeats 40000000
namespace Go.Proofs.YtgfeadgafdijaaaGreatDoor
open Go.RowKit
theorem abZ (sg:List Sg) (n:Nd) (r:List Nd) (a:List Nat) (ar:List (List Nat)) (ts:List Ty):lY sg (n::r) (a::ar) ts=if (wK sg n (rowT ts a)).2=0 then lY sg r ar (ts++[(wK sg n (rowT ts a)).1]) else ([],(wK sg n (rowT ts a)).2):=by
 rw[lY];unfold wK;cases qQ sg n with
 |none=>rfl
 |some own=>cases h:(dU n.op own (rowT ts a)).2<;>simp[h]
theorem X4 {sg:List Sg} {n:Nd} {l:List Ty} (hl:∀t∈l,aN t=true) (h:(wK sg n l).2=0):aN (wK sg n l).1=true:=by
 unfold wK at h⊢;split at h
 ·cases h
 ·next own ho=>
  split at h
  ·next h2=>simp only[h2,if_true];exact FM _ _ _ (IJ ho) hl h2
  ·cases h
theorem X5 {w:World} {base n:Nat} {v:Value} {ts:List Ty} (h:w.ownsRow base 32 3 v n (tys ts)) (hn:n=ts.length):∃A c,v=.slice A n c∧Bf w ts A n c:=by
 obtain⟨A,c,rfl,h1,h2,h3,_⟩:=bM h;exact⟨A,c,rfl,hn,h1,h2,h3⟩
theorem U6 (sg:List Sg) (es:List Nd) (A1 A2:Option Addr) (k1 c1 l2 c2:Nat) (w:World) (hk1:k1=sg.length) (hm1:k1≤maxLen) (hr1:Rd w A1 (kM sg)) (h2:Es w es A2 l2 c2) (hf:∀n∈es,Fine n):
  Calls Tryz.prog 130 #[.slice A1 k1 c1,.slice A2 l2 c2] w (oW (eG sg es) w):=by
 have HC:=zH (fun W (hb:Below w.heap.size w W)=>AV es A2 l2 c2 W (h2.below hb).len (h2.below hb).cap (h2.below hb).max (h2.below hb).rd hf);have OQ:=zH (fun W (hb:Below w.heap.size w W)=>WG es A2 l2 c2 W (h2.below hb) hf);have Ry:=zH (fun W (hb:Below w.heap.size w W) n ts A tn tc=>X0 sg A1 k1 c1 n ts A tn tc W hk1 hm1 (hr1.below hb));have H2:=zH h2;clear hk1 hm1 hr1 h2 hf;obtain⟨res,hres⟩:=zE (eG sg es);rw[←hres];have QO:=zH hres;clear hres;go_enter Tryz.func130,Tryz.ntmps130;go_wp2_with fail;refine (HC.out _ (Below.refl _ _)).mono ?_;rintro e w1 ⟨rfl,hb1⟩;by_cases hz:bC es=0
 ·have Ur:=zH (fun j hj=>Oi hz j hj);have h60:=(wW hz).2;have vO:Hid ((iY es).length=es.length):=nY _ _ _;have CV:Hid (lY sg es (iY es) []=res):=by show _=_;rw[QO.out];unfold eG;rw[if_pos hz]
  rw[hz] at OQ⊢;simp only[if_true,beq_self_eq_true] at OQ;clear hz QO HC;generalize iY es=yT at*;go_wp2_with fail;refine (OQ.out _ hb1).mono ?_;rintro e w2 ⟨A,n,c,rfl,hA,hb2⟩;replace hb2:=ah hb1 hb2;have HN:Hid (n=es.length):=hA.len.trans vO.out;have HL2:Hid (l2=es.length):=H2.out.len;have ajj:l2≤60:=by have:=HL2.out;omega
  have HAA:=zH hA;clear hb1 hA OQ;obtain⟨rows,Uj,hll⟩:=HAA.out.rows;go_wp2
  go_loopg [9,10] l2 (fun g ov iv X=>∃(j:Nat) (ts:List Ty),j+g=l2∧iv=.int .i64 j∧X.ownsRow w2.heap.size 32 3 ov j (tys ts)∧Below w2.heap.size w2 X∧Hid (ts.length=j∧lY sg (es.drop j) (yT.drop j) ts=res∧∀t∈ts,aN t=true))
  case atStart=>exact⟨0,[],by omega,rfl,World.ownsRow_nil _ _ _ _,Below.refl _ _,rfl,CV.out,fun _ h=>by cases h⟩
  case round=>
   rename World=>Y
   obtain⟨j,ts,hj,rfl,hown,hb,HT⟩:=hrel;obtain⟨Ao,co,rfl,hTs⟩:=X5 hown HT.out.1.symm;by_cases hlt:j<l2
   ·have hje:j<es.length:=by rw[←HL2.out];exact hlt
    have hja:j<yT.length:=by rw[vO.out];exact hje
    obtain⟨a,hr2,ha1,ha2,ha3⟩:=Ur.out j hje;obtain⟨v9,Le,A9,c9,rfl,h91,h92,Xg,_⟩:=hll.row j _ hr2;have hpr:j<rows.length:=(List.getElem?_eq_some_iff.1 Le).1;obtain⟨b2,off2,rfl,ahl,hc2⟩:=Uj.at_ hpr;have h9:=hc2 j hpr;rw[(List.getElem?_eq_some_iff.1 Le).2] at h9;have H9:=fun (X:World) (h:Below w2.heap.size w2 X)=>(h.cell (p:=⟨b2,off2+j,none⟩) ahl).trans h9
    have hjn:j<n:=by rw[HN.out];exact hje
    obtain⟨b1,off1,rfl,UQ,hnd⟩:=Rd.row Nd.cells 5 (fun _=>rfl) (by omega) H2.out.rd hje;have hag:yT.drop j=a::yT.drop (j+1):=by rw[List.drop_eq_getElem_cons hja];congr 1;exact (List.getElem?_eq_some_iff.1 hr2).2
    have HT2:Hid ((if (wK sg es[j] (rowT ts a)).2=0 then lY sg (es.drop (j+1)) (yT.drop (j+1)) (ts++[(wK sg es[j] (rowT ts a)).1]) else ([],(wK sg es[j] (rowT ts a)).2))=res):=by
     show _=_;rw[←abZ,←hag,←List.drop_eq_getElem_cons hje];exact HT.out.2.1
    generalize es[j]=nd at*;have hwo:=zH (Oj ha3);have HA1:=zH ha1;have HA2:=zH ha2;have aeh:=zH Xg;have ha8:a.length≤3:=by rw[ha1];exact OO _
    have Q5:=zH hnd;clear hnd hag hr2 Le hc2 h9 ha1 ha2 ha3 hja Xg;have BU:=H9 _ hb;go_wp2
    go_loopg [11,12] a.length (fun g lv iv X=>∃i:Nat,i+g=a.length∧iv=.int .i64 i∧X.ownsRow Y.heap.size 32 3 lv i (tys (rowT ts (a.take i)))∧Below Y.heap.size Y X)
    case atStart=>exact⟨0,by omega,rfl,World.ownsRow_nil _ _ _ _,Below.refl _ _⟩
    case round=>
     clear BU;obtain⟨i,hi,rfl,hl,hbx⟩:=hrel;have hbX:=ah hb hbx;have hbW:=ah hb2 hbX;have BU:=H9 _ hbX;by_cases Af:i<a.length
     ·have hia:i<(I a).length:=by rw[iE];exact Af
      obtain⟨b3,agL,rfl,hb3,hcc⟩:=(aeh.out.below hbX).at_ hia;have hcell:=hcc i hia;rw[EG] at hcell;have hxj:a.getD i 0<j:=HA2.out _ (by rw[List.getD_eq_getElem?_getD,List.getElem?_eq_getElem Af];exact List.getElem_mem Af)
      have htk:rowT ts (a.take (i+1))=rowT ts (a.take i)++[ts.getD (a.getD i 0) aI]:=by
       unfold rowT;rw[List.take_succ_eq_append_getElem Af,List.map_append,List.getD_eq_getElem?_getD (l:=a),List.getElem?_eq_getElem Af];rfl
      have ny:=zH htk;generalize a.getD i 0=x at*;obtain⟨b4,ajk,rfl,_,hto⟩:=hTs.at hxj;have hc4:=hto _ hbx;generalize ts.getD x aI=tx at*;obtain⟨x0,x1,x2⟩:=tx;simp only at hc4;clear hcc hto htk;go_wp2_with (at_builtin;go_must (refine zP EP Tryz.underlying168 hl (by omega) hbx.size (fun v' w' ho hb'=>?_)));clear hcell hc4 BU;go_wp2
      go_roundg (a.length-(i+1))
      case measure=>omega
      case rel=>exact⟨i+1,by omega,by go_num,by rw[ny.out,wZ];exact ho,hbx.trans hb'⟩
     ·obtain rfl:a.length=i:=by omega
      rw[List.take_length] at hl;obtain⟨Al,cl,rfl,hTl⟩:=X5 hl (by unfold rowT;rw[List.length_map]);have hnc:=fun i v h=>(hbW.cell (p:=⟨b1,off1+j*5+i,none⟩) UQ).trans (Q5.out i v h)
      have hright:∀t∈rowT ts a,aN t=true:=fun t ht=>by
       obtain⟨x,_,rfl⟩:=List.mem_map.1 ht;exact sS HT.out.2.2 x
      have HO:=Ry.out _ hbW nd (rowT ts a) Al a.length cl hTl hwo.out (by unfold rowT;rw[List.length_map];exact HA1.out);have HO:=HO hright;have HOR:=zH (fun (h:(wK sg nd (rowT ts a)).2=0)=>X4 hright h);obtain⟨o,ho⟩:=zF (wK sg nd (rowT ts a));rw[ho] at HO HT2 HOR;clear ho hright HA1 HA2 hwo hTl aeh H9 Ur;obtain⟨⟨t0,t1,t2⟩,z⟩:=o;obtain⟨op,⟨nn,nu,dn⟩,nm⟩:=nd;unfold Nd.v Ty.v at HO;simp only at HO HT2 HOR;have n0:=hnc 0 _ rfl;have n1:=hnc 1 _ rfl;have n2:=hnc 2 _ rfl;have n3:=hnc 3 _ rfl;have n4:=hnc 4 _ rfl;simp only[Nat.add_zero] at n0;replace HO:=zH HO;clear hnc Q5;go_wp2_with fail;refine HO.out.mono ?_;rintro e w5 ⟨rfl,hb5⟩;clear n0 n1 n2 n3 n4 BU
      go_upto_region 15 with fail
      generalize hX:w5.alloc _=W6;obtain⟨hk6,hb6⟩:=zA hX;have eP:=ah (ah hbx hb5) hb6;have hc6:=hk6.cells;clear hX hb5 hb6 hbx hk6 hl HO;by_cases hz:z=0
      ·subst hz;have HT3:Hid (lY sg (es.drop (j+1)) (yT.drop (j+1)) (ts++[⟨t0,t1,t2⟩])=res):=by have h:=HT2.out;rw[if_pos rfl] at h;exact h
       have hown2:=own_below hown eP;have hb3:=ah hb eP;go_wp2_with (at_builtin;go_must (refine zP EP Tryz.underlying168 hown2 (by omega) hb3.size (fun v' w' ho hb'=>?_)));clear hc6;go_wp2
       go_roundg (l2-(j+1))
       case measure=>omega
       case rel=>exact⟨j+1,ts++[⟨t0,t1,t2⟩],by omega,by go_num,by rw[wZ];exact ho,hb3.trans hb',by rw[List.length_append,HT.out.1];rfl,HT3.out,fun t ht=>by
        rcases List.mem_append.1 ht with h|h
        ·exact HT.out.2.2 t h
        ·rw[List.mem_singleton.1 h];exact HOR.out trivial⟩
      ·have HE:Hid (res=([],z)):=by have h:=HT2.out;rw[if_neg hz] at h;exact h.symm
       have hz1:(z !=0)=true:=by simp[hz]
       have hz2:(z==0)=false:=by simp[hz]
       have rU:=ah hb2 (ah hb eP);clear hz;go_wp2;go_ret2;rw[HE.out];exact oW.bad rU
   ·have HE:Hid (res=(ts,0)):=by
     have h:=HT.out.2.1;rw[List.drop_eq_nil_of_le (by have:=HL2.out;omega)] at h;show _=_;rw[←h];cases List.drop j yT<;>rfl
    have rU:=ah hb2 hb;have HTL:=zH hTs;clear hTs hown;go_wp2;go_ret2;rw[HE.out];exact⟨Ao,j,co,rfl,HTL.out.len,HTL.out.cap,HTL.out.max,HTL.out.rd,rU⟩
 ·have HE:Hid (res=([],bC es)):=by show _=_;rw[QO.out];unfold eG;rw[if_neg hz]
  generalize bC es=z at*;have hz1:(z !=0)=true:=by simp[hz]
  have hz2:(z==0)=false:=by simp[hz]
  clear hz;go_wp2;go_ret2;rw[HE.out];exact oW.bad hb1
theorem X6 (sg:List Sg) (es:List Nd) (A1 A2:Option Addr) (k1 c1 l2 c2:Nat) (w:World) (hk1:k1=sg.length) (hm1:k1≤maxLen) (hr1:Rd w A1 (kM sg)) (h2:Es w es A2 l2 c2) (hf:∀n∈es,Fine n):
  Calls Tryz.prog 86 #[.slice A1 k1 c1,.slice A2 l2 c2] w fun e w'=>e=.returned (.tuple #[(iK sg es).1.v,.int .i64 (iK sg es).2])∧Below w.heap.size w w':=by
 have HT:=zH (fun W (hb:Below w.heap.size w W)=>U6 sg es A1 A2 k1 c1 l2 c2 W hk1 hm1 (hr1.below hb) (h2.below hb) hf);have HP:Hid ((eG sg es).2=0→0<(eG sg es).1.length):=fun h=>IW h
 obtain⟨y,hy⟩:=zE (iK sg es);have HY:Hid (y=if (eG sg es).2=0 then ((eG sg es).1.getD ((eG sg es).1.length-1) aI,0) else (aI,(eG sg es).2)):=hy;rw[←hy];obtain⟨r,hr⟩:=zF (eG sg es);rw[hr] at HT HY HP;clear hr hy hk1 hm1 hr1 h2 hf;obtain⟨ts,z⟩:=r;simp only at HY HP;go_enter Tryz.func86,Tryz.ntmps86
 go_upto_region 1 with fail
 generalize hX:w.alloc _=W;obtain⟨hk,hb⟩:=zA hX;clear hX;go_wp2_with fail;refine (HT.out _ hb).mono ?_;rintro e w1 ⟨A,n,c,rfl,h1,h3,h4,h5,hb1⟩;simp only at h1 h5;replace hk:=hk.below hb1 hk.lt;replace hb:=ah hb hb1;have hts:Bf w1 ts A n c:=⟨h1,h3,h4,h5⟩
 have hcf:=And.intro hk.cells hk.aF;have HN:=zH h1;clear h1 h3 h4 h5 hb1;by_cases hz:z=0
 ·subst hz;have hp:=HP.out rfl;have hn0:0<n:=by rw[HN.out];exact hp
  obtain⟨m,rfl⟩:∃m,n=m+1:=⟨n-1,by omega⟩
  have HE:Hid (y=(ts.getD m aI,0)):=by show _=_;rw[HY.out,if_pos rfl,←HN.out];rfl
  obtain⟨b,off,rfl,_,hc⟩:=hts.at (j:=m) (by omega);have hc1:=hc _ (Below.refl _ _);generalize ts.getD m aI=tx at*;obtain⟨x0,x1,x2⟩:=tx;have hm2:m+1≤9223372036854775807:=by have h1:=hts.cap;have h2:=hts.max;unfold maxLen at h2;omega
  have hw:IntKind.i64.wrap (m:Int)=m:=IntWalk.i64_in _ (by omega);have hwp:(m:Int)+1-1=m:=by omega
  have hmm:m<m+1:=by omega
  simp only at hc1;have h6:=(fC hk ⟨x0,x1,x2⟩).cells;have h7:=dL hb (Nat.le_refl _) ⟨x0,x1,x2⟩;unfold Bd at h6 h7;clear hc hts hp hk hn0;go_wp2;exact bodyPost_ret (v:=.tuple #[Ty.v ⟨x0,x1,x2⟩,.int .i64 0]) (by simp[results,Tryz.results86,go_sem,h6,Ty.v,Ty.cells]) rfl ⟨by rw[HE.out],h7⟩
 ·have HE:Hid (y=(aI,z)):=by show _=_;rw[HY.out,if_neg hz]
  have hz1:(z !=0)=true:=by simp[hz]
  have hz2:(z==0)=false:=by simp[hz]
  have h6:=(fC hk aI).cells;have h7:=dL hb (Nat.le_refl _) aI;unfold Bd aI at h6 h7;clear hz hk hts;go_wp2;exact bodyPost_ret (v:=.tuple #[Ty.v aI,.int .i64 z]) (by simp[results,Tryz.results86,go_sem,h6,Ty.v,Ty.cells,aI]) rfl ⟨by rw[HE.out],h7⟩
theorem JV (sg:List Sg) (x:Pv × Hd) (A1:Option Addr) (k1 c1:Nat) (w:World) (hk1:k1=sg.length) (hm1:k1≤maxLen) (hr1:Rd w A1 (kM sg)) (hb1:aU w Nd.cells x.1.body x.2) (hs:iw x.1.step) (hc:iw x.1.cap) (hf:∀n∈x.1.body,Fine n):
  Calls Tryz.prog 38 #[.slice A1 k1 c1,.agg (bg x).toArray] w fun e w'=>e=.returned (.int .i64 (jB sg x.1))∧Below w.heap.size w w':=by
 have HT:=zH (fun W (h:Below w.heap.size w W)=>X6 sg x.1.body A1 x.2.a k1 c1 x.2.n x.2.c W hk1 hm1 (hr1.below h) ⟨(hb1.below h).len,(hb1.below h).cap,(hb1.below h).max,(hb1.below h).rd⟩ hf);have qF:=zH (fun W=>I4 x W);have RJ:=zH (fun W=>UH x W hs hc);unfold JI at RJ;obtain⟨y,hy⟩:=zE (jB sg x.1);have HY:Hid (y=if (iK sg x.1.body).2≠0 then (iK sg x.1.body).2 else if (iK sg x.1.body).1≠x.1.ty then 13 else if (x.1.jI&&decide (x.1.ty≠jk))||(!je x.1&& !qc x.1) then 1 else 0):=hy;rw[←hy];obtain⟨r,hr⟩:=zF (iK sg x.1.body);rw[hr] at HT HY;obtain⟨pl,hpl⟩:=zF (je x.1);rw[hpl] at qF HY;obtain⟨cp,hcp⟩:=zF (qc x.1);rw[hcp] at RJ HY;clear hr hy hpl hcp hk1 hm1 hr1 hb1 hs hc hf;obtain⟨t,z⟩:=r;have wJ:=fun W=>Dl t x.1.ty W
 have HEC:=fun W=>Dl x.1.ty jk W
 obtain⟨q1,hq1⟩:=zF (decide (t=x.1.ty));obtain⟨q2,hq2⟩:=zF (decide (x.1.ty=jk));rw[hq1] at wJ;rw[hq2] at HEC;simp only at HY HT
 have pI:Hid (z=0→y=if q1=false then 13 else if (x.1.jI&& !q2)||(!pl&& !cp) then 1 else 0):=fun h=>by
  rw[HY.out,if_neg (by rw[h];decide)];have e1:(t≠x.1.ty)=(q1=false):=by rw[←hq1];simp
  have e2:decide (x.1.ty≠jk)= !q2:=by rw[←hq2,decide_not]
  simp only[e1,e2]
 have QL:Hid (z≠0→y=z):=fun h=>by rw[HY.out,if_pos h]
 clear HY hq1 hq2;obtain⟨t0,t1,t2⟩:=t;obtain⟨⟨nm,⟨tt,tm,td⟩,ch,⟨kW,kX,kY⟩,⟨kZ,lg,cn3⟩,bo⟩,⟨ha,hn,hcc⟩⟩:=x;unfold bg at qF RJ⊢;unfold Ty.v at HT wJ HEC;unfold jk at HEC;simp only at HT qF RJ wJ HEC pI⊢;go_enter Tryz.func38,Tryz.ntmps38
 go_upto_region 1 with fail
 generalize hX:w.alloc _=W;obtain⟨hk,hb⟩:=zA hX;have hcf:=fun (X:World) (h:Below W.heap.size W X)=>(hk.below h hk.lt).cells
 have hc1:=hcf W (Below.refl _ _);clear hX hk;go_wp2_with fail;refine (HT.out _ hb).mono ?_;rintro e w1 ⟨rfl,hb1⟩;clear hc1
 go_upto_region 2 with fail
 generalize hX:w1.alloc _=W2;obtain⟨hk5,hb5⟩:=zA hX;have hbx:=ah hb1 hb5;replace hb:=ah hb hbx;generalize w1.heap.size=N at hk5⊢;have hcc:=fun (X:World) (h:Below W2.heap.size W2 X)=>And.intro (hcf X (ah hbx h)) (hk5.below h hk5.lt).cells
 have hc2:=hcc W2 (Below.refl _ _);clear hX hb1 hb5 hcf hk5 hbx HT;by_cases hz:z=0
 ·have LZ:=zH (pI.out hz);subst hz;clear QL pI;cases q1
  ·have HE:Hid (y=13):=LZ.out;go_wp2;go_ret;exact⟨by rw[HE.out];rfl,hb⟩
  ·go_upto_region 6 with fail
   clear hc2 wJ;refine gy (Below W2.heap.size W2) 99 (Below.refl W2.heap.size W2).drew (fun w5 h5 hS=>?_);cases ch
   ·iterate 3 refine bU ?_
    refine jw 3 ?_;refine jw 4 ?_;refine jw 5 ?_;refine jw 6 ?_
    iterate 2 refine bU ?_
    iterate 1 refine bW 9 ?_
    refine eY 10 (qF.out _) ?_;rintro e w6 ⟨rfl,hb6⟩;refine⟨_,rfl,ah hS hb6,fun hS=>?_⟩;refine bW 11 ?_;refine bW 12 ?_;cases pl
    ·refine bW 13 ?_;refine eY 14 (RJ.out _) ?_;rintro e w7 ⟨k,rfl,hk9,hb7⟩;refine⟨_,rfl,ah hS hb7,fun hS=>?_⟩;obtain⟨kz,hkz⟩:=zF (k==0);have dP:Hid (kz= !cp):=by show _=_;rw[←hkz,←hk9];by_cases h0:k=0<;>simp[h0]
     refine bW 15 ?_;refine bW 16 ?_;refine bW 17 ?_;clear hkz hk9;cases kz
     ·have HE:Hid (y=0):=by show _=_;rw[LZ.out,show cp=true by have:=dP.out;revert this;cases cp<;>simp];rfl
      refine dY ?_;clear hcc;go_wp2;go_ret;exact⟨by rw[HE.out];rfl,ah hb hS⟩
     ·have HE:Hid (y=1):=by show _=_;rw[LZ.out,show cp=false by have:=dP.out;revert this;cases cp<;>simp];rfl
      refine dY ?_;clear hcc;go_wp2;go_ret;exact⟨by rw[HE.out];rfl,ah hb hS⟩
    ·refine jw 13 ?_;refine jw 14 ?_;refine jw 15 ?_;refine bW 16 ?_;refine bW 17 ?_;have HE:Hid (y=0):=by show _=_;rw[LZ.out];rfl
     refine dY ?_;clear hcc;go_wp2;go_ret;exact⟨by rw[HE.out];rfl,ah hb hS⟩
   ·iterate 5 refine bU ?_
    refine eY 5 (og _ _ _) ?_;unfold vZ Ty.v;rintro e w9 ⟨rfl,eP⟩;refine⟨_,rfl,ah hS eP,fun hS=>?_⟩;refine bU ?_;cases q2
    ·iterate 2 refine bU ?_
     refine jw 9 ?_;refine jw 10 ?_;refine jw 11 ?_;refine jw 12 ?_;refine jw 13 ?_;refine jw 14 ?_;refine jw 15 ?_;refine jw 16 ?_;refine bW 17 ?_;have HE:Hid (y=1):=LZ.out;refine dY ?_;clear hcc;go_wp2;go_ret;exact⟨by rw[HE.out];rfl,ah hb hS⟩
    ·iterate 2 refine bU ?_
     iterate 1 refine bW 9 ?_
     refine eY 10 (qF.out _) ?_;rintro e w6 ⟨rfl,hb6⟩;refine⟨_,rfl,ah hS hb6,fun hS=>?_⟩;refine bW 11 ?_;refine bW 12 ?_;cases pl
     ·refine bW 13 ?_;refine eY 14 (RJ.out _) ?_;rintro e w7 ⟨k,rfl,hk9,hb7⟩;refine⟨_,rfl,ah hS hb7,fun hS=>?_⟩;obtain⟨kz,hkz⟩:=zF (k==0);have dP:Hid (kz= !cp):=by show _=_;rw[←hkz,←hk9];by_cases h0:k=0<;>simp[h0]
      refine bW 15 ?_;refine bW 16 ?_;refine bW 17 ?_;clear hkz hk9;cases kz
      ·have HE:Hid (y=0):=by show _=_;rw[LZ.out,show cp=true by have:=dP.out;revert this;cases cp<;>simp];rfl
       refine dY ?_;clear hcc;go_wp2;go_ret;exact⟨by rw[HE.out];rfl,ah hb hS⟩
      ·have HE:Hid (y=1):=by show _=_;rw[LZ.out,show cp=false by have:=dP.out;revert this;cases cp<;>simp];rfl
       refine dY ?_;clear hcc;go_wp2;go_ret;exact⟨by rw[HE.out];rfl,ah hb hS⟩
     ·refine jw 13 ?_;refine jw 14 ?_;refine jw 15 ?_;refine bW 16 ?_;refine bW 17 ?_;have HE:Hid (y=0):=by show _=_;rw[LZ.out];rfl
      refine dY ?_;clear hcc;go_wp2;go_ret;exact⟨by rw[HE.out];rfl,ah hb hS⟩
 ·have HE:=zH (QL.out hz);have hz1:(z !=0)=true:=by simp[hz]
  have hz2:(z==0)=false:=by simp[hz]
  clear hz pI QL;go_wp2;go_ret;exact⟨by rw[HE.out];rfl,hb⟩
end Go.Proofs.YtgfeadgafdijaaaGreatDoor
