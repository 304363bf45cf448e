/- A part of the proof: Uc Ud Ue Uf Y9 Yd Yq Yr Ui Yv Un. -/
import Derived.Deep.RegionHeld3
import Derived.Deep.Cut
import Derived.Deep.CutRange
import Derived.Deep.LoopGhost
import Derived.Test.YtgfeadgafdijaaaGreatDoorJ01
import Derived.Test.YtgfeadgafdijaaaGreatDoorJ16
import Derived.Test.YtgfeadgafdijaaaGreatDoorJ27
import Derived.Test.YtgfeadgafdijaaaGreatDoorJ32
import Derived.Test.YtgfeadgafdijaaaGreatDoorJ33
import Derived.Test.YtgfeadgafdijaaaGreatDoorJ34
set_option linter.unusedVariables false
set_option linter.unusedSimpArgs false
set_option maxRecDepth 100000
set_option maxHeartbeats 40000000
namespace Go.Proofs.YtgfeadgafdijaaaGreatDoor
open Go.RowKit
def eH:List Int→Int
 |[]=>0
 |z::r=>if z=0 then eH r else z
def bT (l:Lw):Int:=if 20<l.facts.length∨8<l.bI.length∨30<l.aP.length then 2 else if lq l≠0 then lq l else if mV l=false then 13 else
 if eH (l.bI.map fun s=>fF s.bQ)≠0 then eH (l.bI.map fun s=>fF s.bQ) else eH (l.aP.map (jB (jA l)))
theorem uU (z:Int) (r:List Int):eH (z::r)=if z=0 then eH r else z:=rfl
theorem tu (l:Lw) (ss:List (Sc × Hd)) (ps:List (Pv × Hd)) (f s p:Hd) (w:World) (hL:bZ w) (h:fG w l ss ps f s p) (hf:lU l):
  Calls Tryz.prog 13 #[dQ f s p] w fun e w'=>e=.returned (.int .i64 (bT l))∧Below w.heap.size w w':=by
 have LH:=zH (fun W hb=>UD l ss ps f s p W (hL.below hb).e (h.below hb) hf);have yU:=zH (fun W hb=>UE l ss ps f s p W (h.below hb));have HSI:=zH (fun W hb=>D9 l ss ps f s p W (h.below hb) hf);have HL:Hid (∀W,Below w.heap.size w W→bZ W):=fun W hb=>hL.below hb
 have l7:=zH h;have HF:=zH hf;obtain⟨R,hR⟩:=zE (bT l);have sZ:Hid (f.n=l.facts.length):=h.f.len;have oZ:Hid (s.n=l.bI.length):=by show _=_;rw[←h.sl,List.length_map];exact h.s.len
 have jo:Hid (p.n=l.aP.length):=by show _=_;rw[←h.pl,List.length_map];exact h.p.len
 have HVM:Hid (20<f.n∨8<s.n∨30<p.n→R=2):=fun h=>by rw[hR];unfold bT;rw[sZ.out,oZ.out,jo.out] at h;rw[if_pos h]
 have Lp:Hid (¬(20<f.n∨8<s.n∨30<p.n)→R=if lq l≠0 then lq l else if mV l=false then 13 else if eH (l.bI.map fun s=>fF s.bQ)≠0 then eH (l.bI.map fun s=>fF s.bQ) else eH (l.aP.map (jB (jA l)))):=fun h=>by
  rw[hR];unfold bT;rw[sZ.out,oZ.out,jo.out] at h;rw[if_neg h]
 have Xz:Hid (∀k (hk:k<l.bI.length) (hk':k<ss.length),l.bI[k]=ss[k].1):=fun k hk hk'=>by have e:=h.sl;simp[←e]
 have Ea:Hid (∀k (hk:k<l.aP.length) (hk':k<ps.length),l.aP[k]=ps[k].1):=fun k hk hk'=>by have e:=h.pl;simp[←e]
 rw[←hR];generalize mV l=ty at*;generalize lq l=nz at*;clear hL h hf hR;obtain⟨fa,fn,fc⟩:=f;obtain⟨sa,sn,sc⟩:=s;obtain⟨pa,pn,pc⟩:=p;unfold dQ at LH yU HSI⊢;simp only at LH yU HSI sZ oZ jo HVM Lp⊢;obtain⟨W,hW⟩:=zE (w.alloc (.cells #[.slice fa fn fc,.slice sa sn sc,.slice pa pn pc] 26));obtain⟨B,hB⟩:=zE w.heap.size;have HK:Hid (aj W B 26 [.slice fa fn fc,.slice sa sn sc,.slice pa pn pc]):=by show aj _ _ _ _;rw[hW,hB];exact aj.new w _ _
 have aK:Hid (Below w.heap.size w W):=by show Below _ _ _;rw[hW];exact zB _ _
 have hkc:=HK.out.cells;by_cases hm:20<fn∨8<sn∨30<pn
 ·obtain rfl:R=2:=HVM.out hm;go_enter Tryz.func13,Tryz.ntmps13
  go_upto_region 1 with fail
  simp only[←hW,←hB]
  clear hW hB;by_cases h1:20<fn
  ·go_wp2;go_ret;exact⟨rfl,aK.out⟩
  by_cases h2:8<sn
  ·go_wp2;go_ret;exact⟨rfl,aK.out⟩
  have h3:30<pn:=by omega
  clear hm;go_wp2;go_ret;exact⟨rfl,aK.out⟩
 have hv:=Lp.out hm;have h1:¬20<fn:=fun h=>hm (.inl h)
 have h2:¬8<sn:=fun h=>hm (.inr (.inl h))
 have h3:¬30<pn:=fun h=>hm (.inr (.inr h))
 have HV:=zH hv;clear hm HVM Lp hv;go_enter Tryz.func13,Tryz.ntmps13
 go_upto_region 1 with fail
 simp only[←hW,←hB]
 clear hW hB;go_wp2_with fail;refine (LH.out W aK.out).mono ?_;rintro e w5 ⟨rfl,hb5⟩;have eF:=zH (ah aK.out hb5);have gZ:=zH (HK.out.below hb5 HK.out.lt);have hk5:=gZ.out.cells;clear hb5 LH hkc;by_cases hz:nz=0;rotate_left
 ·obtain rfl:R=nz:=by rw[HV.out,if_pos hz]
  have hzb:(R !=0)=true:=by simp[hz]
  have hzc:(R==0)=false:=by simp[hz]
  clear HV;go_wp2;go_ret;exact⟨rfl,eF.out⟩
 subst hz;go_wp2_with fail;refine (yU.out w5 eF.out).mono ?_;rintro e w6 ⟨rfl,hb6⟩;have mg:=zH (ah eF.out hb6);have wH:=zH (gZ.out.below hb6 gZ.out.lt);have hk6:=wH.out.cells;clear hb6 yU hk5;cases ty
 ·obtain rfl:R=13:=by rw[HV.out];simp
  clear HV;go_wp2;go_ret;exact⟨rfl,mg.out⟩
 have kC:Hid (R=if eH (l.bI.map fun s=>fF s.bQ)≠0 then eH (l.bI.map fun s=>fF s.bQ) else eH (l.aP.map (jB (jA l)))):=by show _=_;rw[HV.out];simp
 clear HV;go_wp2_with fail
 go_loopg [38] sn (fun g iv wr=>∃j:Nat,j+g=sn∧iv=.int .i64 j∧Hid (eH (l.bI.map fun s=>fF s.bQ)=eH ((l.bI.drop j).map fun s=>fF s.bQ))∧Hid (Below w.heap.size w wr)∧Hid (aj wr B 26 [.slice fa fn fc,.slice sa sn sc,.slice pa pn pc]))
 case atStart=>exact⟨0,by omega,rfl,rfl,mg,wH⟩
 case round=>
  obtain⟨j,hj,rfl,hfe,hbr,hkr⟩:=hrel;by_cases hlt:j<sn
  ·have nM:j<l.bI.length:=by rw[←oZ.out];exact hlt
   have hjm:j<ss.length:=by rw[←l7.out.s.len];exact hlt
   obtain⟨b,off,hA,hb,hc⟩:=Rd.row fU 4 (fun _=>rfl) (by omega) (l7.out.s.below hbr.out).rd hjm;have hrow:=(l7.out.sb _ (List.getElem_mem hjm)).below hbr.out;have hfin:=HF.out.sb _ (List.getElem_mem nM);have zC:=hfe.out;rw[List.drop_eq_getElem_cons nM,List.map_cons,uU] at zC;rw[Xz.out j nM hjm] at zC hfin;simp only at hA;subst hA;generalize ss[j]=x at*;obtain⟨⟨nm,mo,da,br⟩,⟨ha,hn,hcc⟩⟩:=x;simp only at hrow hfin zC;have vS:=zH (fun W (hb:Below wr.heap.size wr W)=>Uu nm mo da br ha hn hcc W (hrow.below hb).len (Nat.le_trans hrow.cap hrow.max) (hrow.below hb).rd hfin);have c0:=hc 0 _ rfl;have c1:=hc 1 _ rfl;have c2:=hc 2 _ rfl;have c3:=hc 3 _ rfl;simp only[Nat.add_zero] at c0;generalize fF br=z at*;have LJ:=zH zC;have hba:=(Below.refl wr.heap.size wr).alloc (Nat.le_refl _) (.cells #[.string nm,.int .i64 mo,.int .i64 da,.slice ha hn hcc] 37);have nS:=zH hba;clear hc hrow hfin zC hfe hba;go_wp2_with fail;refine (vS.out _ nS.out).mono ?_;rintro e w7 ⟨rfl,hb7⟩;have fA:=zH (ah hbr.out (ah nS.out hb7));have fD:=zH (hkr.out.below (ah nS.out hb7) hkr.out.lt);clear hb7 c0 c1 c2 c3 hbr hkr;by_cases hz:z=0
   ·subst hz;have ZP:Hid (eH (l.bI.map fun s=>fF s.bQ)=eH ((l.bI.drop (j+1)).map fun s=>fF s.bQ)):=by show _=_;rw[LJ.out,if_pos rfl]
    go_wp2
    go_roundg (sn-(j+1))
    case measure=>omega
    case rel=>exact⟨j+1,by omega,by go_num,ZP,fA,fD⟩
   ·obtain rfl:R=z:=by rw[kC.out,LJ.out,if_neg hz,if_pos hz]
    have hzb:(R !=0)=true:=by simp[hz]
    have hzc:(R==0)=false:=by simp[hz]
    clear kC LJ;go_wp2;go_ret;exact⟨rfl,fA.out⟩
  ·have hjn:j=sn:=by omega
   have hv3:R=eH (l.aP.map (jB (jA l))):=by
    rw[kC.out,hfe.out,hjn,oZ.out,List.drop_length];rfl
   have LG:=zH hv3;have ahg:=hkr.out.cells;have fQ:=hbr;clear hv3 kC hfe hjn wH mg hk6;go_wp2_with fail;refine (HSI.out wr hbr.out).mono ?_;rintro e w7 ⟨hg,rfl,hgr,hb7⟩;have fA:=zH (ah fQ.out hb7);have fD:=zH (hkr.out.below hb7 hkr.out.lt);have hk7:=fD.out.cells;obtain⟨ga,gn,gc⟩:=hg;have I5:=zH hgr;clear hb7 hgr hbr hkr ahg;simp only at I5⊢;go_wp2_with fail
   go_loopg [53] pn (fun g iv wr=>∃j:Nat,j+g=pn∧iv=.int .i64 j∧Hid (R=eH ((l.aP.drop j).map (jB (jA l))))∧Hid (Below w7.heap.size w7 wr))
   case atStart=>exact⟨0,by omega,rfl,LG,Below.refl _ _⟩
   case round=>
    obtain⟨j,hj,rfl,hfe,hbr⟩:=hrel;clear LG;by_cases hlt:j<pn
    ·have nM:j<l.aP.length:=by rw[←jo.out];exact hlt
     have hjm:j<ps.length:=by rw[←l7.out.p.len];exact hlt
     have hbw:=ah fA.out hbr.out;obtain⟨b,off,hA,hb,hc⟩:=Rd.row bg 12 (fun _=>rfl) (by omega) (l7.out.p.below hbw).rd hjm;have hrow:=(l7.out.pb _ (List.getElem_mem hjm)).below hbw;have hfin:=HF.out.pb _ (List.getElem_mem nM);have zC:=hfe.out;rw[List.drop_eq_getElem_cons nM,List.map_cons,uU] at zC;rw[Ea.out j nM hjm] at zC hfin;simp only at hA;subst hA;generalize ps[j]=x at*;have HPV:=zH (fun W (hb:Below wr.heap.size wr W)=>JH (jA l) x ga gn gc W (HL.out _ (ah hbw hb)) I5.out.len (Nat.le_trans I5.out.cap I5.out.max) (I5.out.below (ah hbr.out hb)).rd (hrow.below hb) hfin.1 hfin.2.1 hfin.2.2);generalize jB (jA l) x.1=z at*;obtain⟨⟨nm,⟨tt,tm,td⟩,ch,⟨kW,kX,kY⟩,⟨kZ,lg,cn3⟩,bo⟩,⟨ha,hn,hcc⟩⟩:=x;unfold bg at HPV;simp only at HPV;have c0:=hc 0 _ rfl;have c1:=hc 1 _ rfl;have c2:=hc 2 _ rfl;have c3:=hc 3 _ rfl;have c4:=hc 4 _ rfl;have c5:=hc 5 _ rfl;have c6:=hc 6 _ rfl;have c7:=hc 7 _ rfl;have c8:=hc 8 _ rfl;have c9:=hc 9 _ rfl;have c10:=hc 10 _ rfl;have c11:=hc 11 _ rfl;simp only[Nat.add_zero] at c0;have LJ:=zH zC;have hba:=(Below.refl wr.heap.size wr).alloc (Nat.le_refl _) (.cells #[.string nm,.bool tt,.int .i64 tm,.int .i64 td,.slice ha hn hcc,.bool ch,.bool kW,.string kX,.string kY,.bool kZ,.string lg,.string cn3] 46);have nS:=zH hba;clear hc hrow hfin zC hfe hba hbw;go_wp2_with fail;refine (HPV.out _ nS.out).mono ?_;rintro e w8 ⟨rfl,hb8⟩;have qE:=zH (ah hbr.out (ah nS.out hb8));clear hb8 c0 c1 c2 c3 c4 c5 c6 c7 c8 c9 c10 c11 hbr;by_cases hz:z=0
     ·subst hz;have ZP:Hid (R=eH ((l.aP.drop (j+1)).map (jB (jA l)))):=by show _=_;rw[LJ.out,if_pos rfl]
      clear LJ;go_wp2
      go_roundg (pn-(j+1))
      case measure=>omega
      case rel=>exact⟨j+1,by omega,by go_num,ZP,qE⟩
     ·obtain rfl:R=z:=by rw[LJ.out,if_neg hz]
      have hzb:(R !=0)=true:=by simp[hz]
      have hzc:(R==0)=false:=by simp[hz]
      have gu:=zH (ah fA.out qE.out);clear LJ;go_wp2;go_ret;exact⟨rfl,gu.out⟩
    ·have hjn:j=pn:=by omega
     obtain rfl:R=0:=by rw[hfe.out,hjn,jo.out,List.drop_length];rfl
     have gu:=zH (ah fA.out hbr.out);clear hfe hbr hjn;go_wp2;go_ret;exact⟨rfl,gu.out⟩
theorem XJ (b:Nat) (w:World) (h0:w.cell? ⟨b,0,none⟩=some (.pointer none)) (hsh:w.shape? b=some (76,2)) (hfz:w.frozen? ⟨b,0,none⟩=false):
  Calls Tryz.prog 141 #[.pointer (some ⟨b,0,none⟩)] w fun e w'=>e=.returned (.tuple #[])∧w'=w.setCell ⟨b,0,none⟩ (.pointer (some ⟨b,0,none⟩)):=by
 obtain⟨j,hj,hjs⟩:=Option.map_eq_some_iff.1 (show (Tryz.prog.info? 74).map (·.size)=some 2 by kernel_rfl);go_enter Tryz.func141,Tryz.ntmps141;go_wp2;rw[Lib.run_to_unsafe w ⟨b,0,none⟩ Tryz.underlying71 Tryz.underlying228 hj (by rw[hjs];decide) hsh (Nat.zero_lt_succ 1)];simp only[Result.andThen]
 rw[Oper.upon_value];go_wp2;rw[run_callFunc_extern Tryz.func186 (by kernel_rfl) (by kernel_rfl) (by kernel_rfl) (e:=Extern.AbiNoEscape.same) (by kernel_rfl)];rw[Lib.run_noEscape];simp only[Result.andThen]
 rw[Oper.upon_value];go_wp2;rw[Lib.run_from_unsafe w ⟨b,0,none⟩ Tryz.underlying228 Tryz.underlying71 hj hsh (by kernel_rfl)];simp only[Result.andThen]
 rw[Oper.upon_value];go_wp2;go_end0;exact⟨rfl,rfl⟩
theorem adV (B b:Nat) (bs:List Value) (w:World) (h:Lib.IsBuilder 76 5 B b bs w):
  Calls Tryz.prog 141 #[.pointer (some ⟨b,0,none⟩)] w fun e w'=>e=.returned (.tuple #[])∧(Lib.BuilderAt 76 5 B b (.pointer (some ⟨b,0,none⟩)) bs w'∧Below B w w'∧BF b w w'):=by
 rcases h with h|h
 ·refine (XJ b w h.cell0 h.shape h.frozen0).mono ?_;rintro e w' ⟨rfl,rfl⟩;exact⟨rfl,h.used _,(Below.refl B w).setCell (p:=⟨b,0,none⟩) h.1 _,(BF.refl b w).set 0 _⟩
 ·refine (Q9 b w h.cell0).mono ?_;rintro e w' ⟨rfl,rfl⟩;exact⟨rfl,h,Below.refl B _,BF.refl b _⟩
theorem abU (B b:Nat) (bs:List Value) (s:ByteArray) (w:World) (h:Lib.IsBuilder 76 5 B b bs w) (hlen:bs.length+s.size≤140737488355328) (hBw:B≤w.heap.size):
  Calls Tryz.prog 100 #[.pointer (some ⟨b,0,none⟩),.string s] w fun e w'=>e=.returned (.tuple #[.int .i64 s.size,.nilIface])∧(Lib.BuilderAt 76 5 B b (.pointer (some ⟨b,0,none⟩)) (bs++lc s.data.toList) w'∧Below B w w'∧BF b w w'):=by
 obtain⟨i0,hi,hz0,hz1,hz2⟩:=info_parts (show (Tryz.prog.info? 5).map (fun i=>(i.zero,i.size,i.bytes))=some (some (.int .u8 0),1,1) by kernel_rfl);have HC:=zH (adV B b bs w h);go_enter Tryz.func100,Tryz.ntmps100;go_wp2_with fail;refine HC.out.mono ?_;rintro e w1 ⟨rfl,h1,hb1,hf1⟩;obtain⟨hB,v,hbk,hown,hne⟩:=h1;have c0:w1.cell? ⟨b,0,none⟩=some (.pointer (some ⟨b,0,none⟩)):=by rw[Lib.cell_of_heap hbk];rfl
 have c1:w1.cell? ⟨b,1,none⟩=some v:=by rw[Lib.cell_of_heap hbk];rfl
 go_wp2_with (at_builtin;refine Lib.wpList_append_own_string _ rfl _ _ 72 9 rfl B 5 i0 Tryz.underlying72 Tryz.underlying9 hi hz0 hz1 hz2 _ _ _ rfl hown s rfl ?c3 ?c4 ?c5 ?_)
 case c3=>unfold maxLen;omega
 case c4=>omega
 case c5=>have:=hb1.size;omega
 intro v' w2 hown' hgrow _
 have hlt:b<w1.heap.size:=by
  rcases Nat.lt_or_ge b w1.heap.size with h'|h'
  ·exact h'
  ·simp[Array.getElem?_eq_none h'] at hbk
 have hb2:w2.heap[b]?=some (.cells #[.pointer (some ⟨b,0,none⟩),v] 76 (0,0)):=by
  rw[hgrow.block b hlt (fun e=>hne e.symm)];exact hbk
 have d0:w2.cell? ⟨b,0,none⟩=some (.pointer (some ⟨b,0,none⟩)):=by rw[Lib.cell_of_heap hb2];rfl
 have d1:w2.cell? ⟨b,1,none⟩=some v:=by rw[Lib.cell_of_heap hb2];rfl
 have f1:w2.frozen? ⟨b,1,none⟩=false:=Lib.frozen_of_heap hb2 1;have HF:Hid (BF b w w2):=hf1.trans (BF.grown hown hgrow);clear hf1
 obtain⟨ao,n',cap,rfl⟩:∃ao n' cap,v'=.slice ao n' cap:=by
  rcases hown'.2 with⟨hv,_⟩|⟨g,cap,cur,hv,_⟩
  ·exact⟨_,_,_,hv⟩
  ·exact⟨_,_,_,hv⟩
 go_wp2;go_ret2;refine⟨rfl,?_,?_,HF.out.set 1 _⟩
 ·exact Lib.BuilderAt.put (T:=76) (e:=5) hB hb2 (bs':=bs++lc s.data.toList) (by simpa [Lib.strCells_length,lc,Lib.strCells] using hown') (by decide)
 ·exact (hb1.grown hgrow (by have:=hb1.size;omega) (fun k hk=>(hown.lt k hk).1)).setCell (p:=⟨b,1,none⟩) hB _
theorem ZQ (B b:Nat) (p:Value) (l:List UInt8) (w:World) (h:Lib.BuilderAt 76 5 B b p (lc l) w) (h0:l≠[]):
  Calls Tryz.prog 23 #[.pointer (some ⟨b,0,none⟩)] w fun e w'=>e=.returned (.string ⟨l.toArray⟩)∧Below B w w':=by
 obtain⟨hB,v,hbk,hown,hne⟩:=h;have hl0:l.length≠0:=by simpa using h0
 rw[Ou] at hown
 obtain⟨g,cap,cur,rfl,hbg,hg,hnc,hcm,hcs,htake⟩:∃g cap cur,v=.slice (some ⟨g,0,none⟩) l.length cap∧B≤g∧w.heap[g]?=some (.cells cur 5 (0,0))∧l.length≤cap∧cap≤maxLen∧cur.size=cap*1∧cur.toList.take (l.length*1)=lc l:=by
  rcases hown.2 with⟨_,hz⟩|⟨g,cap,cur,hv,r⟩
  ·exact absurd hz hl0
  ·exact⟨g,cap,cur,hv,r⟩
 have c1:w.cell? ⟨b,1,none⟩=some (.slice (some ⟨g,0,none⟩) l.length cap):=by rw[Lib.cell_of_heap hbk];rfl
 have hSD:(Builtin.unsafeSliceData_ #[72] 110 #[.slice (some ⟨g,0,none⟩) l.length cap]).run Tryz.prog w.drew=.ok (.pointer (some ⟨g,0,none⟩)) w.drew:=
  Lib.run_unsafeSliceData_row _ _ _ _ _ _ (by omega)
 have hUS:(Builtin.unsafeString_ #[110,3] 9 #[.pointer (some ⟨g,0,none⟩),.int .i64 l.length]).run Tryz.prog w.drew=.ok (.string ⟨l.toArray⟩) (w.drew.freeze ⟨g,0,none⟩ l.length):=by
  refine Lib.run_unsafeString_row w.drew 110 3 9 5 Tryz.underlying110 (by kernel_rfl) g cur.size (by have hg':w.drew.heap[g]?=some (.cells cur 5 (0,0)):=hg;simp[World.shape?,hg']) l h0 (by omega) (by unfold maxLen at hcm;omega) ?_;intro j x hx;have:=hown.cells (g:=g) rfl j (.int .u8 x.toNat) (by simp[lc,hx]);exact this
 go_enter Tryz.func23,Tryz.ntmps23;go_wp2;go_region
 all_goals (go_wp2;go_ret;exact⟨rfl,Lib.below_freeze (Below.drew (Below.refl B w)) (p:=⟨g,0,none⟩) hbg _⟩)
def bD (l:List ByteArray):List UInt8:=l.flatMap fun s=>s.data.toList
theorem BA (a b:List ByteArray):bD (a++b)=bD a++bD b:=List.flatMap_append
theorem I7 (a:ByteArray):bD [a]=a.data.toList:=by unfold bD;simp
theorem Gy (l:List ByteArray):strs l=l.map Value.string:=by
 unfold strs
 induction l with
 |nil=>rfl
 |cons a l ih=>rw[List.flatMap_cons,ih];rfl
theorem strs_get {l:List ByteArray} {w:World} {g:Nat} (h:aj w g 9 (strs l)) {i:Nat} (hi:i<l.length):w.cell? ⟨g,i,none⟩=some (.string l[i]):=by
 rw[h.cells i];have:strs l=l.map Value.string:=Gy l;rw[this,List.getElem?_map,List.getElem?_eq_getElem hi];rfl
theorem UM (B b g n c:Nat) (bs:List UInt8) (l:List ByteArray) (w:World) (h:Lib.IsBuilder 76 5 B b (lc bs) w) (hg:aj w g 9 (strs l)) (hgb:g≠b) (hn:n=l.length) (hm:n≤1000) (h0:l≠[])
  (hlen:bs.length+(bD l).length≤100000000000000) (hBw:B≤w.heap.size):
  Calls Tryz.prog 48 #[.pointer (some ⟨b,0,none⟩),.slice (some ⟨g,0,none⟩) n c] w fun e w'=>e=.returned (.tuple #[])∧(Lib.BuilderAt 76 5 B b (.pointer (some ⟨b,0,none⟩)) (lc (bs++bD l)) w'∧Below B w w'∧BF b w w'):=by
 have H:=zH h;have HG:=zH hg;have HN:=zH hn;clear h hg hn;go_enter Tryz.func48,Tryz.ntmps48;go_wp2_with fail
 go_loopg [8] n (fun q iv wr=>∃i:Nat,i+q=n∧iv=.int .i64 i∧Hid (Lib.IsBuilder 76 5 B b (lc (bs++bD (l.take i))) wr)∧Hid (0<i→Lib.BuilderAt 76 5 B b (.pointer (some ⟨b,0,none⟩)) (lc (bs++bD (l.take i))) wr)∧Hid (Below B w wr)∧Hid (BF b w wr))
 case atStart=>exact⟨0,by omega,rfl,(by show Lib.IsBuilder _ _ _ _ _ _;rw[List.take_zero,show bD []=[] from rfl,List.append_nil];exact H.out),(fun h=>absurd h (by omega)),Below.refl _ _,BF.refl _ _⟩
 case round=>
  obtain⟨i,hi,rfl,hib,hat,hbr,hbf⟩:=hrel;by_cases hlt:i<n
  ·have hil:i<l.length:=by rw[←HN.out];exact hlt
   have hc:=strs_get (hbf.out.blk HG.out (by decide) hgb) hil;have ny:Hid (l.take (i+1)=l.take i++[l[i]]):=List.take_succ_eq_append_getElem hil
   have hle:(lc (bs++bD (l.take i))).length+l[i].size≤140737488355328:=by
    rw[Ou,List.length_append];have h1:(bD l).length=(bD (l.take (i+1))).length+(bD (l.drop (i+1))).length:=by rw[←List.length_append,←BA,List.take_append_drop]
    rw[ny.out,BA,I7,List.length_append] at h1;have h2:l[i].size=l[i].data.toList.length:=by show l[i].data.size=_;rw[Array.length_toList]
    omega
   generalize l[i]=x at*;have HW:=zH (abU B b (lc (bs++bD (l.take i))) x wr hib.out hle (Nat.le_trans hBw hbr.out.size));clear hle hib hat;go_wp2_with fail;refine HW.out.mono ?_;rintro e w5 ⟨rfl,hx,hb5,hf5⟩
   have HX:Hid (Lib.BuilderAt 76 5 B b (.pointer (some ⟨b,0,none⟩)) (lc (bs++bD (l.take (i+1)))) w5):=by
    show Lib.BuilderAt _ _ _ _ _ _ _;rw[ny.out,BA,I7,←List.append_assoc,WZ (bs++_)];exact hx
   have eF:=zH (hbr.out.trans hb5);have xW:=zH (hbf.out.trans hf5);clear hx hb5 hf5 hbr hbf hc;go_wp2
   go_roundg (n-(i+1))
   case measure=>omega
   case rel=>exact⟨i+1,by omega,by go_num,.inr HX.out,(fun _=>HX.out),eF,xW⟩
  ·have hin:i=l.length:=by have:=HN.out;omega
   have hpos:0<i:=by rw[hin];exact List.length_pos_iff.2 h0
   have hx:=hat.out hpos;rw[hin,List.take_length] at hx;have HX:=zH hx;clear hx hat hib;go_wp2;go_end0;exact⟨rfl,HX.out,hbr.out,hbf.out⟩
def bV (t:Ty):ByteArray:=if t.truth then ⟨#[116,114,117,116,104]⟩ else ⟨#[109]⟩++aZ (aW t.aH)++⟨#[100]⟩++aZ (aW t.days)
theorem Gz (a b:ByteArray):(a++b).size=a.size+b.size:=ByteArray.size_append
theorem qL (t:Ty) (w:World) (hL:bZ w) (hm1:-1000≤t.aH∧t.aH≤1000) (hd1:-1000≤t.days∧t.days≤1000) (hz:(aW t.aH).num.size≤1048576∧(aW t.aH).den.size≤1048576) (hz2:(aW t.days).num.size≤1048576∧(aW t.days).den.size≤1048576):
  Calls Tryz.prog 49 #[t.v] w fun e w'=>e=.returned (.string (bV t))∧Below w.heap.size w w':=by
 obtain⟨tr,m,d⟩:=t;simp only at hm1 hd1 hz hz2;have tV:=zH (fun W=>mM m W (by omega) (by omega));have nP:=zH (fun W=>mM d W (by omega) (by omega));obtain⟨W,hW⟩:=zE (w.alloc (.cells #[.bool tr,.int .i64 m,.int .i64 d] 32));obtain⟨B,hB⟩:=zE w.heap.size;have HK:Hid (aj W B 32 [.bool tr,.int .i64 m,.int .i64 d]):=by show aj _ _ _ _;rw[hW,hB];exact aj.new w _ _
 have aK:Hid (Below w.heap.size w W):=by show Below _ _ _;rw[hW];exact zB _ _
 have HT1:=zH (fun W' (hb:Below W.heap.size W W')=>jG (aW m) W' (hL.below (ah aK.out hb)).e.base hz.1 hz.2);have HT2:=zH (fun W' (hb:Below W.heap.size W W')=>jG (aW d) W' (hL.below (ah aK.out hb)).e.base hz2.1 hz2.2);have h1:=gq (aW m) hz.1 hz.2;have h2:=gq (aW d) hz2.1 hz2.2;unfold bV Ty.v;simp only
 generalize aZ (aW m)=tm at*;generalize aZ (aW d)=td at*;have hkc:=HK.out.cells;cases tr
 ·have hs1:¬(9223372036854775807<(⟨#[109]⟩:ByteArray).size+tm.size):=by have:(⟨#[109]⟩:ByteArray).size=1:=rfl;omega
  have hs2:¬(9223372036854775807<(⟨#[109]⟩++tm:ByteArray).size+(⟨#[100]⟩:ByteArray).size):=by rw[Gz];have:(⟨#[109]⟩:ByteArray).size=1:=rfl;have:(⟨#[100]⟩:ByteArray).size=1:=rfl;omega
  have hs3:¬(9223372036854775807<(⟨#[109]⟩++tm++⟨#[100]⟩:ByteArray).size+td.size):=by rw[Gz,Gz];have:(⟨#[109]⟩:ByteArray).size=1:=rfl;have:(⟨#[100]⟩:ByteArray).size=1:=rfl;omega
  have s1:¬(9223372036854775807<1+tm.size):=by omega
  have s2:¬(9223372036854775807<(⟨#[109]⟩++tm:ByteArray).size+1):=hs2;have s3:¬(9223372036854775807<1+tm.size+1):=by omega
  have s4:¬(9223372036854775807<1+tm.size+1+td.size):=by omega
  have dW:Hid (∀W',Below W.heap.size W W'→Below W.heap.size W W'∧W'.cell? ⟨B,1,none⟩=some (.int .i64 m)∧W'.cell? ⟨B,2,none⟩=some (.int .i64 d)):=fun W' hb=>⟨hb,(hb.cell HK.out.lt).trans (HK.out.cells 1),(hb.cell HK.out.lt).trans (HK.out.cells 2)⟩
  clear hm1 hd1 hz hz2 hL h1 h2;go_enter Tryz.func49,Tryz.ntmps49
  go_upto_region 1 with fail
  simp only[←hW,←hB]
  clear hW hB
  go_upto_region 3 with fail
  refine wp_region_noPanic ?_;refine wp_region_held_drew (S:=(fun w'=>Below W.heap.size W w'∧w'.cell? ⟨B,1,none⟩=some (.int .i64 m)∧w'.cell? ⟨B,2,none⟩=some (.int .i64 d))) (by kernel_rfl) (dW.out _ (ak W.heap.size W 1)) (fun hHeld=>?_);refine ay 0 ?_;refine ay 1 ?_;refine ay 2 ?_;refine ay 7 ?_;refine ay 8 ?_;refine ay 9 ?_;refine bJ 3 fun K hK=>?_
  go_simp;have hbS:=hHeld.1;refine (tV.out _).mono ?_;rintro e w10 ⟨rfl,dA⟩;have dO:=zH (ah hbS dA);go_wp2_with fail;refine aT hK (dW.out _ dO.out) fun hHeld=>?_
  clear hK K;refine bJ 4 fun K hK=>?_
  go_simp;have hbS:=hHeld.1;refine (HT1.out _ hbS).mono ?_;rintro e w10 ⟨rfl,dA⟩;have dO:=zH (ah hbS dA);go_wp2_with fail;refine aT hK (dW.out _ dO.out) fun hHeld=>?_
  clear hK K;refine ay 5 ?_;refine ay 6 ?_;refine bJ 10 fun K hK=>?_
  go_simp;have hbS:=hHeld.1;refine (nP.out _).mono ?_;rintro e w10 ⟨rfl,dA⟩;have dO:=zH (ah hbS dA);go_wp2_with fail;refine aT hK (dW.out _ dO.out) fun hHeld=>?_
  clear hK K;refine bJ 11 fun K hK=>?_
  go_simp;have hbS:=hHeld.1;refine (HT2.out _ hbS).mono ?_;rintro e w10 ⟨rfl,dA⟩;have dO:=zH (ah hbS dA);go_wp2_with fail;refine aT hK (dW.out _ dO.out) fun hHeld=>?_
  clear hK K;refine ay 12 ?_;refine ay 13 ?_;refine wpAnyH_done (by kernel_rfl) ?_ _;refine NoPanic.normal ?_;go_wp2;go_ret;exact⟨rfl,ah aK.out dO.out⟩
 ·clear hm1 hd1 hz hz2 hL h1 h2;go_enter Tryz.func49,Tryz.ntmps49
  go_upto_region 1 with fail
  simp only[←hW,←hB]
  clear hW hB;go_wp2;go_ret;exact⟨rfl,aK.out⟩
def xk:ByteArray:=⟨#[102,97,99,116,32]⟩
def BD:ByteArray:=⟨#[115,99,104,101,100,117,108,101,32]⟩
def GH:ByteArray:=⟨#[112,114,111,118,105,115,105,111,110,32]⟩
def BG:ByteArray:=⟨#[32,99,104,97,114,103,101]⟩
def zD:ByteArray:=⟨#[32,115,116,101,112,32]⟩
def sCap:ByteArray:=⟨#[32,99,97,112,32]⟩
def jW:ByteArray:=⟨#[32]⟩
def tH:ByteArray:=⟨#[10]⟩
def tY:ByteArray:=⟨#[58,32]⟩
def wu (k:Nat):ByteArray:=if k=0 then ⟨#[58]⟩ else ⟨#[44]⟩
def bodyT (e:List Nd):ByteArray:=⟨(if bC e=0 then textE e else []).toArray⟩
def MN (d:Dc):List ByteArray:=[xk,d.name,jW,bV d.ty,tH]
def UN (s:Sc):List ByteArray:=[BD,s.name,jW,bV ⟨false,s.aH,s.days⟩]
def bkW (k:Nat) (b:Bk):List ByteArray:=[wu k,jW,aZ b.fr,jW,aZ b.rt]
def zG:Nat→List Bk→List UInt8
 |_,[]=>[]
 |k,b::r=>bD (bkW k b)++zG (k+1) r
def uM (s:Sc):List UInt8:=bD (UN s)++zG 0 s.bQ++bD [tH]
def XK (p:Pv):List ByteArray:=[GH,p.name,jW,bV p.ty]
def Rz (p:Pv):List ByteArray:=[zD,aZ p.step,sCap,aZ p.cap]
def vT (p:Pv):List UInt8:=bD (XK p)++(if p.jI then bD [BG] else [])++(if je p then [] else bD (Rz p))++bD [tY,bodyT p.body,tH]
def xq (d:Dc):List UInt8:=bD (MN d)
def gI (l:Lw):List UInt8:=l.facts.flatMap xq++l.bI.flatMap uM++l.aP.flatMap vT
structure WS (B b:Nat) (w0 w:World) (bs:List UInt8):Prop where
 ib:Lib.IsBuilder 76 5 B b (lc bs) w
 bl:Below B w0 w
 hb:B≤w0.heap.size
theorem WS.size {B b:Nat} {w0 w:World} {bs:List UInt8} (h:WS B b w0 w bs):B≤w.heap.size:=Nat.le_trans h.hb h.bl.size
theorem WS.grow {B b:Nat} {w0 w w':World} {bs:List UInt8} (h:WS B b w0 w bs) (hb:Below w.heap.size w w'):WS B b w0 w' bs:=
 ⟨DZ h.ib hb,h.bl.trans (hb.mono h.size),h.hb⟩
theorem WS.lt {B b:Nat} {w0 w:World} {bs:List UInt8} (h:WS B b w0 w bs):b<w.heap.size:=Xb h.ib
theorem WS.words {B b:Nat} {w0 w:World} {bs:List UInt8} (h:WS B b w0 w bs) (l:List ByteArray) (g n:Nat) (hg:aj w g 9 (strs l)) (hgb:b<g) (hn:n=l.length) (hm:n≤1000) (h0:l≠[]) (hlen:bs.length+(bD l).length≤100000000000000):
  Calls Tryz.prog 48 #[.pointer (some ⟨b,0,none⟩),.slice (some ⟨g,0,none⟩) n n] w fun e w'=>e=.returned (.tuple #[])∧(WS B b w0 w' (bs++bD l)∧BF b w w'):=by
 refine (UM B b g n n bs l w h.ib hg (by omega) hn hm h0 hlen h.size).mono ?_;rintro e w' ⟨rfl,hx,hb,hf⟩;exact⟨rfl,⟨.inr hx,h.bl.trans hb,h.hb⟩,hf⟩
def mF (s:ByteArray) (w:World) (e:Ending) (w':World):Prop:=e=.returned (.string s)∧Below w.heap.size w w'
theorem O7 (n:Int) (w:World) (hn:-1000≤n∧n≤1000) (hf:iw (aW n)):Calls Tryz.prog 160 #[.int .i64 n] w (mF (aZ (aW n)) w):=by
 have HT:=zH (fun W=>rG (aW n) W hf.1 hf.2);have HO:=zH (fun W=>xC n W (by omega) (by omega));clear hn hf;generalize aZ (aW n)=s at*;generalize aW n=a at*;obtain⟨an,au,ad⟩:=a;unfold Ra.v at HT HO;simp only at HT HO;go_enter Tryz.func160,Tryz.ntmps160;go_wp2_with fail;refine (HO.out _).mono ?_;rintro e w1 ⟨rfl,hb1⟩;go_wp2_with fail;refine (HT.out _).mono ?_;rintro e w2 ⟨rfl,hb2⟩;go_wp2;go_ret;exact⟨rfl,ah hb1 hb2⟩
def y7 (t:Ty):Prop:=(-1000≤t.aH∧t.aH≤1000)∧(-1000≤t.days∧t.days≤1000)∧iw (aW t.aH)∧iw (aW t.days)
theorem oq {t:Ty} (h:y7 t):(bV t).size≤12582925:=by
 obtain⟨_,_,h1,h2⟩:=h;have e1:=gq _ h1.1 h1.2;have e2:=gq _ h2.1 h2.2;unfold bV;split
 ·decide
 ·rw[ByteArray.size_append,ByteArray.size_append,ByteArray.size_append];show 1+_+1+_≤_;omega
theorem wB (t:Ty) (w:World) (h:y7 t):Calls Tryz.prog 120 #[t.v] w (mF (bV t) w):=by
 obtain⟨h1,h2,h3,h4⟩:=h;have HA:=zH (fun W=>O7 t.aH W h1 h3);have HB:=zH (fun W=>O7 t.days W h2 h4);have z1:=gq _ h3.1 h3.2;have z2:=gq _ h4.1 h4.2;unfold bV;generalize aZ (aW t.aH)=s1 at*;generalize aZ (aW t.days)=s2 at*;clear h1 h2 h3 h4;obtain⟨a0,a1,a2⟩:=t;unfold Ty.v;simp only at HA HB⊢;have y1:¬(9223372036854775807<1+s1.size):=by omega
 have y2:¬(9223372036854775807<(⟨#[109]⟩++s1:ByteArray).size+1):=by rw[ByteArray.size_append];show ¬(_<1+s1.size+1);omega
 have y3:¬(9223372036854775807<1+s1.size+1):=by omega
 have y4:¬(9223372036854775807<(⟨#[109]⟩++s1++⟨#[100]⟩:ByteArray).size+s2.size):=by rw[ByteArray.size_append,ByteArray.size_append];show ¬(_<1+s1.size+1+_);omega
 have y5:¬(9223372036854775807<1+s1.size+1+s2.size):=by omega
 clear z1 z2;go_enter Tryz.func120,Tryz.ntmps120
 go_upto_region 1 with fail
 generalize hX:w.alloc _=W;obtain⟨hk,hb⟩:=zA hX;have hc:=fun (X:World) (h:Below W.heap.size W X)=>show X.cell? ⟨w.heap.size,0,none⟩=some (.bool a0)∧X.cell? ⟨w.heap.size,1,none⟩=some (.int .i64 a1)∧X.cell? ⟨w.heap.size,2,none⟩=some (.int .i64 a2) from⟨(hk.below h hk.lt).cells 0,(hk.below h hk.lt).cells 1,(hk.below h hk.lt).cells 2⟩
 have hc1:=hc W (Below.refl _ _);clear hX hk;cases a0
 ·go_upto_region 3 with fail
  clear hc1;refine gy (Below W.heap.size W) 99 (Below.refl W.heap.size W).drew (fun w5 h5 hS=>?_)
  iterate 3 refine bU ?_
  refine bW 6 ?_;refine bW 7 ?_;refine bW 8 ?_;refine eY 3 (HA.out _) ?_;unfold mF;rintro e w6 ⟨rfl,hb6⟩;refine⟨_,rfl,ah hS hb6,fun hS=>?_⟩;refine bW 4 ?_;refine bW 5 ?_;refine eY 9 (HB.out _) ?_;unfold mF;rintro e w7 ⟨rfl,hb7⟩;refine⟨_,rfl,ah hS hb7,fun hS=>?_⟩
  iterate 2 refine bU ?_
  refine dY ?_;clear hc;go_wp2;go_ret;exact⟨rfl,ah hb hS⟩
 ·go_wp2;go_ret;exact⟨rfl,hb⟩
def I8 (d:Dc):ByteArray:=xk++d.name++jW++bV d.ty
theorem MG (d:Dc) (w:World) (hn:d.name.size≤1048576) (h:y7 d.ty):Calls Tryz.prog 75 #[.agg d.cells.toArray] w (mF (I8 d) w):=by
 have HA:=zH (fun W=>wB d.ty W h);have z1:=oq h;unfold I8;obtain⟨nm,t⟩:=d;simp only at hn h HA z1⊢;generalize bV t=s1 at*;clear h;obtain⟨a0,a1,a2⟩:=t;unfold Dc.cells;unfold Ty.v at HA;simp only at HA⊢;have y1:¬(9223372036854775807<5+nm.size):=by omega
 have y2:¬(9223372036854775807<(xk++nm).size+1):=by rw[ByteArray.size_append];show ¬(_<5+nm.size+1);omega
 have y3:¬(9223372036854775807<5+nm.size+1):=by omega
 have y4:¬(9223372036854775807<(xk++nm++jW).size+s1.size):=by rw[ByteArray.size_append,ByteArray.size_append];show ¬(_<5+nm.size+1+_);omega
 have y5:¬(9223372036854775807<5+nm.size+1+s1.size):=by omega
 unfold xk jW at*;clear hn z1;go_enter Tryz.func75,Tryz.ntmps75
 go_upto_region 1 with fail
 generalize hX:w.alloc _=W;obtain⟨hk,hb⟩:=zA hX;have hc:=fun (X:World) (h:Below W.heap.size W X)=>show X.cell? ⟨w.heap.size,0,none⟩=some (.string nm)∧X.cell? ⟨w.heap.size,1,none⟩=some (.bool a0)∧X.cell? ⟨w.heap.size,2,none⟩=some (.int .i64 a1)∧X.cell? ⟨w.heap.size,3,none⟩=some (.int .i64 a2) from⟨(hk.below h hk.lt).cells 0,(hk.below h hk.lt).cells 1,(hk.below h hk.lt).cells 2,(hk.below h hk.lt).cells 3⟩
 clear hX hk;refine gy (Below W.heap.size W) 99 (Below.refl W.heap.size W).drew (fun w5 h5 hS=>?_)
 iterate 6 refine bU ?_
 refine eY 6 (HA.out _) ?_;unfold mF;rintro e w6 ⟨rfl,hb6⟩;refine⟨_,rfl,ah hS hb6,fun hS=>?_⟩
 iterate 2 refine bU ?_
 refine dY ?_;clear hc;go_wp2;go_ret;exact⟨rfl,ah hb hS⟩
def qM:Nat→List Bk→List UInt8
 |_,[]=>[]
 |k,b::r=>(if k=0 then [] else [44,32])++((aZ b.fr).data.toList++([32]++((aZ b.rt).data.toList++qM (k+1) r)))
def vU (s:Sc):List UInt8:=(BD++s.name++jW++bV ⟨false,s.aH,s.days⟩++tY).data.toList++qM 0 s.bQ
theorem XL:∀(l:List Bk) (k:Nat),qM (k+1) l=zG (k+1) l:=by
 intro l
 induction l with
 |nil=>intro k;rfl
 |cons b r ih=>
  intro k;rw[qM,zG,ih,if_neg (by omega)];simp[bD,bkW,wu,jW]
theorem LK {s:Sc} (h:s.bQ≠[]):vU s++[10]=uM s:=by
 unfold vU uM;cases hb:s.bQ with
 |nil=>exact absurd hb h
 |cons b r=>
  rw[qM,zG,XL,if_pos rfl];simp[bD,bkW,wu,jW,UN,tH,tY,ByteArray.data_append]
theorem LM (l:List Bk) (k:Nat) (hf:∀b∈l,oL b):(qM k l).length≤12582923*l.length:=by
 induction l generalizing k with
 |nil=>exact Nat.zero_le _
 |cons b r ih=>
  have h1:=ih (k+1) (fun b hb=>hf b (by simp[hb]));obtain⟨⟨f1,f2⟩,f3,f4⟩:=hf b (by simp);have h2:=gq b.fr f1 f2;have h3:=gq b.rt f3 f4;rw[kH] at h2 h3;have h4:(if k=0 then ([]:List UInt8) else [44,32]).length≤2:=by split<;>simp
  rw[qM];simp only[List.length_append,List.length_cons,List.length_nil]
  omega
theorem UO {s:ByteArray} {l:List UInt8} (h:s.data.toList=l):s=⟨l.toArray⟩:=by rw[←h]
theorem O8 (x:Sc × Hd) (w:World) (hr:aU w Bk.cells x.1.bQ x.2) (hf:∀b∈x.1.bQ,oL b) (hl:x.1.bQ.length≤1000) (hn:x.1.name.size≤1048576) (ht:y7 ⟨false,x.1.aH,x.1.days⟩):
  Calls Tryz.prog 76 #[.agg (fU x).toArray] w (mF ⟨(vU x.1).toArray⟩ w):=by
 have hlen:=LM x.1.bQ 0 hf;have hty:=oq ht;have tX:=zH (fun W=>wB ⟨false,x.1.aH,x.1.days⟩ W ht);obtain⟨⟨nm,m,d,bQ⟩,⟨A,n,c⟩⟩:=x;unfold vU fU;simp only at hr hf hl hn hlen tX hty⊢;have HN:Hid (n=bQ.length):=hr.len;have hm:n≤1000:=by have:=HN.out;omega
 obtain⟨tt,htt⟩:=zF (bV ⟨false,m,d⟩);rw[htt] at tX hty⊢;obtain⟨tot,htot⟩:=zF ((BD++nm++jW++tt++tY).data.toList++qM 0 bQ);rw[htot];have hO:(BD++nm++jW++tt++tY).size=9+nm.size+1+tt.size+2:=by simp only[ByteArray.size_append];rfl
 have hT:tot.length≤10000000000000:=by rw[←htot,List.length_append,←kH,hO];omega
 have HT:=zH htot;clear ht hlen htot htt;have y1:¬(9223372036854775807<9+nm.size):=by omega
 have y2:¬(9223372036854775807<9+nm.size+1):=by omega
 have y3:¬(9223372036854775807<9+nm.size+1+tt.size):=by omega
 have y4:¬(9223372036854775807<9+nm.size+1+tt.size+2):=by omega
 unfold BD jW tY at*;clear hO;go_enter Tryz.func76,Tryz.ntmps76
 go_upto_region 1 with fail
 generalize hX:w.alloc _=W;obtain⟨hk,hb0⟩:=zA hX;replace hr:=hr.below hb0;have hL:=fun (X:World) (h:Below W.heap.size W X)=>show X.cell? ⟨w.heap.size,0,none⟩=some (.string nm)∧X.cell? ⟨w.heap.size,1,none⟩=some (.int .i64 m)∧X.cell? ⟨w.heap.size,2,none⟩=some (.int .i64 d)∧X.cell? ⟨w.heap.size,3,none⟩=some (.slice A n c) from⟨(hk.below h hk.lt).cells 0,(hk.below h hk.lt).cells 1,(hk.below h hk.lt).cells 2,(hk.below h hk.lt).cells 3⟩
 clear hX hk;refine gy (Below W.heap.size W) 99 (Below.refl W.heap.size W).drew (fun w5 h5 hS=>?_)
 iterate 6 refine bU ?_
 refine eY 6 (FP m d _) ?_;rintro e w6 ⟨rfl,hb6⟩;refine⟨_,rfl,ah hS hb6,fun hS=>?_⟩;refine eY 7 (tX.out _) ?_;unfold mF;rintro e w7 ⟨rfl,hb7⟩;refine⟨_,rfl,ah hS hb7,fun hS=>?_⟩
 iterate 3 refine bU ?_
 refine dY ?_;go_wp2;clear h5 hb6 hb7 y1 y2 y3 y4 tX
 go_loopg [3,4] n (fun g ov iv X=>∃(j:Nat) (O:ByteArray),j+g=n∧ov=.string O∧iv=.int .i64 j∧Below W.heap.size W X∧Hid (O.data.toList++qM j (bQ.drop j)=tot))
 case atStart=>exact⟨0,_,by omega,rfl,rfl,hS,HT.out⟩
 case round=>
  clear hS HT;obtain⟨j,O,hj,rfl,rfl,hb,HE⟩:=hrel;by_cases hlt:j<n
  ·obtain⟨b,off,rfl,hat⟩:=aaQ hr (show 0<n by omega);obtain⟨⟨an,au,ad⟩,⟨rn,ru,rd⟩,hx,hx2,hc⟩:=hat j hlt;obtain⟨⟨f1,f2⟩,f3,f4⟩:=hf _ (List.getElem_mem hx);rw[hx2] at f1 f2 f3 f4;simp only at f1 f2 f3 f4;have Cb:=zH (fun W=>rG ⟨an,au,ad⟩ W f1 f2);have oP:=zH (fun W=>rG ⟨rn,ru,rd⟩ W f3 f4);have he:=HE.out;rw[List.drop_eq_getElem_cons hx,qM,hx2] at he;simp only at he;obtain⟨s1,h1⟩:=zF (aZ ⟨an,au,ad⟩);obtain⟨s2,h2⟩:=zF (aZ ⟨rn,ru,rd⟩);rw[h1] at Cb he;rw[h2] at oP he;unfold Ra.v at Cb oP;simp only at Cb oP
   have hsz:O.size+s1.size+s2.size+3≤10000000000003:=by
    have h3:=congrArg List.length he;simp only[List.length_append,←kH] at h3;omega
   replace HE:=zH he;have hcc:=fun X hX=>And.intro (hc X hX) (hL X hX)
   clear he h1 h2 f1 f2 f3 f4 hx2 hat hc
   go_upto_region 5 with fail
   go_cut [23] from 22 to 23 (fun v X=>v=.bool (decide (0<j))∧Below W.heap.size W X)
   case first=>
    go_wp2
    go_meet
    case rel=>exact⟨by first|rfl|(congr 1;done)|(congr 1;rw[Bool.eq_iff_iff];simp),hb⟩
   case rest=>
    obtain⟨rfl,hb⟩:=hcut;obtain⟨q,hq⟩:=zF (decide (0<j));rw[hq]
    go_upto_if 23 with fail
    go_cut [3] from 24 to 25 (fun v X=>∃O':ByteArray,v=.string O'∧Hid (O'.data.toList++(s1.data.toList++([32]++(s2.data.toList++qM (j+1) (bQ.drop (j+1)))))=tot)∧Hid (O'.size+s1.size+s2.size+1≤10000000000003)∧Below W.heap.size W X)
    case first=>
     have y1:¬(9223372036854775807<O.size+2):=by omega
     have yM:=zH hsz;clear hsz;cases q
     ·have h0:¬0<j:=of_decide_eq_false hq;have he:=HE.out;rw[if_pos (by omega),List.nil_append] at he;replace HE:=zH he;clear he h0 hq;go_wp2
      go_meet
      case rel=>exact⟨O,rfl,HE.out,by have:=yM.out;show _≤_;omega,hb⟩
     ·have h0:0<j:=of_decide_eq_true hq;have he:=HE.out;rw[if_neg (by omega)] at he;replace HE:=zH he;clear he h0 hq;go_wp2
      go_meet
      case rel=>exact⟨_,rfl,by rw[mO,List.append_assoc];exact HE.out,by have:=yM.out;show _≤_;rw[ByteArray.size_append];show O.size+2+_+_+1≤_;omega,hb⟩
    case rest=>
     clear hb HE hsz hq;obtain⟨O',rfl,HE,hsz,hb⟩:=hcut;replace hsz:=hsz.out;have y1:¬(9223372036854775807<O'.size+s1.size):=by omega
     have y2:¬(9223372036854775807<O'.size+s1.size+1):=by omega
     have y3:¬(9223372036854775807<O'.size+s1.size+1+s2.size):=by omega
     clear hsz
     go_upto_region 7 with fail
     refine gy (Below W.heap.size W) 99 hb.drew (fun w5 h5 hS=>?_)
     iterate 7 refine bU ?_
     refine bW 10 ?_;refine bW 11 ?_;refine bW 12 ?_;refine bW 13 ?_;refine bW 14 ?_;refine bW 15 ?_;refine eY 7 (Cb.out _) ?_;rintro e w6 ⟨rfl,hb6⟩;refine⟨_,rfl,ah hS hb6,fun hS=>?_⟩;refine bW 8 ?_;refine bW 9 ?_;refine eY 16 (oP.out _) ?_;rintro e w7 ⟨rfl,hb7⟩;refine⟨_,rfl,ah hS hb7,fun hS=>?_⟩
     iterate 2 refine bU ?_
     refine dY ?_;clear hcc hb h5 hb6 hb7;go_wp2
     go_roundg (n-(j+1))
     case measure=>omega
     case rel=>exact⟨j+1,_,by omega,rfl,by go_num,hS,by show _=_;rw[←HE.out];simp[ByteArray.data_append]⟩
  ·have HE2:Hid (O=⟨tot.toArray⟩):=by have h:=HE.out;rw[List.drop_eq_nil_of_le (by have:=HN.out;omega),qM,List.append_nil] at h;exact UO h
   have KP:=hL _ hb;clear HE;go_wp2;go_ret;exact⟨by rw[HE2.out];rfl,ah hb0 hb⟩
def BH (p:Pv):List UInt8:=(GH++p.name++jW++bV p.ty).data.toList++((if p.jI then BG.data.toList else [])++((if je p then [] else zD.data.toList++((aZ p.step).data.toList++(sCap.data.toList++(aZ p.cap).data.toList)))++(tY.data.toList++(bodyT p.body).data.toList)))
theorem ZR (p:Pv):BH p++[10]=vT p:=by
 unfold BH vT;cases p.jI<;>cases je p<;>simp[bD,XK,Rz,tH,ByteArray.data_append]
theorem I9 (e:List Nd) (hf:∀n∈e,Fine n):(bodyT e).size≤420000120:=by
 unfold bodyT;split
 ·next h=>
  have h1:=Ld 61 e (Lc h) hf;have h2:=(wW h).2;show (textE e).length≤_;omega
 ·exact Nat.zero_le _
theorem Qy (x:Pv × Hd) (w:World) (hb1:aU w Nd.cells x.1.body x.2) (hs:iw x.1.step) (hc:iw x.1.cap) (hf:∀n∈x.1.body,Fine n) (hn:x.1.name.size≤1048576) (ht:y7 x.1.ty):
  Calls Tryz.prog 77 #[.agg (bg x).toArray] w (mF ⟨(BH x.1).toArray⟩ w):=by
 have tX:=zH (fun W=>wB x.1.ty W ht);have qF:=zH (fun W=>I4 x W);have Cb:=zH (fun W=>rG x.1.step W hs.1 hs.2);have oP:=zH (fun W=>rG x.1.cap W hc.1 hc.2);have Rt:=zH (fun W (h:Below w.heap.size w W)=>WJ x.1.body x.2.a x.2.n x.2.c W ⟨(hb1.below h).len,(hb1.below h).cap,(hb1.below h).max,(hb1.below h).rd⟩ hf);unfold pV at Rt;have z1:=oq ht;have z2:=gq _ hs.1 hs.2;have z3:=gq _ hc.1 hc.2;have z4:=I9 x.1.body hf;obtain⟨y,hy⟩:=zE (BH x.1);have HY:Hid (y=(GH++x.1.name++jW++bV x.1.ty).data.toList++((if x.1.jI then BG.data.toList else [])++((if je x.1 then [] else zD.data.toList++((aZ x.1.step).data.toList++(sCap.data.toList++(aZ x.1.cap).data.toList)))++(tY.data.toList++(bodyT x.1.body).data.toList)))):=hy;rw[←hy];obtain⟨tt,htt⟩:=zF (bV x.1.ty);obtain⟨s1,hs1⟩:=zF (aZ x.1.step);obtain⟨s2,hs2⟩:=zF (aZ x.1.cap);obtain⟨pl,hpl⟩:=zF (je x.1);rw[htt] at tX HY z1;rw[hs1] at Cb HY z2;rw[hs2] at oP HY z3;rw[hpl] at qF HY;clear htt hs1 hs2 hpl hy hs hc hf ht hb1;obtain⟨⟨nm,⟨ty0,ty1,ty2⟩,ch,⟨kW,kX,kY⟩,⟨kZ,lg,cn3⟩,bo⟩,⟨ha,hnn,hcc⟩⟩:=x;unfold bg at qF⊢;unfold Ra.v at Cb oP;unfold Ty.v at tX;simp only at tX qF Cb oP Rt HY hn z4⊢;go_enter Tryz.func77,Tryz.ntmps77
 go_upto_region 1 with fail
 generalize hX:w.alloc _=W;obtain⟨hk,hb⟩:=zA hX;have hcf:=fun (X:World) (h:Below W.heap.size W X)=>(hk.below h hk.lt).cells
 have y1:¬(9223372036854775807<10+nm.size):=by omega
 have y2:¬(9223372036854775807<10+nm.size+1):=by omega
 have y3:¬(9223372036854775807<10+nm.size+1+tt.size):=by omega
 clear hX hk;refine gy (Below W.heap.size W) 99 (Below.refl W.heap.size W).drew (fun w5 h5 hS=>?_)
 iterate 6 refine bU ?_
 refine eY 6 (tX.out _) ?_;unfold mF;rintro e w6 ⟨rfl,hb6⟩;refine⟨_,rfl,ah hS hb6,fun hS=>?_⟩
 iterate 2 refine bU ?_
 refine dY ?_;clear h5 hb6 y1 y2 y3;obtain⟨O,hO⟩:=zE ((⟨#[112,114,111,118,105,115,105,111,110,32]⟩:ByteArray)++nm++⟨#[32]⟩++tt);have LP:O.size≤14680000:=by rw[hO];simp only[ByteArray.size_append];show 10+_+1+_≤_;omega
 have HO:Hid (O.data.toList++((if ch then BG.data.toList else [])++((if pl then [] else zD.data.toList++(s1.data.toList++(sCap.data.toList++s2.data.toList)))++(tY.data.toList++(bodyT bo).data.toList)))=y):=by show _=_;rw[HY.out,hO];rfl
 rw[←hO];clear HY hO hn z1 tX;have hc1:=hcf _ hS
 go_upto_if 15 with fail
 go_cut [3] from 14 to 17 (fun v X=>∃O':ByteArray,v=.string O'∧Hid (O'.data.toList++((if pl then [] else zD.data.toList++(s1.data.toList++(sCap.data.toList++s2.data.toList)))++(tY.data.toList++(bodyT bo).data.toList))=y)∧Hid (O'.size≤14680007)∧Below W.heap.size W X)
 case first=>
  have y1:¬(9223372036854775807<O.size+7):=by omega
  have rJ:=zH LP;clear LP hc1;cases ch
  ·go_wp2
   go_meet
   case rel=>exact⟨O,rfl,HO.out,by have:=rJ.out;show _≤_;omega,hS⟩
  ·go_wp2
   go_meet
   case rel=>exact⟨_,rfl,by rw[mO,List.append_assoc];exact HO.out,by have:=rJ.out;show _≤_;rw[ByteArray.size_append];show O.size+7≤_;omega,hS⟩
 case rest=>
  clear hS HO LP hc1;obtain⟨O1,rfl,HO,LP,hS⟩:=hcut;have hc1:=hcf _ hS;go_wp2_with fail;refine (qF.out _).mono ?_;rintro e w7 ⟨rfl,hb7⟩;replace hS:=ah hS hb7;clear hc1 hb7 qF
  go_upto_if 20 with fail
  go_cut [3] from 21 to 31 (fun v X=>∃O':ByteArray,v=.string O'∧Hid (O'.data.toList++(tY.data.toList++(bodyT bo).data.toList)=y)∧Hid (O'.size≤30000000)∧Below W.heap.size W X)
  case first=>
   have hO9:=LP.out;have rJ:=zH hO9;have y1:¬(9223372036854775807<O1.size+6):=by omega
   have y2:¬(9223372036854775807<O1.size+6+s1.size):=by omega
   have y3:¬(9223372036854775807<O1.size+6+s1.size+5):=by omega
   have y4:¬(9223372036854775807<O1.size+6+s1.size+5+s2.size):=by omega
   have HZ:=zH (And.intro z2 z3);clear hO9 z2 z3 z4;cases pl
   ·go_upto_region 5 with fail
    refine gy (Below W.heap.size W) 99 hS.drew (fun w8 h8 hS=>?_)
    iterate 4 refine bU ?_
    refine bW 7 ?_;refine bW 8 ?_;refine eY 4 (Cb.out _) ?_;rintro e w9 ⟨rfl,eP⟩;refine⟨_,rfl,ah hS eP,fun hS=>?_⟩;refine bW 5 ?_;refine bW 6 ?_;refine eY 9 (oP.out _) ?_;rintro e w10 ⟨rfl,dA⟩;refine⟨_,rfl,ah hS dA,fun hS=>?_⟩
    iterate 2 refine bU ?_
    refine dY ?_;clear hcf;go_wp2
    go_meet
    case rel=>exact⟨_,rfl,by show _=_;rw[←HO.out];simp[zD,sCap,ByteArray.data_append],by have:=rJ.out;have h2:=HZ.out.1;have h3:=HZ.out.2;show _≤_;simp only[ByteArray.size_append];show O1.size+6+_+5+_≤_;omega,hS⟩
   ·go_wp2
    go_meet
    case rel=>exact⟨O1,rfl,HO.out,by have:=rJ.out;show _≤_;omega,hS⟩
  case rest=>
   clear hS HO LP Cb oP;obtain⟨O2,rfl,HO,LP,hS⟩:=hcut;have hc1:=hcf _ hS;have lG:=Rt.out _ (ah hb hS);rw[show (⟨(if bC bo=0 then textE bo else []).toArray⟩:ByteArray)=bodyT bo from rfl] at lG;replace lG:=zH lG;generalize bodyT bo=bd at*;go_wp2_with fail;refine lG.out.mono ?_;rintro e lW ⟨rfl,UQ⟩;have hO9:=LP.out;have y1:¬(9223372036854775807<O2.size+2):=by omega
   have y2:¬(9223372036854775807<O2.size+2+bd.size):=by omega
   have rU:=ah hb (ah hS UQ)
   have HE:Hid (O2++⟨#[58,32]⟩++bd=⟨y.toArray⟩):=by
    show _=_;refine UO ?_;rw[←HO.out];simp[tY,ByteArray.data_append]
   clear hO9 z2 z3 z4 hc1 UQ;go_wp2;go_ret;exact⟨by show _=Ending.returned (.string _);rw[←HE.out];rfl,rU⟩
structure aaX (l:Lw):Prop where
 fl:lU l
 f:∀d∈l.facts,d.name.size≤1048576∧y7 d.ty
 s:∀x∈l.bI,x.name.size≤1048576∧y7 ⟨false,x.aH,x.days⟩∧x.bQ.length≤1000
 p:∀x∈l.aP,x.name.size≤1048576∧y7 x.ty
def Ja (d:Dc):List UInt8:=(I8 d).data.toList++[10]
def JJ (x:Sc × Hd):List UInt8:=vU x.1++[10]
def LQ (x:Pv × Hd):List UInt8:=BH x.1++[10]
def yA (fs:List Dc) (ss:List (Sc × Hd)) (ps:List (Pv × Hd)):List UInt8:=fs.flatMap Ja++(ss.flatMap JJ++ps.flatMap LQ)
theorem JK {α:Type} (f:α→List UInt8) {xs:List α} {j:Nat} (h:j<xs.length) (R:List UInt8):(xs.drop j).flatMap f++R=f xs[j]++((xs.drop (j+1)).flatMap f++R):=by rw[List.drop_eq_getElem_cons h,List.flatMap_cons,List.append_assoc]
theorem UR (l:Lw) (ss:List (Sc × Hd)) (ps:List (Pv × Hd)) (f s p:Hd) (w:World) (h:fG w l ss ps f s p) (hW:aaX l) (htot:(yA l.facts ss ps).length≤10000000000000):
  Calls Tryz.prog 33 #[dQ f s p] w (mF ⟨(yA l.facts ss ps).toArray⟩ w):=by
 obtain⟨tot,ht⟩:=zE (yA l.facts ss ps);rw[←ht] at htot⊢;have HT:Hid (tot=l.facts.flatMap Ja++(ss.flatMap JJ++ps.flatMap LQ)):=ht;have FD:=zH (fun x (hx:x∈ss)=>hW.s x.1 (by rw[←h.sl];exact List.mem_map_of_mem hx));have DU:=zH (fun x (hx:x∈ss)=>hW.fl.sb x.1 (by rw[←h.sl];exact List.mem_map_of_mem hx));have HFP:=zH (fun x (hx:x∈ps)=>hW.p x.1 (by rw[←h.pl];exact List.mem_map_of_mem hx));have sZ:=zH (fun x (hx:x∈ps)=>hW.fl.pb x.1 (by rw[←h.pl];exact List.mem_map_of_mem hx));have HFF:=zH hW.f;obtain⟨hf,hs,hp,_,_,hsb,hpb⟩:=h;generalize l.facts=fs at*;clear ht hW;obtain⟨fa,fn,fc⟩:=f;obtain⟨sa,sn,sc⟩:=s;obtain⟨pa,pn,pc⟩:=p;have m1:fn≤9223372036854775807:=by have h1:=hf.cap;have h2:=hf.max;unfold maxLen at h2;simp only at h1 h2;omega
 have m2:sn≤9223372036854775807:=by have h1:=hs.cap;have h2:=hs.max;unfold maxLen at h2;simp only at h1 h2;omega
 have m3:pn≤9223372036854775807:=by have h1:=hp.cap;have h2:=hp.max;unfold maxLen at h2;simp only at h1 h2;omega
 have yY:Hid (fn=fs.length):=hf.len;have wI:Hid (sn=ss.length):=hs.len;have yZ:Hid (pn=ps.length):=hp.len;unfold dQ;simp only
 go_enter Tryz.func33,Tryz.ntmps33
 go_upto_region 1 with fail
 generalize hX:w.alloc _=W;obtain⟨hk,hb0⟩:=zA hX;replace hf:=hf.below hb0;replace hs:=hs.below hb0;replace hp:=hp.below hb0;have jh:=zH (fun x hx X (h:Below W.heap.size W X)=>((hsb x hx).below hb0).below h);have Jb:=zH (fun x hx X (h:Below W.heap.size W X)=>((hpb x hx).below hb0).below h);have hL:=fun (X:World) (h:Below W.heap.size W X)=>show X.cell? ⟨w.heap.size,0,none⟩=some (.slice fa fn fc)∧X.cell? ⟨w.heap.size,1,none⟩=some (.slice sa sn sc)∧X.cell? ⟨w.heap.size,2,none⟩=some (.slice pa pn pc) from⟨(hk.below h hk.lt).cells 0,(hk.below h hk.lt).cells 1,(hk.below h hk.lt).cells 2⟩
 clear hX hk hsb hpb;go_wp2
 go_loopg [3,4] fn (fun g ov iv X=>∃(j:Nat) (O:ByteArray),j+g=fn∧ov=.string O∧iv=.int .i64 j∧Below W.heap.size W X∧Hid (O.data.toList++((fs.drop j).flatMap Ja++(ss.flatMap JJ++ps.flatMap LQ))=tot))
 case atStart=>exact⟨0,_,by omega,rfl,rfl,Below.refl _ _,HT.out.symm⟩
 case round=>
  clear HT;obtain⟨j,O,hj,rfl,rfl,hb,HE⟩:=hrel;have hl:=hL _ hb;by_cases hlt:j<fn
  ·obtain⟨b,off,nm,t,m,d,rfl,_,hx,hx2,hc⟩:=ES hf hlt;have he:=HE.out;rw[JK _ hx,hx2] at he;obtain⟨f1,f2⟩:=HFF.out _ (List.getElem_mem hx);rw[hx2] at f1 f2;have HC:=zH (fun W=>MG ⟨nm,⟨t,m,d⟩⟩ W f1 f2);unfold Ja at he;obtain⟨s1,h1⟩:=zF (I8 ⟨nm,⟨t,m,d⟩⟩);rw[h1] at HC he;have hsz:=congrArg List.length he;simp only[List.length_append,←kH] at hsz;have y1:¬(9223372036854775807<O.size+s1.size):=by omega
   have y2:¬(9223372036854775807<O.size+s1.size+1):=by omega
   replace HE:=zH he;have hc1:=hc _ hb;clear he h1 hx2 hc hsz f1 f2;unfold Dc.cells at HC;simp only at HC;go_wp2_with fail;refine (HC.out _).mono ?_;unfold mF;rintro e w1 ⟨rfl,hb1⟩;replace hb:=ah hb hb1;clear hc1 hb1 hl;go_wp2
   go_roundg (fn-(j+1))
   case measure=>omega
   case rel=>exact⟨j+1,_,by omega,rfl,by go_num,hb,by show _=_;rw[←HE.out];simp[ByteArray.data_append];rfl⟩
  ·have HE2:Hid (O.data.toList++(ss.flatMap JJ++ps.flatMap LQ)=tot):=by have h:=HE.out;rw[List.drop_eq_nil_of_le (by have:=yY.out;omega)] at h;exact h
   clear HE;go_wp2;clear hl
   go_loopg [3,5] sn (fun g ov iv X=>∃(j:Nat) (O:ByteArray),j+g=sn∧ov=.string O∧iv=.int .i64 j∧Below W.heap.size W X∧Hid (O.data.toList++((ss.drop j).flatMap JJ++ps.flatMap LQ)=tot))
   case atStart=>exact⟨0,_,by omega,rfl,rfl,hb,HE2.out⟩
   case round=>
    clear hb HE2;obtain⟨j,O,hj,rfl,rfl,hb,HE⟩:=hrel;have hl:=hL _ hb;by_cases hlt:j<sn
    ·obtain⟨b,off,nm,m,d,bs,hd,rfl,_,hx,hx2,hc⟩:=Bv hs hlt;have he:=HE.out;rw[JK _ hx,hx2] at he;have hm:=List.getElem_mem hx;rw[hx2] at hm;obtain⟨f1,f2,f3⟩:=FD.out _ hm;have HC:=zH (fun X (h:Below W.heap.size W X)=>O8 (⟨nm,m,d,bs⟩,hd) X (jh.out _ hm X h) (DU.out _ hm) f3 f1 f2);unfold JJ at he;simp only at he HC;obtain⟨s1,h1⟩:=zF (⟨(vU ⟨nm,m,d,bs⟩).toArray⟩:ByteArray);rw[h1] at HC;have h1':vU ⟨nm,m,d,bs⟩=s1.data.toList:=by rw[←h1]
     rw[h1'] at he;have hsz:=congrArg List.length he;simp only[List.length_append,←kH] at hsz;have y1:¬(9223372036854775807<O.size+s1.size):=by omega
     have y2:¬(9223372036854775807<O.size+s1.size+1):=by omega
     replace HE:=zH he;have hc1:=hc _ hb;clear he h1 h1' hx2 hc hsz f1 f2 f3 hm;unfold fU at HC;simp only at HC;go_wp2_with fail;refine (HC.out _ hb).mono ?_;unfold mF;rintro e w1 ⟨rfl,hb1⟩;replace hb:=ah hb hb1;clear hc1 hb1 hl;go_wp2
     go_roundg (sn-(j+1))
     case measure=>omega
     case rel=>exact⟨j+1,_,by omega,rfl,by go_num,hb,by show _=_;rw[←HE.out];simp[ByteArray.data_append];rfl⟩
    ·have HE2:Hid (O.data.toList++ps.flatMap LQ=tot):=by have h:=HE.out;rw[List.drop_eq_nil_of_le (by have:=wI.out;omega)] at h;exact h
     clear HE;go_wp2;clear hl
     go_loopg [3,6] pn (fun g ov iv X=>∃(j:Nat) (O:ByteArray),j+g=pn∧ov=.string O∧iv=.int .i64 j∧Below W.heap.size W X∧Hid (O.data.toList++((ps.drop j).flatMap LQ++[])=tot))
     case atStart=>exact⟨0,_,by omega,rfl,rfl,hb,by show _=_;rw[List.append_nil];exact HE2.out⟩
     case round=>
      clear hb HE2;obtain⟨j,O,hj,rfl,rfl,hb,HE⟩:=hrel;have hl:=hL _ hb;by_cases hlt:j<pn
      ·obtain⟨b,off,x,rfl,_,hx,hx2,hc⟩:=Bz hp hlt;have he:=HE.out;rw[JK _ hx,hx2] at he;have hm:=List.getElem_mem hx;rw[hx2] at hm;obtain⟨f1,f2⟩:=HFP.out _ hm;obtain⟨f3,f4,f5⟩:=sZ.out _ hm;have HC:=zH (fun X (h:Below W.heap.size W X)=>Qy x X (Jb.out _ hm X h) f3 f4 f5 f1 f2);unfold LQ at he;obtain⟨s1,h1⟩:=zF (⟨(BH x.1).toArray⟩:ByteArray);rw[h1] at HC;have h1':BH x.1=s1.data.toList:=by rw[←h1]
       rw[h1'] at he;have hsz:=congrArg List.length he;simp only[List.length_append,←kH] at hsz;have y1:¬(9223372036854775807<O.size+s1.size):=by omega
       have y2:¬(9223372036854775807<O.size+s1.size+1):=by omega
       replace HE:=zH he;have hc1:=hc _ hb;clear he h1 h1' hx2 hc hsz f1 f2 f3 f4 f5 hm;obtain⟨⟨pnm,⟨ty0,ty1,ty2⟩,ch,⟨kW,kX,kY⟩,⟨kZ,lg,cn3⟩,bo⟩,⟨ha,hnn,hcc⟩⟩:=x;unfold bg at HC;simp only at HC hc1;go_wp2_with fail;refine (HC.out _ hb).mono ?_;unfold mF;rintro e w1 ⟨rfl,hb1⟩;replace hb:=ah hb hb1;clear hc1 hb1 hl;go_wp2
       go_roundg (pn-(j+1))
       case measure=>omega
       case rel=>exact⟨j+1,_,by omega,rfl,by go_num,hb,by show _=_;rw[←HE.out];simp[ByteArray.data_append];rfl⟩
      ·have HE2:Hid (O=⟨tot.toArray⟩):=by have h:=HE.out;rw[List.drop_eq_nil_of_le (by have:=yZ.out;omega),List.flatMap_nil,List.append_nil,List.append_nil] at h;exact UO h
       clear HE;go_wp2;go_ret;exact⟨by rw[HE2.out];rfl,ah hb0 hb⟩
theorem qR (w:World):Calls Tryz.prog 47 #[.bool true] w fun e w'=>e=.returned (.tuple #[])∧w'=w:=by
 go_enter Tryz.func47,Tryz.ntmps47;go_wp2;go_end0;exact⟨rfl,rfl⟩
theorem uV (s:ByteArray) (w:World) (hL:Laid w) (hs:s.size≤1048576) (hk:(fM s).2=true):Calls Tryz.prog 97 #[.string s] w fun e w'=>e=.returned (fM s).1.v∧Below w.heap.size w w':=by
 obtain⟨W,hW⟩:=zE (w.alloc (.cells #[.bool false,.string ⟨#[]⟩,.string ⟨#[]⟩] 40));obtain⟨B,hB⟩:=zE w.heap.size;have HK:Hid (aj W B 40 [.bool false,.string ⟨#[]⟩,.string ⟨#[]⟩]):=by show aj _ _ _ _;rw[hW,hB];exact aj.new w _ _
 have aK:Hid (Below w.heap.size w W):=by show Below _ _ _;rw[hW];exact zB _ _
 have HP:=zH (Ik s W (hL.below aK.out) hs);rw[hk] at HP;generalize (fM s).1=x at*;obtain⟨x1,x2,x3⟩:=x;unfold Ra.v at HP⊢;simp only at HP⊢;have cO:=zH (Nat.le_of_eq hB.symm);clear hL hk;go_enter Tryz.func97,Tryz.ntmps97
 go_upto_region 1 with fail
 simp only[←hW,←hB]
 clear hW hB;go_wp2_with fail;refine HP.out.mono ?_;rintro e w1 ⟨rfl,hb1⟩;have HB1:=zH (ah aK.out hb1);have jL:Hid (aj w1 B 40 [.bool false,.string ⟨#[]⟩,.string ⟨#[]⟩]):=HK.out.below hb1 HK.out.lt;have HA:Hid (Below w1.heap.size w1 (w1.alloc (.cells #[.bool x1,.string x2,.string x3] 40))):=(Below.refl _ _).alloc (Nat.le_refl _) _;obtain⟨w2,hw2⟩:=zE (w1.alloc (.cells #[.bool x1,.string x2,.string x3] 40));obtain⟨C,hC⟩:=zE w1.heap.size;have jD:Hid (aj w2 B 40 [.bool false,.string ⟨#[]⟩,.string ⟨#[]⟩]):=by show aj _ _ _ _;rw[hw2];exact jL.out.below HA.out jL.out.lt
 have Xk:Hid (aj w2 C 40 [.bool x1,.string x2,.string x3]):=by show aj _ _ _ _;rw[hw2,hC];exact aj.new w1 _ _
 have HB2:Hid (Below w.heap.size w w2):=by show Below _ _ _;rw[hw2];exact ah HB1.out HA.out
 have hM:=qR w2;have hk2:=jD.out.cells;have hk3:=Xk.out.cells;have hf2:=jD.out.aF;have hne:¬B=C:=by have:=jL.out.lt;omega
 have hne':¬C=B:=fun e=>hne e.symm
 clear hb1 HP
 go_upto_region 2 with fail
 simp only[←hw2,←hC]
 clear hw2 hC;go_wp2_with fail;refine hM.mono ?_;rintro e w3 ⟨rfl,rfl⟩;go_wp2;have IY:=((jD.out.set 0 (.bool x1)).set 1 (.string x2)).set 2 (.string x3);have hc:=IY.cells;refine bodyPost_ret (v:=.agg #[.bool x1,.string x2,.string x3]) (by simp[results,Tryz.results97,go_sem,hc]) rfl ⟨rfl,?_⟩;exact ((HB2.out.setCell (p:=⟨B,0,none⟩) cO.out _).setCell (p:=⟨B,1,none⟩) cO.out _).setCell (p:=⟨B,2,none⟩) cO.out _
theorem ZT (l:Lw) (T:List UInt8) (f s p:Hd) (w:World)
  (HC:Hid (∀W,Below w.heap.size w W→Calls Tryz.prog 18 #[dQ f s p] W fun e w'=>e=.returned (.int .i64 (bT l))∧Below W.heap.size W w'))
  (HW:Hid (bT l=0→∀W,Below w.heap.size w W→Calls Tryz.prog 33 #[dQ f s p] W (mF ⟨T.toArray⟩ W))):
  Calls Tryz.prog 16 #[dQ f s p] w fun e w'=>e=.returned (.tuple #[.string ⟨(if bT l=0 then T else []).toArray⟩,.int .i64 (bT l)])∧Below w.heap.size w w':=by
 obtain⟨z,hz⟩:=zF (bT l);rw[hz] at HC HW⊢;clear hz;obtain⟨O,hO⟩:=zF (if z=0 then T else []);rw[hO];have tV:Hid (z=0→O=T):=fun h=>by rw[←hO,if_pos h]
 have nP:Hid (z≠0→O=[]):=fun h=>by rw[←hO,if_neg h]
 clear hO;obtain⟨fa,fn,fc⟩:=f;obtain⟨sa,sn,sc⟩:=s;obtain⟨pa,pn,pc⟩:=p;unfold dQ at HC HW⊢;simp only at HC HW⊢;go_enter Tryz.func16,Tryz.ntmps16
 go_upto_region 1 with fail
 generalize hX:w.alloc _=W;obtain⟨hk,hb⟩:=zA hX;have hcf:=fun (X:World) (h:Below W.heap.size W X)=>(hk.below h hk.lt).cells
 have hc1:=hcf W (Below.refl _ _);clear hX hk;go_wp2_with fail;refine (HC.out _ hb).mono ?_;rintro e w1 ⟨rfl,hb1⟩;clear hc1;have hc1:=hcf _ hb1;replace hb:=ah hb hb1;by_cases h0:z=0
 ·replace HW:=zH (HW.out h0);have HE:=zH (tV.out h0);subst h0;go_wp2_with fail;refine (HW.out _ hb).mono ?_;unfold mF;rintro e w2 ⟨rfl,hb2⟩;replace hb:=ah hb hb2;clear hc1 hb2;go_wp2;go_ret2;exact⟨by rw[HE.out];rfl,hb⟩
 ·have HE:=zH (nP.out h0);have hz1:(z !=0)=true:=by simp[h0]
  have hz2:(z==0)=false:=by simp[h0]
  clear h0;go_wp2;go_ret2;exact⟨by rw[HE.out];rfl,hb⟩
theorem XM (a b:Int) (w:World):Calls Tryz.prog 12 #[.int .i64 a,.int .i64 b] w fun e w'=>e=.returned (Ty.v ⟨false,a,b⟩)∧Below w.heap.size w w':=by
 unfold Ty.v;simp only
 obtain⟨W,hW⟩:=zE (w.alloc (.cells #[.bool false,.int .i64 0,.int .i64 0] 32));obtain⟨B,hB⟩:=zE w.heap.size;have HK:Hid (aj W B 32 [.bool false,.int .i64 0,.int .i64 0]):=by show aj _ _ _ _;rw[hW,hB];exact aj.new w _ _
 have aK:Hid (Below w.heap.size w W):=by show Below _ _ _;rw[hW];exact zB _ _
 have cO:=zH (Nat.le_of_eq hB.symm);have hkb:=HK.out.cells;have hfb:=HK.out.aF;go_enter Tryz.func12,Tryz.ntmps12
 go_upto_region 1 with fail
 simp only[←hW,←hB]
 clear hW hB;go_wp2;have IY:=((HK.out.set 0 (.bool false)).set 1 (.int .i64 a)).set 2 (.int .i64 b);have hc:=IY.cells;refine bodyPost_ret (v:=.agg #[.bool false,.int .i64 a,.int .i64 b]) (by simp[results,Tryz.results12,go_sem,hc]) rfl ⟨rfl,?_⟩;exact ((aK.out.setCell (p:=⟨B,0,none⟩) cO.out _).setCell (p:=⟨B,1,none⟩) cO.out _).setCell (p:=⟨B,2,none⟩) cO.out _
end Go.Proofs.YtgfeadgafdijaaaGreatDoor
