/- A part of the proof: U8 Yc Ye Ys. -/
import Derived.Deep.LoopGhost
import Derived.Test.YtgfeadgafdijaaaGreatDoorJ01
import Derived.Test.YtgfeadgafdijaaaGreatDoorJ17
import Derived.Test.YtgfeadgafdijaaaGreatDoorJ22
import Derived.Test.YtgfeadgafdijaaaGreatDoorJ24
import Derived.Test.YtgfeadgafdijaaaGreatDoorJ31
import Derived.Test.YtgfeadgafdijaaaGreatDoorJ32
import Derived.Test.YtgfeadgafdijaaaGreatDoorJ33
set_option linter.unusedVariables false
set_option linter.unusedSimpArgs false
set_option maxRecDepth 100000
set_option maxHeartbeats 40000000
namespace Go.Proofs.YtgfeadgafdijaaaGreatDoor
open Go.RowKit
theorem JH (sg:List Sg) (x:Pv × Hd) (A1:Option Addr) (k1 c1:Nat) (w:World) (hL:bZ w) (hk1:k1=sg.length) (hm1:k1≤maxLen) (hr1:Rd w A1 (kM sg)) (hb:aU w Nd.cells x.1.body x.2) (hs:iw x.1.step) (hc:iw x.1.cap) (hf:∀n∈x.1.body,Fine n):
  Calls Tryz.prog 29 #[.slice A1 k1 c1,.agg (bg x).toArray] w fun e w'=>e=.returned (.int .i64 (jB sg x.1))∧Below w.heap.size w w':=by
 have HT:=zH (fun W (h:Below w.heap.size w W)=>Xw sg x.1.body A1 x.2.a k1 c1 x.2.n x.2.c W (hL.below h) hk1 hm1 (hr1.below h) ⟨(hb.below h).len,(hb.below h).cap,(hb.below h).max,(hb.below h).rd⟩ hf);have qF:=zH (fun W=>IZ x W);have jT:=zH (fun W=>Qx x W hs hc);have HL:Hid (∀W,Below w.heap.size w W→bZ W):=fun W hb=>hL.below hb
 have jE:Hid ((iK sg x.1.body).2≠0→jB sg x.1=(iK sg x.1.body).2):=fun h=>by unfold jB;rw[if_pos h]
 have kC:Hid ((iK sg x.1.body).2=0→decide ((iK sg x.1.body).1=x.1.ty)=false→jB sg x.1=13):=fun h h2=>by unfold jB;rw[if_neg (by rw[h];simp),if_pos (of_decide_eq_false h2)]
 have LG:Hid ((iK sg x.1.body).2=0→decide ((iK sg x.1.body).1=x.1.ty)=true→jB sg x.1=if (x.1.jI&& !decide ((iK sg x.1.body).1=jk))||(!je x.1&& !qc x.1) then 1 else 0):=fun h h2=>by
  have e:=of_decide_eq_true h2;unfold jB;rw[if_neg (by rw[h];simp),if_neg (by rw[e];simp),e];congr 3;rw[decide_not]
 have yS:=fun W=>Dl (iK sg x.1.body).1 x.1.ty W
 have HNC:=fun W=>Dl (iK sg x.1.body).1 jk W
 generalize jB sg x.1=R at*;generalize iK sg x.1.body=te at*;generalize je x.1=pl at*;generalize qc x.1=cp at*;clear hL hk1 hm1 hr1 hb hs hc hf;obtain⟨te,z⟩:=te;simp only at HT jE kC LG yS HNC;generalize decide (te=x.1.ty)=q1 at*;generalize decide (te=jk)=q2 at*;obtain⟨et,em,ed⟩:=te;obtain⟨⟨nm,⟨tt,tm,td⟩,ch,⟨kW,kX,kY⟩,⟨kZ,lg,cn3⟩,bo⟩,⟨ha,hn,hcc⟩⟩:=x;unfold bg at qF jT⊢;simp only[Ty.v,jk] at HT yS HNC qF jT LG⊢;obtain⟨W,hW⟩:=zE (w.alloc (.cells #[.string nm,.bool tt,.int .i64 tm,.int .i64 td,.slice ha hn hcc,.bool ch,.bool kW,.string kX,.string kY,.bool kZ,.string lg,.string cn3] 46));obtain⟨B,hB⟩:=zE w.heap.size;have HK:Hid (aj W B 46 [.string nm,.bool tt,.int .i64 tm,.int .i64 td,.slice ha hn hcc,.bool ch,.bool kW,.string kX,.string kY,.bool kZ,.string lg,.string cn3]):=by show aj _ _ _ _;rw[hW,hB];exact aj.new w _ _
 have aK:Hid (Below w.heap.size w W):=by show Below _ _ _;rw[hW];exact zB _ _
 have hkc:=HK.out.cells;go_enter Tryz.func29,Tryz.ntmps29
 go_upto_region 1 with fail
 simp only[←hW,←hB]
 clear hW hB;go_wp2_with fail;refine (HT.out W aK.out).mono ?_;rintro e w5 ⟨rfl,hb5⟩;have eF:=zH (ah aK.out hb5);have gZ:=zH (HK.out.below hb5 HK.out.lt);clear hb5 hkc HT
 go_upto_region 2 with fail
 obtain⟨w6,hw6⟩:∃x,x=w5.alloc (.cells #[.bool et,.int .i64 em,.int .i64 ed] 32):=⟨_,rfl⟩
 obtain⟨N,hN⟩:=zE w5.heap.size;have vI:Hid (aj w6 N 32 [.bool et,.int .i64 em,.int .i64 ed]):=by show aj _ _ _ _;rw[hw6,hN];exact aj.new _ _ _
 have wH:Hid (aj w6 B 46 [.string nm,.bool tt,.int .i64 tm,.int .i64 td,.slice ha hn hcc,.bool ch,.bool kW,.string kX,.string kY,.bool kZ,.string lg,.string cn3]):=by show aj _ _ _ _;rw[hw6];exact gZ.out.alloc _
 have mg:Hid (Below w.heap.size w w6):=by show Below _ _ _;rw[hw6];exact ah eF.out (zB _ _)
 simp only[←hw6,←hN]
 clear hw6 hN;have hkn:=vI.out.cells;have hk6:=wH.out.cells;have g0:=(HL.out _ mg.out).TI 0 _ rfl;have g1:=(HL.out _ mg.out).TI 1 _ rfl;have g2:=(HL.out _ mg.out).TI 2 _ rfl;unfold jk at g0 g1 g2;simp only at g0 g1 g2;by_cases hz:z=0
 ·subst hz;cases q1
  ·obtain rfl:R=13:=kC.out rfl rfl;go_wp2;go_ret;exact⟨rfl,mg.out⟩
  ·have hv3:=LG.out rfl rfl;clear jE kC LG;by_cases h1:(ch&& !q2)=true
   ·obtain⟨rfl,h2⟩:=Bool.and_eq_true_iff.1 h1;obtain rfl:q2=false:=by simpa using h2
    obtain rfl:R=1:=hv3;clear h1 h2;go_wp2;go_ret;exact⟨rfl,mg.out⟩
   ·have h1':(ch&& !q2)=false:=by simpa using h1
    rw[h1',Bool.false_or] at hv3;have HV:=zH hv3;clear h1 hv3;have HX:Hid (∀W',Below w.heap.size w W'→True):=fun _ _=>trivial
    go_upto_region 6 with fail
    go_cut [23] from 24 to 30 (fun v wc=>v=.bool false∧wc=w6)
    case first=>
     cases ch
     ·go_wp2
      go_meet
      case rel=>exact⟨rfl,rfl⟩
     ·obtain rfl:q2=true:=by simpa using h1'
      go_wp2
      go_meet
      case rel=>exact⟨rfl,rfl⟩
    case rest=>
     obtain⟨rfl,rfl⟩:=hcut;clear h1';go_wp2_with fail;refine (qF.out _).mono ?_;rintro e w7 ⟨rfl,hb7⟩;have fA:=zH (ah mg.out hb7);have hk7:=(wH.out.below hb7 wH.out.lt).cells;clear hb7;cases pl
     ·go_wp2_with fail;refine (jT.out _).mono ?_;rintro e w8 ⟨rfl,hb8⟩;have qE:=zH (ah fA.out hb8);clear hb8;cases cp
      ·obtain rfl:R=1:=HV.out;go_wp2;go_ret;exact⟨rfl,qE.out⟩
      ·obtain rfl:R=0:=HV.out;go_wp2;go_ret;exact⟨rfl,qE.out⟩
     ·obtain rfl:R=0:=HV.out;go_wp2;go_ret;exact⟨rfl,fA.out⟩
 ·obtain rfl:R=z:=jE.out hz;have hzb:(R !=0)=true:=by simp[hz]
  have hzc:(R==0)=false:=by simp[hz]
  clear jE kC LG hz;go_wp2;go_ret;exact⟨rfl,mg.out⟩
theorem I4 (x:Pv × Hd) (w:World):Calls Tryz.prog 87 #[.agg (bg x).toArray] w fun e w'=>e=.returned (.bool (je x.1))∧Below w.heap.size w w':=by
 have HP:Hid (je x.1=(decide (x.1.step=zR)&&decide (x.1.cap=zR))):=rfl;rw[HP.out];have jO:=fun W=>nO x.1.step zR W
 have HE2:=fun W=>nO x.1.cap zR W
 generalize decide (x.1.step=zR)=a at*;generalize decide (x.1.cap=zR)=b at*;clear HP;obtain⟨⟨nm,⟨tt,tm,td⟩,ch,⟨kW,kX,kY⟩,⟨kZ,lg,cn3⟩,bo⟩,⟨ha,hn,hcc⟩⟩:=x;unfold bg;simp only[Ra.v,zR] at jO HE2⊢;cases a
 all_goals
  go_enter Tryz.func87,Tryz.ntmps87
  go_upto_region 1 with fail
  generalize hX:w.alloc _=W;obtain⟨hk,hb⟩:=zA hX;have hc:=hk.cells;clear hX hk;go_wp2;go_ret;exact⟨by simp,hb⟩
def JI (p:Pv) (w:World) (e:Ending) (w':World):Prop:=∃k:Int,e=.returned (.int .i64 k)∧decide (k≠0)=qc p∧Below w.heap.size w w'
theorem UH (x:Pv × Hd) (w:World) (hs:iw x.1.step) (hc:iw x.1.cap):Calls Tryz.prog 88 #[.agg (bg x).toArray] w (JI x.1 w):=by
 have Ef:=zH (fun W=>vF x.1.step W (Nat.le_trans hs.1 (by decide)) (Nat.le_trans hs.2 (by decide)));have HF2:=zH (fun W=>vF x.1.cap W (Nat.le_trans hc.1 (by decide)) (Nat.le_trans hc.2 (by decide)));have ni:=zH (fun W=>yN x.1.step W (Nat.le_trans hs.1 (by decide)) (Nat.le_trans hs.2 (by decide)));obtain⟨cp,hcp⟩:=zE (qc x.1);have jT:Hid (cp=(!x.1.ty.truth&&(dJ x.1.step&&(dJ x.1.cap&&(decide (0<dV x.1.step)&&(decide ((iZ x.1.cap x.1.step).1.den=(aW 1).den)&&(decide (0<dV (iZ x.1.cap x.1.step).1)&&decide (lX (iZ x.1.cap x.1.step).1 (aW 200)≤0)))))))):=hcp
 have HQ:Hid (dJ x.1.step=true→dJ x.1.cap=true→0<dV x.1.step→∀W,Calls Tryz.prog 131 #[x.1.cap.v,x.1.step.v] W fun e w'=>e=.returned (.tuple #[(iZ x.1.cap x.1.step).1.v,.bool true])∧Below W.heap.size W w'):=fun h1 h2 h3 W=>
  Za x.1.cap x.1.step W (rQ h2).1 (rQ h1).1 (uK h3) 1048576 (by omega) hc.1 hc.2 hs.1 hs.2
 have iU:Hid (dJ x.1.step=true→dJ x.1.cap=true→0<dV x.1.step→okR (iZ x.1.cap x.1.step).1=true):=fun h1 h2 h3=>by
  unfold iZ;rw[if_neg (uK h3)];exact Jy _ _ _ (Nat.mul_pos (gY (rQ h2).1).2.1 (EJ (gY (rQ h1).1).2.2.1 (uK h3)))
 unfold JI;rw[←hcp];obtain⟨f1,h1⟩:=zF (dJ x.1.step);obtain⟨f2,h2⟩:=zF (dJ x.1.cap);obtain⟨s1,h3⟩:=zF (dV x.1.step);obtain⟨q,h4⟩:=zF (iZ x.1.cap x.1.step).1;rw[h1] at Ef jT HQ iU;rw[h2] at HF2 jT HQ iU;rw[h3] at ni jT HQ iU;rw[h4] at jT HQ iU;clear h1 h2 h3 h4 hcp hs hc;obtain⟨⟨nm,⟨tt,tm,td⟩,ch,⟨kW,kX,kY⟩,⟨kZ,lg,cn3⟩,bo⟩,⟨ha,hn,hcc⟩⟩:=x;unfold bg;unfold Ra.v at Ef HF2 ni HQ;simp only at Ef HF2 ni HQ jT⊢;go_enter Tryz.func88,Tryz.ntmps88
 go_upto_region 1 with fail
 generalize hX:w.alloc _=W;obtain⟨hk,hb⟩:=zA hX;have hcf:=fun (X:World) (h:Below W.heap.size W X)=>(hk.below h hk.lt).cells
 have hc1:=hcf W (Below.refl _ _);clear hX hk;cases tt
 ·go_wp2_with fail;refine (Ef.out _).mono ?_;rintro e w1 ⟨rfl,hb1⟩;replace hb:=ah hb hb1;clear hc1;have hc1:=hcf _ hb1;cases f1
  ·go_wp2;go_ret;exact⟨0,rfl,by rw[jT.out];rfl,hb⟩
  ·go_wp2_with fail;refine (HF2.out _).mono ?_;rintro e w2 ⟨rfl,hb2⟩;replace hb:=ah hb hb2;replace hb1:=ah hb1 hb2;clear hc1 hb2;have hc1:=hcf _ hb1;cases f2
   ·go_wp2;go_ret;exact⟨0,rfl,by rw[jT.out];rfl,hb⟩
   ·go_wp2_with fail;refine (ni.out _).mono ?_;rintro e w3 ⟨rfl,hb3⟩;replace hb:=ah hb hb3;replace hb1:=ah hb1 hb3;clear hc1 hb3;have hc1:=hcf _ hb1;by_cases hs:s1≤0
    ·have HE:Hid (cp=false):=by show _=_;rw[jT.out,decide_eq_false (show ¬0<s1 by omega)];rfl
     go_wp2;go_ret;exact⟨0,rfl,by rw[HE.out];rfl,hb⟩
    ·have hs2:0<s1:=by omega
     have HCQ:Hid (cp=true↔∃n:Nat,1≤n∧n≤200∧q=aW (n:Int)):=by
      show _↔_;rw[jT.out,←TB (iU.out trivial trivial hs2),decide_eq_true hs2];simp
     replace HQ:=zH (HQ.out trivial trivial hs2);clear jT iU Ef HF2 ni;obtain⟨q0,q1,q2⟩:=q;simp only at HQ;have hsn:¬s1≤0:=hs;clear hs2;go_wp2_with fail;refine (HQ.out _).mono ?_;rintro e w4 ⟨rfl,hb4⟩;clear hc1
     go_upto_region 4 with fail
     generalize hX:w4.alloc _=W5;obtain⟨hk5,hb5⟩:=zA hX;replace hb:=ah (ah hb hb4) hb5;generalize w4.heap.size=N at hk5⊢;have hc5:=fun (X:World) (h:Below W5.heap.size W5 X)=>show X.cell? ⟨N,0,none⟩=some (.bool q0)∧X.cell? ⟨N,1,none⟩=some (.string q1)∧X.cell? ⟨N,2,none⟩=some (.string q2) from⟨(hk5.below h hk5.lt).cells 0,(hk5.below h hk5.lt).cells 1,(hk5.below h hk5.lt).cells 2⟩
     clear hX hk5 hb4 hb5 hb1 hcf hs hsn;go_wp2
     go_loopg [5] 200 (fun g iv X=>∃n:Nat,n+1+g=201∧iv=.int .i64 ((n:Int)+1)∧Below W5.heap.size W5 X∧Hid (∀m,1≤m→m≤n→(⟨q0,q1,q2⟩:Ra)≠aW (m:Int)))
     case atStart=>exact⟨0,by omega,rfl,Below.refl _ _,fun m h1 h2=>by omega⟩
     case round=>
      obtain⟨n,hn9,rfl,hbr,HM⟩:=hrel;by_cases hlt:n<200
      ·have hlt2:((n:Int)+1)≤200:=by omega
       have Ry:=zH (fun W=>xC ((n:Int)+1) W (by omega) (by omega));obtain⟨z,hz⟩:=zF (decide ((⟨q0,q1,q2⟩:Ra)=aW ((n:Int)+1)));have HZ:=zH hz;have wJ:=fun W=>nO ⟨q0,q1,q2⟩ (aW ((n:Int)+1)) W
       rw[hz] at wJ;clear hz;obtain⟨o,ho⟩:=zF (aW ((n:Int)+1));rw[ho] at Ry wJ;have HO:=zH ho;clear ho;obtain⟨o0,o1,o2⟩:=o;unfold Ra.v at Ry wJ;simp only at Ry wJ
       go_upto_region 7 with fail
       refine gy (Below W5.heap.size W5) 99 hbr.drew (fun w6 h6 hS=>?_)
       iterate 2 refine bU ?_
       refine eY 2 (Ry.out _) ?_;rintro e w7 ⟨rfl,hb7⟩;refine⟨_,rfl,ah hS hb7,fun hS=>?_⟩;refine bU ?_;refine dY ?_;clear hbr h6 hb7;cases z
       ·go_wp2
        go_roundg (200-(n+1))
        case measure=>omega
        case rel=>exact⟨n+1,by omega,by go_num,hS,fun m h1 h2=>by
         rcases (by omega:m≤n∨m=n+1) with h3|rfl
         ·exact HM.out m h1 h3
         ·have:=of_decide_eq_false HZ.out;push_cast;exact this⟩
       ·have HE:Hid (cp=true):=HCQ.out.2 ⟨n+1,by omega,by omega,by have:=of_decide_eq_true HZ.out;push_cast;exact this⟩;go_wp2;go_ret;exact⟨(n:Int)+1,rfl,by rw[HE.out];exact decide_eq_true (by omega),ah hb hS⟩
      ·have HE:Hid (cp=false):=by
        show _=_;cases ahf:cp
        ·rfl
        ·obtain⟨m,m1,m2,m3⟩:=HCQ.out.1 ahf;exact absurd m3 (HM.out m m1 (by omega))
       have hlt2:¬((n:Int)+1)≤200:=by omega
       go_wp2;go_ret;exact⟨0,rfl,by rw[HE.out];rfl,ah hb hbr⟩
 ·go_wp2;go_ret;exact⟨0,rfl,by rw[jT.out];rfl,hb⟩
theorem Gx {α:Type} {p:α→Bool} {xs:List α} {j:Nat} (h:j<xs.length):(xs.drop j).all p=(p xs[j]&&(xs.drop (j+1)).all p):=by rw[List.drop_eq_getElem_cons h,List.all_cons]
theorem UJ (l:Lw) (ss:List (Sc × Hd)) (ps:List (Pv × Hd)) (f s p:Hd) (w:World) (h:fG w l ss ps f s p):
  Calls Tryz.prog 36 #[dQ f s p] w (Ae (mV l) w):=by
 have hz:mV l=(l.facts.all (fun d=>aN d.ty)&&(ps.all (fun x=>aN x.1.ty)&&ss.all fun x=>dZ x.1.aH x.1.days)):=by
  unfold mV;rw[←h.pl,←h.sl,List.all_map,List.all_map];rfl
 rw[hz];obtain⟨fs,hfs⟩:=zE l.facts;rw[←hfs];obtain⟨hf,hs,hp,_,_,_,_⟩:=h;rw[←hfs] at hf;clear hz hfs;obtain⟨fa,fn,fc⟩:=f;obtain⟨sa,sn,sc⟩:=s;obtain⟨pa,pn,pc⟩:=p;have m1:fn≤9223372036854775807:=by have h1:=hf.cap;have h2:=hf.max;unfold maxLen at h2;simp only at h1 h2;omega
 have m2:sn≤9223372036854775807:=by have h1:=hs.cap;have h2:=hs.max;unfold maxLen at h2;simp only at h1 h2;omega
 have m3:pn≤9223372036854775807:=by have h1:=hp.cap;have h2:=hp.max;unfold maxLen at h2;simp only at h1 h2;omega
 have yY:Hid (fn=fs.length):=hf.len;have wI:Hid (sn=ss.length):=hs.len;have yZ:Hid (pn=ps.length):=hp.len;unfold dQ;simp only
 go_enter Tryz.func36,Tryz.ntmps36
 go_upto_region 1 with fail
 generalize hX:w.alloc _=W;obtain⟨hk,hb0⟩:=zA hX;replace hf:=hf.below hb0;replace hs:=hs.below hb0;replace hp:=hp.below hb0;have hL:=fun (X:World) (h:Below W.heap.size W X)=>show X.cell? ⟨w.heap.size,0,none⟩=some (.slice fa fn fc)∧X.cell? ⟨w.heap.size,1,none⟩=some (.slice sa sn sc)∧X.cell? ⟨w.heap.size,2,none⟩=some (.slice pa pn pc) from⟨(hk.below h hk.lt).cells 0,(hk.below h hk.lt).cells 1,(hk.below h hk.lt).cells 2⟩
 clear hX hk;go_wp2
 go_loopg [3] fn (fun g iv X=>∃j:Nat,j+g=fn∧iv=.int .i64 j∧Below W.heap.size W X∧Hid ((fs.drop j).all (fun d=>aN d.ty)=fs.all fun d=>aN d.ty))
 case atStart=>exact⟨0,by omega,rfl,Below.refl _ _,rfl⟩
 case round=>
  obtain⟨j,hj,rfl,hb,HE⟩:=hrel;have hl:=hL _ hb;by_cases hlt:j<fn
  ·obtain⟨b,off,nm,t,m,d,rfl,_,hx,hx2,hc⟩:=ES hf hlt;have he:=HE.out;rw[Gx hx,hx2] at he;obtain⟨z,hz⟩:=zF (aN ⟨t,m,d⟩);rw[hz] at he;have HR:=zH (fun W=>sU ⟨t,m,d⟩ W);rw[hz] at HR;replace HE:=zH he;have hc1:=hc _ hb;clear he hz hx2 hc;go_wp2_with fail;refine (HR.out _).mono ?_;rintro e w1 ⟨rfl,hb1⟩;replace hb:=ah hb hb1;clear hc1 hb1 hl;cases z
   ·replace HE:Hid ((fs.all fun d=>aN d.ty)=false):=HE.out.symm;go_wp2;go_ret;exact⟨by rw[HE.out];rfl,ah hb0 hb⟩
   ·go_wp2
    go_roundg (fn-(j+1))
    case measure=>omega
    case rel=>exact⟨j+1,by omega,by go_num,hb,HE.out⟩
  ·have HA:Hid ((fs.all fun d=>aN d.ty)=true):=by show _=_;rw[←HE.out,List.drop_eq_nil_of_le (by have:=yY.out;omega)];rfl
   clear HE;go_wp2;clear hl
   go_loopg [4] pn (fun g iv X=>∃j:Nat,j+g=pn∧iv=.int .i64 j∧Below W.heap.size W X∧Hid ((ps.drop j).all (fun x=>aN x.1.ty)=ps.all fun x=>aN x.1.ty))
   case atStart=>exact⟨0,by omega,rfl,hb,rfl⟩
   case round=>
    clear hb;obtain⟨j,hj,rfl,hb,HE⟩:=hrel;have hl:=hL _ hb;by_cases hlt:j<pn
    ·obtain⟨b,off,x,rfl,_,hx,hx2,hc⟩:=Bz hp hlt;have he:=HE.out;rw[Gx hx,hx2] at he;obtain⟨⟨pnm,⟨t,m,d⟩,ch,st,cp,bo⟩,hd⟩:=x;simp only at hc he;obtain⟨z,hz⟩:=zF (aN ⟨t,m,d⟩);rw[hz] at he;have HR:=zH (fun W=>sU ⟨t,m,d⟩ W);rw[hz] at HR;replace HE:=zH he;have hc1:=hc _ hb;clear he hz hx2 hc;go_wp2_with fail;refine (HR.out _).mono ?_;rintro e w1 ⟨rfl,hb1⟩;replace hb:=ah hb hb1;clear hc1 hb1 hl;cases z
     ·replace HE:Hid ((ps.all fun x=>aN x.1.ty)=false):=HE.out.symm;go_wp2;go_ret;exact⟨by rw[HA.out,HE.out];rfl,ah hb0 hb⟩
     ·go_wp2
      go_roundg (pn-(j+1))
      case measure=>omega
      case rel=>exact⟨j+1,by omega,by go_num,hb,HE.out⟩
    ·have HB:Hid ((ps.all fun x=>aN x.1.ty)=true):=by show _=_;rw[←HE.out,List.drop_eq_nil_of_le (by have:=yZ.out;omega)];rfl
     clear HE;go_wp2;clear hl
     go_loopg [5] sn (fun g iv X=>∃j:Nat,j+g=sn∧iv=.int .i64 j∧Below W.heap.size W X∧Hid ((ss.drop j).all (fun x=>dZ x.1.aH x.1.days)=ss.all fun x=>dZ x.1.aH x.1.days))
     case atStart=>exact⟨0,by omega,rfl,hb,rfl⟩
     case round=>
      clear hb;obtain⟨j,hj,rfl,hb,HE⟩:=hrel;have hl:=hL _ hb;by_cases hlt:j<sn
      ·obtain⟨b,off,nm,m,d,bs,hd,rfl,_,hx,hx2,hc⟩:=Bv hs hlt;have he:=HE.out;rw[Gx hx,hx2] at he;simp only at he;obtain⟨z,hz⟩:=zF (dZ m d);rw[hz] at he;have HR:=zH (fun W=>KY m d W);rw[hz] at HR;replace HE:=zH he;have hc1:=hc _ hb;clear he hz hx2 hc;go_wp2_with fail;refine (HR.out _).mono ?_;rintro e w1 ⟨rfl,hb1⟩;replace hb:=ah hb hb1;clear hc1 hb1 hl;cases z
       ·replace HE:Hid ((ss.all fun x=>dZ x.1.aH x.1.days)=false):=HE.out.symm;go_wp2;go_ret;exact⟨by rw[HA.out,HB.out,HE.out];rfl,ah hb0 hb⟩
       ·go_wp2
        go_roundg (sn-(j+1))
        case measure=>omega
        case rel=>exact⟨j+1,by omega,by go_num,hb,HE.out⟩
      ·have HC:Hid ((ss.all fun x=>dZ x.1.aH x.1.days)=true):=by show _=_;rw[←HE.out,List.drop_eq_nil_of_le (by have:=wI.out;omega)];rfl
       go_wp2;go_ret;exact⟨by rw[HA.out,HB.out,HC.out];rfl,ah hb0 hb⟩
theorem Eh {l:List ByteArray} {j:Nat} (h:j<l.length):strs (l.take (j+1))=strs (l.take j)++[.string l[j]]:=by rw[List.take_succ_eq_append_getElem h,qC];rfl
structure NX (W X:World) (B:Nat) (v0 v1 v2:Value):Prop where
 k:aj X B 116 [v0,v1,v2]
 o:aJ B W X
 b:B<W.heap.size
theorem NX.grow {W X X':World} {B:Nat} {v0 v1 v2:Value} (h:NX W X B v0 v1 v2) (hb:Below X.heap.size X X'):NX W X' B v0 v1 v2:=⟨h.k.below hb h.k.lt,h.o.trans (aJ.of_below hb),h.b⟩
theorem NX.more {W X X':World} {B:Nat} {v0 v1 v2:Value} (h:NX W X B v0 v1 v2) (hb:Below W.heap.size X X'):NX W X' B v0 v1 v2:=⟨h.k.below hb h.b,h.o.more hb,h.b⟩
theorem UK (l:Lw) (ss:List (Sc × Hd)) (ps:List (Pv × Hd)) (f s p:Hd) (w:World) (h:fG w l ss ps f s p) (hF:lU l):
  Calls Tryz.prog 78 #[dQ f s p] w fun e w'=>∃h0 h1 h2:Hd,e=.returned (.agg #[.slice h0.a h0.n h0.c,.slice h1.a h1.n h1.c,.slice h2.a h2.n h2.c])∧aU w' iG (l.facts.map Dc.name) h0∧aU w' iG (l.bI.map Sc.name) h1∧aU w' iG (l.aP.map Pv.name) h2∧Below w.heap.size w w':=by
 have OW:=hF.fn;have JG:=hF.sn;have Gu:=hF.pn;rw[←h.sl,←h.pl,List.map_map,List.map_map];rw[←h.sl,List.length_map] at JG;rw[←h.pl,List.length_map] at Gu;obtain⟨hf,hs,hp,_,_,_,_⟩:=h;generalize l.facts=fs at*;clear hF;obtain⟨fa,fn,fc⟩:=f;obtain⟨sa,sn,sc⟩:=s;obtain⟨pa,pn,pc⟩:=p;have yY:Hid (fn=fs.length):=hf.len;have wI:Hid (sn=ss.length):=hs.len;have yZ:Hid (pn=ps.length):=hp.len;rw[←yY.out] at OW;rw[←wI.out] at JG;rw[←yZ.out] at Gu;unfold dQ;simp only
 go_enter Tryz.func78,Tryz.ntmps78
 go_upto_region 2 with fail
 generalize hX:World.alloc (World.alloc (World.alloc w _) _) _=W;obtain⟨W1,hW1⟩:=zE (w.alloc (.cells #[.slice fa fn fc,.slice sa sn sc,.slice pa pn pc] 26));rw[←hW1] at hX;obtain⟨hk1,hb1⟩:=zA hW1.symm;have hs1:W1.heap.size=w.heap.size+1:=by rw[hW1,World.size_alloc]
 obtain⟨W2,hW2⟩:=zE (W1.alloc (.cells #[.slice none 0 0,.slice none 0 0,.slice none 0 0] 116));rw[←hW2] at hX;obtain⟨hk2,hb2⟩:=zA hW2.symm;have hs2:W2.heap.size=w.heap.size+1+1:=by rw[hW2,World.size_alloc,hs1]
 obtain⟨hk3,hb3⟩:=zA hX;have hs3:W.heap.size=w.heap.size+1+1+1:=by rw[←hX,World.size_alloc,hs2]
 rw[hs1] at hk2;rw[hs2] at hk3;replace hk1:=(hk1.below hb2 hk1.lt).below hb3 (Nat.lt_of_lt_of_le hk1.lt hb2.size);replace hk2:=hk2.below hb3 hk2.lt;have hbW:=ah (ah hb1 hb2) hb3;clear hX hW1 hW2 hb1 hb2 hb3 hs1 hs2;have hN0:NX W W (w.heap.size+1+1) (.slice none 0 0) (.slice none 0 0) (.slice none 0 0):=⟨hk3,aJ.refl _ _,by omega⟩
 have hBW:∀X,aJ (w.heap.size+1+1) W X→Below w.heap.size w X:=fun X h=>hbW.trans (h.below (by omega) hbW.size)
 have hL:=fun (X:World) (h:aJ (w.heap.size+1+1) W X)=>show X.cell? ⟨w.heap.size,0,none⟩=some (.slice fa fn fc)∧X.cell? ⟨w.heap.size,1,none⟩=some (.slice sa sn sc)∧X.cell? ⟨w.heap.size,2,none⟩=some (.slice pa pn pc) from⟨(h.blk hk1 (by omega)).cells 0,(h.blk hk1 (by omega)).cells 1,(h.blk hk1 (by omega)).cells 2⟩
 have h2L:=fun (X:World) (h:aJ (w.heap.size+1+1) W X)=>h.blk hk2 (by omega)
 have hBs:w.heap.size+1<w.heap.size+1+1:=by omega
 clear hk1 hk2 hk3 hs3;generalize hB:w.heap.size+1+1=B at*;clear hB;have hl:=hL W (aJ.refl _ _);have hon:=fun (X:World) (h:aJ B W X)=>h
 go_wp2
 go_loopg [4] fn (fun g iv X=>∃(j:Nat) (v:Value),j+g=fn∧iv=.int .i64 j∧NX W X B v (.slice none 0 0) (.slice none 0 0)∧X.ownsRow W.heap.size 9 1 v j (strs ((fs.map Dc.name).take j)))
 case atStart=>exact⟨0,_,by omega,rfl,hN0,World.ownsRow_nil _ _ _ _⟩
 case round=>
  rename World=>Y
  clear hl;obtain⟨j,v,hj,rfl,hN,hown⟩:=hrel;have hl:=hL _ (hon _ hN.o);by_cases hlt:j<fn
  ·obtain⟨b,off,nm,t,m,d,rfl,_,hx,hx2,hc⟩:=ES hf hlt
   have ny:Hid (strs ((fs.map Dc.name).take (j+1))=strs ((fs.map Dc.name).take j)++[.string nm]):=by
    show _=_;rw[Eh (by rw[List.length_map];exact hx),List.getElem_map];simp only[Function.comp,hx2]
   generalize strs ((fs.map Dc.name).take j)=XS at hown ny;have hcc:=fun (X:World) (h:NX W X B v (.slice none 0 0) (.slice none 0 0))=>And.intro (hL X (hon X h.o)) (And.intro (hc X (hBW X (hon X h.o))) (And.intro h.k.cells h.k.aF))
   go_upto_region 5 with fail
   clear hl hc hx2;refine gy (fun X=>NX W X B v (.slice none 0 0) (.slice none 0 0)) 11 (hN.grow (ak _ _ 1)) (fun w1 h1 hS=>?_);replace hown:=own_below hown h1
   iterate 8 refine bU ?_
   refine lF 8 (fun _=>hS.grow (zB _ _)) (fun _=>?_);refine Ah 9 o9 Tryz.underlying97 hown (by omega) hS.o.size (fun v5 w5 ho _ _ hb5=>?_);obtain⟨g5,c5,rfl,_⟩:=qP ho (by omega);refine⟨hS.more hb5,fun hS=>?_⟩;refine bU ?_;refine qg 11 (fun h=>absurd rfl h) (fun _=>?_);refine dY ?_;clear hcc hN hown h1 hb5;go_wp2
   go_roundg (fn-(j+1))
   case measure=>omega
   case rel=>exact⟨j+1,_,by omega,by go_num,⟨hS.k.set 0 _,hS.o.set 0 _,hS.b⟩,by rw[ny.out];exact uH ho hS.b 0 _⟩
  ·obtain⟨h0,rfl,hr0⟩:=jC.mP (enc:=iG) (xs:=(fs.map Dc.name)) (by have h:=hown;rw[List.take_of_length_le (by rw[List.length_map];have:=yY.out;omega)] at h;exact h) (show j=((fs.map Dc.name)).length by rw[List.length_map];have:=yY.out;omega);have adQ:=hon _ hN.o;have LT0:=hN.b;have hN1:NX Y Y B (.slice h0.a h0.n h0.c) (.slice none 0 0) (.slice none 0 0):=⟨hN.k,aJ.refl _ _,hN.k.lt⟩
   clear hN hown
   rename World=>X1
   have hon:=fun (X:World) (h:aJ B X1 X)=>adQ.trans h
   go_wp2
   go_loopg [5] sn (fun g iv X=>∃(j:Nat) (v:Value),j+g=sn∧iv=.int .i64 j∧NX X1 X B (.slice h0.a h0.n h0.c) v (.slice none 0 0)∧X.ownsRow X1.heap.size 9 1 v j (strs ((ss.map (Sc.name ∘ Prod.fst)).take j)))
   case atStart=>exact⟨0,_,by omega,rfl,hN1,World.ownsRow_nil _ _ _ _⟩
   case round=>
    rename World=>Y
    clear hl;obtain⟨j,v,hj,rfl,hN,hown⟩:=hrel;have hl:=hL _ (hon _ hN.o);by_cases hlt:j<sn
    ·obtain⟨b,off,nm,m,d,bs,hd,rfl,_,hx,hx2,hc⟩:=Bv hs hlt
     have ny:Hid (strs ((ss.map (Sc.name ∘ Prod.fst)).take (j+1))=strs ((ss.map (Sc.name ∘ Prod.fst)).take j)++[.string nm]):=by
      show _=_;rw[Eh (by rw[List.length_map];exact hx),List.getElem_map];simp only[Function.comp,hx2]
     generalize strs ((ss.map (Sc.name ∘ Prod.fst)).take j)=XS at hown ny;have hcc:=fun (X:World) (h:NX X1 X B (.slice h0.a h0.n h0.c) v (.slice none 0 0))=>And.intro (hL X (hon X h.o)) (And.intro (hc X (hBW X (hon X h.o))) (And.intro h.k.cells h.k.aF))
     go_upto_region 9 with fail
     clear hl hc hx2;refine gy (fun X=>NX X1 X B (.slice h0.a h0.n h0.c) v (.slice none 0 0)) 11 (hN.grow (ak _ _ 1)) (fun w1 h1 hS=>?_);replace hown:=own_below hown h1
     iterate 8 refine bU ?_
     refine lF 8 (fun _=>hS.grow (zB _ _)) (fun _=>?_);refine Ah 9 o9 Tryz.underlying97 hown (by omega) hS.o.size (fun v5 w5 ho _ _ hb5=>?_);obtain⟨g5,c5,rfl,_⟩:=qP ho (by omega);refine⟨hS.more hb5,fun hS=>?_⟩;refine bU ?_;refine qg 11 (fun h=>absurd rfl h) (fun _=>?_);refine dY ?_;clear hcc hN hown h1 hb5;go_wp2
     go_roundg (sn-(j+1))
     case measure=>omega
     case rel=>exact⟨j+1,_,by omega,by go_num,⟨hS.k.set 1 _,hS.o.set 1 _,hS.b⟩,by rw[ny.out];exact uH ho hS.b 1 _⟩
    ·obtain⟨h1,rfl,hr1⟩:=jC.mP (enc:=iG) (xs:=(ss.map (Sc.name ∘ Prod.fst))) (by have h:=hown;rw[List.take_of_length_le (by rw[List.length_map];have:=wI.out;omega)] at h;exact h) (show j=((ss.map (Sc.name ∘ Prod.fst))).length by rw[List.length_map];have:=wI.out;omega);have adR:=hon _ hN.o;have LT1:=hN.b;have QN:NX Y Y B (.slice h0.a h0.n h0.c) (.slice h1.a h1.n h1.c) (.slice none 0 0):=⟨hN.k,aJ.refl _ _,hN.k.lt⟩
     replace hr0:=hr0.iP hN.o (Nat.lt_of_lt_of_le LT0 (Nat.le_refl _));clear hN hown
     rename World=>X2
     have hon:=fun (X:World) (h:aJ B X2 X)=>adR.trans h
     go_wp2
     go_loopg [6] pn (fun g iv X=>∃(j:Nat) (v:Value),j+g=pn∧iv=.int .i64 j∧NX X2 X B (.slice h0.a h0.n h0.c) (.slice h1.a h1.n h1.c) v∧X.ownsRow X2.heap.size 9 1 v j (strs ((ps.map (Pv.name ∘ Prod.fst)).take j)))
     case atStart=>exact⟨0,_,by omega,rfl,QN,World.ownsRow_nil _ _ _ _⟩
     case round=>
      rename World=>Y
      clear hl;obtain⟨j,v,hj,rfl,hN,hown⟩:=hrel;have hl:=hL _ (hon _ hN.o);by_cases hlt:j<pn
      ·obtain⟨b,off,x,rfl,_,hx,hx2,hc⟩:=Bz hp hlt
       have ny:Hid (strs ((ps.map (Pv.name ∘ Prod.fst)).take (j+1))=strs ((ps.map (Pv.name ∘ Prod.fst)).take j)++[.string x.1.name]):=by
        show _=_;rw[Eh (by rw[List.length_map];exact hx),List.getElem_map];simp only[Function.comp,hx2]
       generalize strs ((ps.map (Pv.name ∘ Prod.fst)).take j)=XS at hown ny;have hcc:=fun (X:World) (h:NX X2 X B (.slice h0.a h0.n h0.c) (.slice h1.a h1.n h1.c) v)=>And.intro (hL X (hon X h.o)) (And.intro (hc X (hBW X (hon X h.o))) (And.intro h.k.cells h.k.aF))
       go_upto_region 13 with fail
       clear hl hc hx2;refine gy (fun X=>NX X2 X B (.slice h0.a h0.n h0.c) (.slice h1.a h1.n h1.c) v) 11 (hN.grow (ak _ _ 1)) (fun w1 h1 hS=>?_);replace hown:=own_below hown h1
       iterate 8 refine bU ?_
       refine lF 8 (fun _=>hS.grow (zB _ _)) (fun _=>?_);refine Ah 9 o9 Tryz.underlying97 hown (by omega) hS.o.size (fun v5 w5 ho _ _ hb5=>?_);obtain⟨g5,c5,rfl,_⟩:=qP ho (by omega);refine⟨hS.more hb5,fun hS=>?_⟩;refine bU ?_;refine qg 11 (fun h=>absurd rfl h) (fun _=>?_);refine dY ?_;clear hcc hN hown h1 hb5;go_wp2
       go_roundg (pn-(j+1))
       case measure=>omega
       case rel=>exact⟨j+1,_,by omega,by go_num,⟨hS.k.set 2 _,hS.o.set 2 _,hS.b⟩,by rw[ny.out];exact uH ho hS.b 2 _⟩
      ·obtain⟨h2,rfl,hr2⟩:=jC.mP (enc:=iG) (xs:=(ps.map (Pv.name ∘ Prod.fst))) (by have h:=hown;rw[List.take_of_length_le (by rw[List.length_map];have:=yZ.out;omega)] at h;exact h) (show j=((ps.map (Pv.name ∘ Prod.fst))).length by rw[List.length_map];have:=yZ.out;omega);have UL:=hon _ hN.o;have LT2:=hN.b;have hN3:NX Y Y B (.slice h0.a h0.n h0.c) (.slice h1.a h1.n h1.c) (.slice h2.a h2.n h2.c):=⟨hN.k,aJ.refl _ _,hN.k.lt⟩
       replace hr0:=hr0.iP hN.o (Nat.lt_of_lt_of_le LT0 (Nat.le_refl _));replace hr1:=hr1.iP hN.o (Nat.lt_of_lt_of_le LT1 (Nat.le_refl _));clear hN hown
       rename World=>X3
       have hct:=hN3.k.cells;have hk9:=h2L _ UL;have hcr:=hk9.cells;have hfr:=hk9.aF;have h9:=(((hk9.set 0 (.slice h0.a h0.n h0.c)).set 1 (.slice h1.a h1.n h1.c)).set 2 (.slice h2.a h2.n h2.c)).cells;have XI:=(((aJ.refl (w.heap.size+1) X3).set 0 (.slice h0.a h0.n h0.c)).set 1 (.slice h1.a h1.n h1.c)).set 2 (.slice h2.a h2.n h2.c);have eP:=(hBW _ UL).trans (XI.below (B:=w.heap.size) (by omega) (hBW _ UL).size);have HR0:=zH (hr0.iP XI (by omega)).1;have HR1:=zH (hr1.iP XI (by omega)).1;have HR2:=zH (hr2.iP XI (by omega)).1;have lG:=zH eP;clear hr0 hr1 hr2 hk9 XI eP hN3 QN hN1 UL adR adQ hL h2L hBW hon;go_wp2;exact bodyPost_ret (v:=.agg #[.slice h0.a h0.n h0.c,.slice h1.a h1.n h1.c,.slice h2.a h2.n h2.c]) (by simp[results,Tryz.results78,go_sem,h9]) rfl ⟨h0,h1,h2,rfl,HR0.out,HR1.out,HR2.out,lG.out⟩
end Go.Proofs.YtgfeadgafdijaaaGreatDoor
