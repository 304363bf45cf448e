/- A part of the proof: U1 U2 U3 U5. -/
import Derived.Deep.Cut
import Derived.Deep.CutRange
import Derived.Test.YtfajelpcfnfjkaaGreatDoorA00
import Derived.Test.YtfajelpcfnfjkaaGreatDoorA18
import Derived.Test.YtfajelpcfnfjkaaGreatDoorA34
set_option linter.unusedVariables false
set_option linter.unusedSimpArgs false
namespace Go.Proofs.YtfajelpcfnfjkaaGreatDoor
open Go.RowKit
theorem brGo_zero (p q:Bk) (l:List Bk):brGo 0 p l=brGo 0 q l:=by cases l<;>rfl
theorem brGo_cons (k:Nat) (p b:Bk) (r:List Bk):brGo k p (b::r)=(brB k p b||brGo (k+1) b r):=rfl
theorem Rd.bk {w:World} {A:Option Addr} {l:List Bk} (h:Rd w A (bks l)) {j:Nat} (hj:j<l.length):
  ∃b off,A=some ⟨b,off,none⟩∧b<w.heap.size∧∀k (hk:k<l.length),w.cell? ⟨b,off+k*6,none⟩=some (.bool l[k].fr.neg)∧w.cell? ⟨b,off+k*6+1,none⟩=some (.string l[k].fr.num)∧w.cell? ⟨b,off+k*6+2,none⟩=some (.string l[k].fr.den)∧
   w.cell? ⟨b,off+k*6+3,none⟩=some (.bool l[k].rt.neg)∧w.cell? ⟨b,off+k*6+4,none⟩=some (.string l[k].rt.num)∧w.cell? ⟨b,off+k*6+5,none⟩=some (.string l[k].rt.den):=by
 obtain⟨b,off,hA,hb,_⟩:=Rd.row Bk.cells 6 (fun _=>rfl) (by omega) h hj;refine⟨b,off,hA,hb,fun k hk=>?_⟩;obtain⟨b',off',hA',hb',hc⟩:=Rd.row Bk.cells 6 (fun _=>rfl) (by omega) h hk;rw[hA] at hA';injection hA' with hA';injection hA' with h1 h2;subst h1 h2;exact⟨hc 0 _ rfl,hc 1 _ rfl,hc 2 _ rfl,hc 3 _ rfl,hc 4 _ rfl,hc 5 _ rfl⟩
theorem unfit_below (w:World):PredBelow Tryz.prog 60 #[] (fun x:{b:Bk // FineB b}=>.agg (Bk.cells x.1).toArray) (fun x=>unfitB x.1) w:=fun W x hW=>by
 refine (rCheck1_any x.1 x.2 W).mono ?_;rintro e w' ⟨rfl,h⟩;exact⟨rfl,bstep hW h⟩
instance instInhabitedFB:Inhabited {b:Bk // FineB b}:=⟨⟨⟨zR,zR⟩,⟨Nat.zero_le _,Nat.zero_le _⟩,Nat.zero_le _,Nat.zero_le _⟩⟩
theorem unfit_at (l:List Bk) (A:Option Addr) (n c:Nat) (w:World) (hn:n=l.length) (hm:n≤maxLen) (h0:0<n) (hr:Rd w A (bks l)) (hf:∀b∈l,FineB b):
  Calls Tryz.prog 59 #[.slice A n c,.func (.func 60) #[] #[]] w fun e w'=>e=.returned (.bool (l.any unfitB))∧Below w.heap.size w w':=by
 obtain⟨b,off,rfl,hb,hc⟩:=Rd.row Bk.cells 6 (fun _=>rfl) (by omega) hr (j:=0) (by omega);have eg:∀args w,(callFunc 60 args).run Tryz.prog w=.ok (.enter 60 args) w:=enters_of Tryz.func60 (by kernel_rfl) rfl
 have h:=AnyQ.slices_ContainsFunc Tryz.conB 6 Tryz.isAgg108 Tryz.sizeOf108 (fun x:{b:Bk // FineB b}=>Bk.cells x.1) (fun _=>rfl) (fun x=>unfitB x.1) 60 #[] eg b off n c (l.attach.map fun x=>⟨x.1,hf x.1 x.2⟩) w
  (unfit_below w) (by rw[List.length_map,List.length_attach];omega) (by unfold maxLen at hm;omega) hb (fun j hj i v hv=>by
    rw[List.length_map,List.length_attach] at hj;obtain⟨b',off',hA',hb',hc'⟩:=Rd.row Bk.cells 6 (fun _=>rfl) (by omega) hr hj;injection hA' with hA';injection hA' with h1 h2;subst h1 h2;refine hc' i v ?_;rw[getElem!_pos _ _ (by rw[List.length_map,List.length_attach];exact hj)] at hv;simpa using hv)
 have e1:((l.attach.map fun x=>(⟨x.1,hf x.1 x.2⟩:{b:Bk // FineB b})).take n).any (fun x=>unfitB x.1)=l.any unfitB:=by
  rw[List.take_of_length_le (by rw[List.length_map,List.length_attach];omega),List.any_map];rw[Bool.eq_iff_iff,List.any_eq_true,List.any_eq_true];constructor
  ·rintro⟨x,_,h⟩;exact⟨x.1,x.2,h⟩
  ·rintro⟨x,hx,h⟩;exact⟨⟨x,hx⟩,List.mem_attach _ _,h⟩
 rw[e1] at h;exact h
set_option maxRecDepth 100000 in
set_option maxHeartbeats 6400000 in
theorem rCheck_any (nm:ByteArray) (m d:Int) (l:List Bk) (A:Option Addr) (n c:Nat) (w:World) (hn:n=l.length) (hm:n≤maxLen) (hr:Rd w A (bks l)) (hf:∀b∈l,FineB b):
  Calls Tryz.prog 24 #[.agg #[.string nm,.int .i64 m,.int .i64 d,.slice A n c]] w fun e w'=>e=.returned (.int .i64 (rateE l))∧Below w.heap.size w w':=by
 obtain⟨z,hz⟩:∃z,z=rateE l:=⟨_,rfl⟩
 have HV8:Hid (8<n→z=2):=fun h=>by rw[hz];unfold rateE;rw[if_pos (by omega)]
 have HV0:Hid (n=0→z=11):=fun h=>by rw[hz];unfold rateE;rw[if_neg (by omega),if_pos (by omega)]
 have HVB:Hid (¬8<n→n≠0→brGo 0 (l.getD (0-1) ⟨zR,zR⟩) l=true→z=11):=fun h h' h2=>by rw[hz];unfold rateE;rw[if_neg (by omega),if_neg (by omega),brGo_zero,if_pos h2]
 have HVN:Hid (¬8<n→n≠0→brGo 0 (l.getD (0-1) ⟨zR,zR⟩) l=false→z=if l.any unfitB then 3 else 0):=fun h h' h2=>by rw[hz];unfold rateE;rw[if_neg (by omega),if_neg (by omega),brGo_zero,h2,if_neg (by simp)]
 have HUF:=Lib.hid (fun W (hb:Below w.heap.size w W) h0=>unfit_at l A n c W hn hm h0 (hr.below hb) hf);rw[←hz];have HN:=Lib.hid hn;have HR:=Lib.hid hr;have HF:=Lib.hid hf;have hm2:n≤9223372036854775807:=by unfold maxLen at hm;omega
 clear hz hn hm hr hf;obtain⟨W,hW⟩:∃W,W=w.alloc (.cells #[.string nm,.int .i64 m,.int .i64 d,.slice A n c] 76):=⟨_,rfl⟩
 obtain⟨B,hB⟩:∃B,B=w.heap.size:=⟨_,rfl⟩
 have hk0:Blk W B 76 [.string nm,.int .i64 m,.int .i64 d,.slice A n c]:=by rw[hW,hB];exact Blk.new w _ _
 have hba:Below w.heap.size w W:=by rw[hW];exact (Below.refl _ _).alloc (Nat.le_refl _) _
 have HBA:=Lib.hid hba;have hkc:=hk0.cells;clear hba hk0;by_cases h8:8<n
 ·obtain rfl:=HV8.out h8;go_enter Tryz.func24,Tryz.ntmps24
  go_upto_region 1 with fail
  simp only[←hW,←hB]
  clear hW hB;go_wp2;go_ret;exact⟨rfl,HBA.out⟩
 by_cases h0:n=0
 ·obtain rfl:=HV0.out h0;subst h0;go_enter Tryz.func24,Tryz.ntmps24
  go_upto_region 1 with fail
  simp only[←hW,←hB]
  clear hW hB;go_wp2;go_ret;exact⟨rfl,HBA.out⟩
 replace HVB:=Lib.hid (HVB.out h8 h0);replace HVN:=Lib.hid (HVN.out h8 h0);have h0b:((n:Int)==0)=false:=by simp[h0]
 have HP:Hid (0<n):=by show _<_;omega
 clear HV8 HV0;go_enter Tryz.func24,Tryz.ntmps24
 go_upto_region 1 with fail
 simp only[←hW,←hB]
 clear hW hB;go_wp2_with fail
 go_loopg [18] n (fun g iv wr=>∃j:Nat,j+g=n∧iv=.int .i64 j∧Hid (brGo 0 (l.getD (0-1) ⟨zR,zR⟩) l=brGo j (l.getD (j-1) ⟨zR,zR⟩) (l.drop j))∧Hid (∀k (hk:k<l.length),k<j→okR l[k].fr=true)∧Hid (Below W.heap.size W wr))
 case atStart=>exact⟨0,by omega,rfl,rfl,(fun k hk h=>absurd h (by omega)),Below.refl _ _⟩
 case round=>
  obtain⟨j,hj,rfl,hgo,hok,hbr⟩:=hrel;by_cases hlt:j<n
  ·have hjl:j<l.length:=by rw[←HN.out];exact hlt
   have hbw:=bstep HBA.out hbr.out;obtain⟨b,off,hA,hbb,hcs⟩:=(HR.out.below hbw).bk hjl;subst hA;obtain⟨c0,c1,c2,c3,c4,c5⟩:=hcs j hjl;obtain⟨⟨f1,f2⟩,f3,f4⟩:=HF.out l[j] (List.getElem_mem hjl);have hgo2:=hgo.out;rw[List.drop_eq_getElem_cons hjl,brGo_cons] at hgo2;have hnx:l.getD (j+1-1) ⟨zR,zR⟩=l[j]:=by rw[Nat.add_sub_cancel,List.getD_eq_getElem?_getD,List.getElem?_eq_getElem hjl];rfl
   rw[←hnx] at hgo2;have HGO:=Lib.hid hgo2;have HRF:=Lib.hid (fun W=>qRight_any l[j].fr W (by omega) (by omega));have HRT:=Lib.hid (fun W=>qRight_any l[j].rt W (by omega) (by omega));have HSG:=Lib.hid (fun W=>qSign_any l[j].fr W (by omega) (by omega));have HBR:Hid (brB j (l.getD (j-1) ⟨zR,zR⟩) (l.getD (j+1-1) ⟨zR,zR⟩)=(!okR l[j].fr|| !okR l[j].rt||(if j=0 then decide (signR l[j].fr≠0) else decide (0≤cmpR (l.getD (j-1) ⟨zR,zR⟩).fr l[j].fr)))):=by show _=_;rw[hnx];rfl
   have HCM:Hid (∀W (h:0<j),okR l[j].fr=true→Calls Tryz.prog 58 #[(l[j-1]'(by omega)).fr.v,l[j].fr.v] W fun e w'=>e=.returned (.int .i64 (cmpR (l.getD (j-1) ⟨zR,zR⟩).fr l[j].fr))∧Below W.heap.size W w'):=fun W h ho=>by
    have hj1:j-1<l.length:=by omega
    obtain⟨⟨g1,g2⟩,_⟩:=HF.out l[j-1] (List.getElem_mem hj1);have h1:=qCmp_ok l[j-1].fr l[j].fr W (hok.out _ hj1 (by omega)) ho 1048576 (by omega) g1 g2 f1 f2;have e1:l.getD (j-1) ⟨zR,zR⟩=l[j-1]:=by rw[List.getD_eq_getElem?_getD,List.getElem?_eq_getElem hj1];rfl
    rw[e1];exact h1
   have HPC:Hid (∀h:0<j,wr.cell? ⟨b,off+(j-1)*6,none⟩=some (.bool (l[j-1]'(by omega)).fr.neg)∧wr.cell? ⟨b,off+(j-1)*6+1,none⟩=some (.string (l[j-1]'(by omega)).fr.num)∧wr.cell? ⟨b,off+(j-1)*6+2,none⟩=some (.string (l[j-1]'(by omega)).fr.den)):=fun h=>by
    obtain⟨x0,x1,x2,_⟩:=hcs (j-1) (by omega);exact⟨x0,x1,x2⟩
   have HOKN:Hid (okR l[j].fr=true→∀k (hk:k<l.length),k<j+1→okR l[k].fr=true):=fun h k hk hkj=>by
    by_cases e:k<j
    ·exact hok.out k hk e
    ·obtain rfl:k=j:=by omega
     exact h
   obtain⟨cur,hcur⟩:∃c,c=l.getD (j+1-1) ⟨zR,zR⟩:=⟨_,rfl⟩
   rw[←hcur] at HGO HBR;have HCUR:=Lib.hid hcur;clear hcur hgo2 hnx;generalize l.getD (j-1) ⟨zR,zR⟩=prv at*;generalize l[j]=bb at*;obtain⟨⟨an,am,ad⟩,⟨bn,bm,bd⟩⟩:=bb;simp only at c0 c1 c2 c3 c4 c5 HRF HRT HSG HBR HCM HOKN;generalize okR ⟨an,am,ad⟩=okf at*;generalize okR ⟨bn,bm,bd⟩=okr at*;generalize signR ⟨an,am,ad⟩=sg at*;generalize cmpR prv.fr ⟨an,am,ad⟩=cm at*;unfold Ra.v at HRF HRT HSG HCM;simp only at HRF HRT HSG HCM;obtain⟨bx,hbx⟩:∃x,x=brB j prv cur:=⟨_,rfl⟩
   rw[←hbx] at HGO HBR;have HBC:=Lib.hid hbb;clear hbx hgo hcs f1 f2 f3 f4 hok hbw;obtain⟨W5,hW5⟩:∃W5,W5=wr.alloc (.cells #[.bool an,.string am,.string ad,.bool bn,.string bm,.string bd] 108):=⟨_,rfl⟩
   obtain⟨N,hN⟩:∃N,N=wr.heap.size:=⟨_,rfl⟩
   have hk5:Blk W5 N 108 [.bool an,.string am,.string ad,.bool bn,.string bm,.string bd]:=by rw[hW5,hN];exact Blk.new _ _ _
   have hb5:Below wr.heap.size wr W5:=by rw[hW5];exact (Below.refl _ _).alloc (Nat.le_refl _) _
   have HK5:=Lib.hid hk5;have HB5:=Lib.hid hb5;clear hk5 hb5
   go_upto_region 9 with fail
   simp only[←hW5,←hN]
   clear hW5 hN c0 c1 c2 c3 c4 c5;have hk5c:=HK5.out.cells;cases okf
   ·obtain rfl:bx=true:=by rw[HBR.out];rfl
    obtain rfl:z=11:=HVB.out (by rw[HGO.out];rfl);go_wp2_with fail;refine (HRF.out _).mono ?_;rintro e w6 ⟨rfl,hb6⟩;have HBE:=Lib.hid (bstep HBA.out (bstep hbr.out (bstep HB5.out hb6)));clear hb6;go_wp2;go_ret;exact⟨rfl,HBE.out⟩
   cases okr
   ·obtain rfl:bx=true:=by rw[HBR.out];rfl
    obtain rfl:z=11:=HVB.out (by rw[HGO.out];rfl);go_wp2_with fail;refine (HRF.out _).mono ?_;rintro e w6 ⟨rfl,hb6⟩;have hk6c:=(HK5.out.below hb6 HK5.out.lt).cells;go_wp2_with fail;refine (HRT.out _).mono ?_;rintro e w7 ⟨rfl,hb7⟩;have HBE:=Lib.hid (bstep HBA.out (bstep hbr.out (bstep HB5.out (bstep hb6 hb7))));clear hb6 hb7;go_wp2;go_ret;exact⟨rfl,HBE.out⟩
   go_wp2_with fail;refine (HRF.out _).mono ?_;rintro e w6 ⟨rfl,hb6⟩;have hk6c:=(HK5.out.below hb6 HK5.out.lt).cells;go_wp2_with fail;refine (HRT.out _).mono ?_;rintro e w7 ⟨rfl,hb7⟩;have HB7:=Lib.hid (bstep HB5.out (bstep hb6 hb7));have HK7:=Lib.hid (HK5.out.below (bstep hb6 hb7) HK5.out.lt);clear hb6 hb7 hk5c hk6c HRF HRT;have hn0:w7.cell? ⟨N,0,none⟩=some (.bool an):=HK7.out.cells 0;have hn1:w7.cell? ⟨N,1,none⟩=some (.string am):=HK7.out.cells 1;have hn2:w7.cell? ⟨N,2,none⟩=some (.string ad):=HK7.out.cells 2;have HC0:=Lib.hid hn0;have HC1:=Lib.hid hn1;have HC2:=Lib.hid hn2;clear hn0 hn1 hn2
   go_upto_region 11 with fail
   go_cut [56] from 33 to 56 (fun qv wc=>qv=.bool bx∧Hid (Below w7.heap.size w7 wc))
   case first=>
    by_cases hj0:j=0
    ·subst hj0
     have HSS:Hid (∀W,Below w7.heap.size w7 W→Below w7.heap.size w7 W∧W.cell? ⟨N,0,none⟩=some (.bool an)∧W.cell? ⟨N,1,none⟩=some (.string am)∧W.cell? ⟨N,2,none⟩=some (.string ad)):=fun W hb=>
      ⟨hb,(hb.cell HK7.out.lt).trans HC0.out,(hb.cell HK7.out.lt).trans HC1.out,(hb.cell HK7.out.lt).trans HC2.out⟩
     by_cases hs:sg=0
     ·subst hs;obtain rfl:bx=false:=by rw[HBR.out];rfl
      refine wp_region_noPanic ?_;refine wp_region_held_drew (S:=(fun w'=>Below w7.heap.size w7 w'∧w'.cell? ⟨N,0,none⟩=some (.bool an)∧w'.cell? ⟨N,1,none⟩=some (.string am)∧w'.cell? ⟨N,2,none⟩=some (.string ad))) (by kernel_rfl) (HSS.out _ (drewN_below w7.heap.size w7 1)) (fun hHeld=>?_);refine tkY 0 ?_ rfl ?_ ?_;rotate_left
      ·intro w hSw;(try dsimp only at hSw);go_simp
       all_goals with_reducible rfl
      try simp only[Act.put,tk1,tk2,tk3,tk4,tk5,tk6]
      refine tkY 1 ?_ rfl ?_ ?_;rotate_left
      ·intro w hSw;(try dsimp only at hSw);go_simp
       all_goals with_reducible rfl
      try simp only[Act.put,tk1,tk2,tk3,tk4,tk5,tk6]
      refine tkY 2 ?_ rfl ?_ ?_;rotate_left
      ·intro w hSw;(try dsimp only at hSw);go_simp
       all_goals with_reducible rfl
      try simp only[Act.put,tk1,tk2,tk3,tk4,tk5,tk6]
      refine tkY 3 ?_ rfl ?_ ?_;rotate_left
      ·intro w hSw;(try dsimp only at hSw);go_simp
       all_goals with_reducible rfl
      try simp only[Act.put,tk1,tk2,tk3,tk4,tk5,tk6]
      refine tkY 4 ?_ rfl ?_ ?_;rotate_left
      ·intro w hSw;(try dsimp only at hSw);go_simp
       all_goals with_reducible rfl
      try simp only[Act.put,tk1,tk2,tk3,tk4,tk5,tk6]
      refine wpAnyH_ready (rs:=[5]) (by kernel_rfl) (by simp) ?_;refine AllReadyH.cons rfl (fun K hK=>?_) AllReadyH.nil;go_simp;have hbS:=hHeld.1;refine (HSG.out _).mono ?_;rintro e w10 ⟨rfl,hb10⟩;have HBT:=Lib.hid (bstep hbS hb10);go_wp2_with fail;refine hK.out _ _ ?_ (fun hHeld=>?_)
      ·exact HSS.out _ HBT.out
      clear hK K
      try simp only[Act.put,tk1,tk2,tk3,tk4,tk5,tk6]
      refine tkY 6 ?_ rfl ?_ ?_;rotate_left
      ·intro w hSw;(try dsimp only at hSw);go_simp
       all_goals with_reducible rfl
      try simp only[Act.put,tk1,tk2,tk3,tk4,tk5,tk6]
      refine tkY 7 ?_ rfl ?_ ?_;rotate_left
      ·intro w hSw;(try dsimp only at hSw);go_simp
       all_goals with_reducible rfl
      try simp only[Act.put,tk1,tk2,tk3,tk4,tk5,tk6]
      refine tkY 8 ?_ rfl ?_ ?_;rotate_left
      ·intro w hSw;(try dsimp only at hSw);go_simp
       all_goals with_reducible rfl
      try simp only[Act.put,tk1,tk2,tk3,tk4,tk5,tk6]
      refine tkY 9 ?_ rfl ?_ ?_;rotate_left
      ·intro w hSw;(try dsimp only at hSw);go_simp
       all_goals with_reducible rfl
      try simp only[Act.put,tk1,tk2,tk3,tk4,tk5,tk6]
      refine tkY 10 ?_ rfl ?_ ?_;rotate_left
      ·intro w hSw;(try dsimp only at hSw);go_simp
       all_goals with_reducible rfl
      try simp only[Act.put,tk1,tk2,tk3,tk4,tk5,tk6]
      refine tkY 11 ?_ rfl ?_ ?_;rotate_left
      ·intro w hSw;(try dsimp only at hSw);go_simp
       all_goals with_reducible rfl
      try simp only[Act.put,tk1,tk2,tk3,tk4,tk5,tk6]
      refine tkN 12 rfl ?_
      try simp only[Act.put,tk1,tk2,tk3,tk4,tk5,tk6]
      refine tkN 13 rfl ?_
      try simp only[Act.put,tk1,tk2,tk3,tk4,tk5,tk6]
      refine tkN 14 rfl ?_
      try simp only[Act.put,tk1,tk2,tk3,tk4,tk5,tk6]
      refine tkN 15 rfl ?_
      try simp only[Act.put,tk1,tk2,tk3,tk4,tk5,tk6]
      refine tkN 16 rfl ?_
      try simp only[Act.put,tk1,tk2,tk3,tk4,tk5,tk6]
      refine tkN 17 rfl ?_
      try simp only[Act.put,tk1,tk2,tk3,tk4,tk5,tk6]
      refine tkN 18 rfl ?_
      try simp only[Act.put,tk1,tk2,tk3,tk4,tk5,tk6]
      refine tkN 19 rfl ?_
      try simp only[Act.put,tk1,tk2,tk3,tk4,tk5,tk6]
      refine tkN 20 rfl ?_
      try simp only[Act.put,tk1,tk2,tk3,tk4,tk5,tk6]
      refine tkN 21 rfl ?_
      try simp only[Act.put,tk1,tk2,tk3,tk4,tk5,tk6]
      refine tkY 22 ?_ rfl ?_ ?_;rotate_left
      ·intro w hSw;(try dsimp only at hSw);go_simp
       all_goals with_reducible rfl
      try simp only[Act.put,tk1,tk2,tk3,tk4,tk5,tk6]
      refine tkY 23 ?_ rfl ?_ ?_;rotate_left
      ·intro w hSw;(try dsimp only at hSw);go_simp
       all_goals with_reducible rfl
      try simp only[Act.put,tk1,tk2,tk3,tk4,tk5,tk6]
      refine wpAnyH_done (by kernel_rfl) ?_ _;refine NoPanic.normal ?_;go_wp2
      go_meet
      case rel=>exact⟨rfl,HBT.out⟩
     ·have hsb:(sg !=0)=true:=by simp[hs]
      obtain rfl:bx=true:=by rw[HBR.out,if_pos rfl,decide_eq_true hs];rfl
      refine wp_region_noPanic ?_;refine wp_region_held_drew (S:=(fun w'=>Below w7.heap.size w7 w'∧w'.cell? ⟨N,0,none⟩=some (.bool an)∧w'.cell? ⟨N,1,none⟩=some (.string am)∧w'.cell? ⟨N,2,none⟩=some (.string ad))) (by kernel_rfl) (HSS.out _ (drewN_below w7.heap.size w7 1)) (fun hHeld=>?_);refine tkY 0 ?_ rfl ?_ ?_;rotate_left
      ·intro w hSw;(try dsimp only at hSw);go_simp
       all_goals with_reducible rfl
      try simp only[Act.put,tk1,tk2,tk3,tk4,tk5,tk6]
      refine tkY 1 ?_ rfl ?_ ?_;rotate_left
      ·intro w hSw;(try dsimp only at hSw);go_simp
       all_goals with_reducible rfl
      try simp only[Act.put,tk1,tk2,tk3,tk4,tk5,tk6]
      refine tkY 2 ?_ rfl ?_ ?_;rotate_left
      ·intro w hSw;(try dsimp only at hSw);go_simp
       all_goals with_reducible rfl
      try simp only[Act.put,tk1,tk2,tk3,tk4,tk5,tk6]
      refine tkY 3 ?_ rfl ?_ ?_;rotate_left
      ·intro w hSw;(try dsimp only at hSw);go_simp
       all_goals with_reducible rfl
      try simp only[Act.put,tk1,tk2,tk3,tk4,tk5,tk6]
      refine tkY 4 ?_ rfl ?_ ?_;rotate_left
      ·intro w hSw;(try dsimp only at hSw);go_simp
       all_goals with_reducible rfl
      try simp only[Act.put,tk1,tk2,tk3,tk4,tk5,tk6]
      refine wpAnyH_ready (rs:=[5]) (by kernel_rfl) (by simp) ?_;refine AllReadyH.cons rfl (fun K hK=>?_) AllReadyH.nil;go_simp;have hbS:=hHeld.1;refine (HSG.out _).mono ?_;rintro e w10 ⟨rfl,hb10⟩;have HBT:=Lib.hid (bstep hbS hb10);go_wp2_with fail;refine hK.out _ _ ?_ (fun hHeld=>?_)
      ·exact HSS.out _ HBT.out
      clear hK K
      try simp only[Act.put,tk1,tk2,tk3,tk4,tk5,tk6]
      refine tkY 6 ?_ rfl ?_ ?_;rotate_left
      ·intro w hSw;(try dsimp only at hSw);go_simp
       all_goals with_reducible rfl
      try simp only[Act.put,tk1,tk2,tk3,tk4,tk5,tk6]
      refine tkY 7 ?_ rfl ?_ ?_;rotate_left
      ·intro w hSw;(try dsimp only at hSw);go_simp
       all_goals with_reducible rfl
      try simp only[Act.put,tk1,tk2,tk3,tk4,tk5,tk6]
      refine tkY 8 ?_ rfl ?_ ?_;rotate_left
      ·intro w hSw;(try dsimp only at hSw);go_simp
       all_goals with_reducible rfl
      try simp only[Act.put,tk1,tk2,tk3,tk4,tk5,tk6]
      refine tkN 9 rfl ?_
      try simp only[Act.put,tk1,tk2,tk3,tk4,tk5,tk6]
      refine tkN 10 rfl ?_
      try simp only[Act.put,tk1,tk2,tk3,tk4,tk5,tk6]
      refine tkN 11 rfl ?_
      try simp only[Act.put,tk1,tk2,tk3,tk4,tk5,tk6]
      refine tkN 12 rfl ?_
      try simp only[Act.put,tk1,tk2,tk3,tk4,tk5,tk6]
      refine tkN 13 rfl ?_
      try simp only[Act.put,tk1,tk2,tk3,tk4,tk5,tk6]
      refine tkN 14 rfl ?_
      try simp only[Act.put,tk1,tk2,tk3,tk4,tk5,tk6]
      refine tkN 15 rfl ?_
      try simp only[Act.put,tk1,tk2,tk3,tk4,tk5,tk6]
      refine tkN 16 rfl ?_
      try simp only[Act.put,tk1,tk2,tk3,tk4,tk5,tk6]
      refine tkN 17 rfl ?_
      try simp only[Act.put,tk1,tk2,tk3,tk4,tk5,tk6]
      refine tkN 18 rfl ?_
      try simp only[Act.put,tk1,tk2,tk3,tk4,tk5,tk6]
      refine tkN 19 rfl ?_
      try simp only[Act.put,tk1,tk2,tk3,tk4,tk5,tk6]
      refine tkN 20 rfl ?_
      try simp only[Act.put,tk1,tk2,tk3,tk4,tk5,tk6]
      refine tkN 21 rfl ?_
      try simp only[Act.put,tk1,tk2,tk3,tk4,tk5,tk6]
      refine tkN 22 rfl ?_
      try simp only[Act.put,tk1,tk2,tk3,tk4,tk5,tk6]
      refine tkY 23 ?_ rfl ?_ ?_;rotate_left
      ·intro w hSw;(try dsimp only at hSw);go_simp
       all_goals with_reducible rfl
      try simp only[Act.put,tk1,tk2,tk3,tk4,tk5,tk6]
      refine wpAnyH_done (by kernel_rfl) ?_ _;refine NoPanic.normal ?_;go_wp2
      go_meet
      case rel=>exact⟨rfl,HBT.out⟩
    ·have hj0b:((j:Int)==0)=false:=by simp[hj0]
     have hjp:(0:Int)<(j:Int):=by omega
     have hjn:0<j:=by omega
     obtain⟨x0,x1,x2⟩:=HPC.out hjn;have HCM2:=Lib.hid (fun W=>HCM.out W hjn trivial);clear HPC HCM;generalize l[j-1]'(by omega)=pb at x0 x1 x2 HCM2;obtain⟨⟨pn,pm,pd⟩,pr⟩:=pb;simp only[Ra.v] at x0 x1 x2 HCM2;have hw1:IntKind.i64.wrap ((j:Int)-1)=((j-1:Nat):Int):=by rw[IntWalk.i64_in _ (by omega)];omega
     have hin:j-1<n:=by omega
     have hbx:bx=decide (0≤cm):=by rw[HBR.out,if_neg hj0];rfl
     generalize j-1=i at*;have HCM:=HCM2;have HX0:=Lib.hid x0;have HX1:=Lib.hid x1;have HX2:=Lib.hid x2
     have HSS:Hid (∀W,Below w7.heap.size w7 W→Below w7.heap.size w7 W∧W.cell? ⟨N,0,none⟩=some (.bool an)∧W.cell? ⟨N,1,none⟩=some (.string am)∧W.cell? ⟨N,2,none⟩=some (.string ad)∧W.cell? ⟨b,off+i*6,none⟩=some (.bool pn)∧W.cell? ⟨b,off+i*6+1,none⟩=some (.string pm)∧W.cell? ⟨b,off+i*6+2,none⟩=some (.string pd)):=fun W hb=>
      have h7:=bstep HB7.out hb
      ⟨hb,(hb.cell HK7.out.lt).trans HC0.out,(hb.cell HK7.out.lt).trans HC1.out,(hb.cell HK7.out.lt).trans HC2.out,(h7.cell HBC.out).trans HX0.out,(h7.cell HBC.out).trans HX1.out,(h7.cell HBC.out).trans HX2.out⟩
     clear x0 x1 x2;by_cases hcm:0≤cm
     ·obtain rfl:bx=true:=by rw[hbx,decide_eq_true hcm]
      clear hbx;refine wp_region_noPanic ?_;refine wp_region_held_drew (S:=(fun w'=>Below w7.heap.size w7 w'∧w'.cell? ⟨N,0,none⟩=some (.bool an)∧w'.cell? ⟨N,1,none⟩=some (.string am)∧w'.cell? ⟨N,2,none⟩=some (.string ad)∧w'.cell? ⟨b,off+i*6,none⟩=some (.bool pn)∧w'.cell? ⟨b,off+i*6+1,none⟩=some (.string pm)∧w'.cell? ⟨b,off+i*6+2,none⟩=some (.string pd))) (by kernel_rfl) (HSS.out _ (drewN_below w7.heap.size w7 1)) (fun hHeld=>?_);refine tkY 0 ?_ rfl ?_ ?_;rotate_left
      ·intro w hSw;(try dsimp only at hSw);go_simp
       all_goals with_reducible rfl
      try simp only[Act.put,tk1,tk2,tk3,tk4,tk5,tk6]
      refine tkY 1 ?_ rfl ?_ ?_;rotate_left
      ·intro w hSw;(try dsimp only at hSw);go_simp
       all_goals with_reducible rfl
      try simp only[Act.put,tk1,tk2,tk3,tk4,tk5,tk6]
      refine tkY 2 ?_ rfl ?_ ?_;rotate_left
      ·intro w hSw;(try dsimp only at hSw);go_simp
       all_goals with_reducible rfl
      try simp only[Act.put,tk1,tk2,tk3,tk4,tk5,tk6]
      refine tkN 3 rfl ?_
      try simp only[Act.put,tk1,tk2,tk3,tk4,tk5,tk6]
      refine tkN 4 rfl ?_
      try simp only[Act.put,tk1,tk2,tk3,tk4,tk5,tk6]
      refine tkN 5 rfl ?_
      try simp only[Act.put,tk1,tk2,tk3,tk4,tk5,tk6]
      refine tkN 6 rfl ?_
      try simp only[Act.put,tk1,tk2,tk3,tk4,tk5,tk6]
      refine tkY 7 ?_ rfl ?_ ?_;rotate_left
      ·intro w hSw;(try dsimp only at hSw);go_simp
       all_goals with_reducible rfl
      try simp only[Act.put,tk1,tk2,tk3,tk4,tk5,tk6]
      refine tkY 8 ?_ rfl ?_ ?_;rotate_left
      ·intro w hSw;(try dsimp only at hSw);go_simp
       all_goals with_reducible rfl
      try simp only[Act.put,tk1,tk2,tk3,tk4,tk5,tk6]
      refine tkY 9 ?_ rfl ?_ ?_;rotate_left
      ·intro w hSw;(try dsimp only at hSw);go_simp
       all_goals with_reducible rfl
      try simp only[Act.put,tk1,tk2,tk3,tk4,tk5,tk6]
      refine tkY 10 ?_ rfl ?_ ?_;rotate_left
      ·intro w hSw;(try dsimp only at hSw);go_simp
       all_goals with_reducible rfl
      try simp only[Act.put,tk1,tk2,tk3,tk4,tk5,tk6]
      refine tkY 11 ?_ rfl ?_ ?_;rotate_left
      ·intro w hSw;(try dsimp only at hSw);go_simp
       all_goals with_reducible rfl
      try simp only[Act.put,tk1,tk2,tk3,tk4,tk5,tk6]
      refine tkY 12 ?_ rfl ?_ ?_;rotate_left
      ·intro w hSw;(try dsimp only at hSw);go_simp
       all_goals with_reducible rfl
      try simp only[Act.put,tk1,tk2,tk3,tk4,tk5,tk6]
      refine tkY 13 ?_ rfl ?_ ?_;rotate_left
      ·intro w hSw;(try dsimp only at hSw);go_simp
       all_goals with_reducible rfl
      try simp only[Act.put,tk1,tk2,tk3,tk4,tk5,tk6]
      refine tkY 14 ?_ rfl ?_ ?_;rotate_left
      ·intro w hSw;(try dsimp only at hSw);go_simp
       all_goals with_reducible rfl
      try simp only[Act.put,tk1,tk2,tk3,tk4,tk5,tk6]
      refine tkY 15 ?_ rfl ?_ ?_;rotate_left
      ·intro w hSw;(try dsimp only at hSw);go_simp
       all_goals with_reducible rfl
      try simp only[Act.put,tk1,tk2,tk3,tk4,tk5,tk6]
      refine tkY 16 ?_ rfl ?_ ?_;rotate_left
      ·intro w hSw;(try dsimp only at hSw);go_simp
       all_goals with_reducible rfl
      try simp only[Act.put,tk1,tk2,tk3,tk4,tk5,tk6]
      refine tkY 17 ?_ rfl ?_ ?_;rotate_left
      ·intro w hSw;(try dsimp only at hSw);go_simp
       all_goals with_reducible rfl
      try simp only[Act.put,tk1,tk2,tk3,tk4,tk5,tk6]
      refine tkY 18 ?_ rfl ?_ ?_;rotate_left
      ·intro w hSw;(try dsimp only at hSw);go_simp
       all_goals with_reducible rfl
      try simp only[Act.put,tk1,tk2,tk3,tk4,tk5,tk6]
      refine tkY 19 ?_ rfl ?_ ?_;rotate_left
      ·intro w hSw;(try dsimp only at hSw);go_simp
       all_goals with_reducible rfl
      try simp only[Act.put,tk1,tk2,tk3,tk4,tk5,tk6]
      refine wpAnyH_ready (rs:=[20]) (by kernel_rfl) (by simp) ?_;refine AllReadyH.cons rfl (fun K hK=>?_) AllReadyH.nil;go_simp;have hbS:=hHeld.1;refine (HCM.out _).mono ?_;rintro e w10 ⟨rfl,hb10⟩;have HBT:=Lib.hid (bstep hbS hb10);go_wp2_with fail;refine hK.out _ _ ?_ (fun hHeld=>?_)
      ·exact HSS.out _ HBT.out
      clear hK K
      try simp only[Act.put,tk1,tk2,tk3,tk4,tk5,tk6]
      refine tkY 21 ?_ rfl ?_ ?_;rotate_left
      ·intro w hSw;(try dsimp only at hSw);go_simp
       all_goals with_reducible rfl
      try simp only[Act.put,tk1,tk2,tk3,tk4,tk5,tk6]
      refine tkY 22 ?_ rfl ?_ ?_;rotate_left
      ·intro w hSw;(try dsimp only at hSw);go_simp
       all_goals with_reducible rfl
      try simp only[Act.put,tk1,tk2,tk3,tk4,tk5,tk6]
      refine tkY 23 ?_ rfl ?_ ?_;rotate_left
      ·intro w hSw;(try dsimp only at hSw);go_simp
       all_goals with_reducible rfl
      try simp only[Act.put,tk1,tk2,tk3,tk4,tk5,tk6]
      refine wpAnyH_done (by kernel_rfl) ?_ _;refine NoPanic.normal ?_;go_wp2
      go_meet
      case rel=>exact⟨rfl,HBT.out⟩
     ·obtain rfl:bx=false:=by rw[hbx,decide_eq_false hcm]
      have hcd:decide (0≤cm)=false:=decide_eq_false hcm;clear hbx hcm;refine wp_region_noPanic ?_;refine wp_region_held_drew (S:=(fun w'=>Below w7.heap.size w7 w'∧w'.cell? ⟨N,0,none⟩=some (.bool an)∧w'.cell? ⟨N,1,none⟩=some (.string am)∧w'.cell? ⟨N,2,none⟩=some (.string ad)∧w'.cell? ⟨b,off+i*6,none⟩=some (.bool pn)∧w'.cell? ⟨b,off+i*6+1,none⟩=some (.string pm)∧w'.cell? ⟨b,off+i*6+2,none⟩=some (.string pd))) (by kernel_rfl) (HSS.out _ (drewN_below w7.heap.size w7 1)) (fun hHeld=>?_);refine tkY 0 ?_ rfl ?_ ?_;rotate_left
      ·intro w hSw;(try dsimp only at hSw);go_simp
       all_goals with_reducible rfl
      try simp only[Act.put,tk1,tk2,tk3,tk4,tk5,tk6]
      refine tkY 1 ?_ rfl ?_ ?_;rotate_left
      ·intro w hSw;(try dsimp only at hSw);go_simp
       all_goals with_reducible rfl
      try simp only[Act.put,tk1,tk2,tk3,tk4,tk5,tk6]
      refine tkY 2 ?_ rfl ?_ ?_;rotate_left
      ·intro w hSw;(try dsimp only at hSw);go_simp
       all_goals with_reducible rfl
      try simp only[Act.put,tk1,tk2,tk3,tk4,tk5,tk6]
      refine tkN 3 rfl ?_
      try simp only[Act.put,tk1,tk2,tk3,tk4,tk5,tk6]
      refine tkN 4 rfl ?_
      try simp only[Act.put,tk1,tk2,tk3,tk4,tk5,tk6]
      refine tkN 5 rfl ?_
      try simp only[Act.put,tk1,tk2,tk3,tk4,tk5,tk6]
      refine tkN 6 rfl ?_
      try simp only[Act.put,tk1,tk2,tk3,tk4,tk5,tk6]
      refine tkY 7 ?_ rfl ?_ ?_;rotate_left
      ·intro w hSw;(try dsimp only at hSw);go_simp
       all_goals with_reducible rfl
      try simp only[Act.put,tk1,tk2,tk3,tk4,tk5,tk6]
      refine tkY 8 ?_ rfl ?_ ?_;rotate_left
      ·intro w hSw;(try dsimp only at hSw);go_simp
       all_goals with_reducible rfl
      try simp only[Act.put,tk1,tk2,tk3,tk4,tk5,tk6]
      refine tkY 9 ?_ rfl ?_ ?_;rotate_left
      ·intro w hSw;(try dsimp only at hSw);go_simp
       all_goals with_reducible rfl
      try simp only[Act.put,tk1,tk2,tk3,tk4,tk5,tk6]
      refine tkY 10 ?_ rfl ?_ ?_;rotate_left
      ·intro w hSw;(try dsimp only at hSw);go_simp
       all_goals with_reducible rfl
      try simp only[Act.put,tk1,tk2,tk3,tk4,tk5,tk6]
      refine tkY 11 ?_ rfl ?_ ?_;rotate_left
      ·intro w hSw;(try dsimp only at hSw);go_simp
       all_goals with_reducible rfl
      try simp only[Act.put,tk1,tk2,tk3,tk4,tk5,tk6]
      refine tkY 12 ?_ rfl ?_ ?_;rotate_left
      ·intro w hSw;(try dsimp only at hSw);go_simp
       all_goals with_reducible rfl
      try simp only[Act.put,tk1,tk2,tk3,tk4,tk5,tk6]
      refine tkY 13 ?_ rfl ?_ ?_;rotate_left
      ·intro w hSw;(try dsimp only at hSw);go_simp
       all_goals with_reducible rfl
      try simp only[Act.put,tk1,tk2,tk3,tk4,tk5,tk6]
      refine tkY 14 ?_ rfl ?_ ?_;rotate_left
      ·intro w hSw;(try dsimp only at hSw);go_simp
       all_goals with_reducible rfl
      try simp only[Act.put,tk1,tk2,tk3,tk4,tk5,tk6]
      refine tkY 15 ?_ rfl ?_ ?_;rotate_left
      ·intro w hSw;(try dsimp only at hSw);go_simp
       all_goals with_reducible rfl
      try simp only[Act.put,tk1,tk2,tk3,tk4,tk5,tk6]
      refine tkY 16 ?_ rfl ?_ ?_;rotate_left
      ·intro w hSw;(try dsimp only at hSw);go_simp
       all_goals with_reducible rfl
      try simp only[Act.put,tk1,tk2,tk3,tk4,tk5,tk6]
      refine tkY 17 ?_ rfl ?_ ?_;rotate_left
      ·intro w hSw;(try dsimp only at hSw);go_simp
       all_goals with_reducible rfl
      try simp only[Act.put,tk1,tk2,tk3,tk4,tk5,tk6]
      refine tkY 18 ?_ rfl ?_ ?_;rotate_left
      ·intro w hSw;(try dsimp only at hSw);go_simp
       all_goals with_reducible rfl
      try simp only[Act.put,tk1,tk2,tk3,tk4,tk5,tk6]
      refine tkY 19 ?_ rfl ?_ ?_;rotate_left
      ·intro w hSw;(try dsimp only at hSw);go_simp
       all_goals with_reducible rfl
      try simp only[Act.put,tk1,tk2,tk3,tk4,tk5,tk6]
      refine wpAnyH_ready (rs:=[20]) (by kernel_rfl) (by simp) ?_;refine AllReadyH.cons rfl (fun K hK=>?_) AllReadyH.nil;go_simp;have hbS:=hHeld.1;refine (HCM.out _).mono ?_;rintro e w10 ⟨rfl,hb10⟩;have HBT:=Lib.hid (bstep hbS hb10);go_wp2_with fail;refine hK.out _ _ ?_ (fun hHeld=>?_)
      ·exact HSS.out _ HBT.out
      clear hK K
      try simp only[Act.put,tk1,tk2,tk3,tk4,tk5,tk6]
      refine tkY 21 ?_ rfl ?_ ?_;rotate_left
      ·intro w hSw;(try dsimp only at hSw);go_simp
       all_goals with_reducible rfl
      try simp only[Act.put,tk1,tk2,tk3,tk4,tk5,tk6]
      refine tkY 22 ?_ rfl ?_ ?_;rotate_left
      ·intro w hSw;(try dsimp only at hSw);go_simp
       all_goals with_reducible rfl
      try simp only[Act.put,tk1,tk2,tk3,tk4,tk5,tk6]
      refine tkY 23 ?_ rfl ?_ ?_;rotate_left
      ·intro w hSw;(try dsimp only at hSw);go_simp
       all_goals with_reducible rfl
      try simp only[Act.put,tk1,tk2,tk3,tk4,tk5,tk6]
      refine wpAnyH_done (by kernel_rfl) ?_ _;refine NoPanic.normal ?_;go_wp2
      go_meet
      case rel=>exact⟨rfl,HBT.out⟩
   case rest=>
    obtain⟨rfl,hbc⟩:=hcut;have HBX:=Lib.hid (bstep hbr.out (bstep HB7.out hbc.out));clear hbc;cases bx
    ·have HGN:Hid (brGo 0 (l.getD (0-1) ⟨zR,zR⟩) l=brGo (j+1) (l.getD (j+1-1) ⟨zR,zR⟩) (l.drop (j+1))):=by show _=_;rw[HGO.out,HCUR.out];rfl
     have HON:=Lib.hid (HOKN.out trivial);go_wp2
     go_roundg (n-(j+1))
     case measure=>omega
     case rel=>exact⟨j+1,by omega,by go_num,HGN,HON,HBX⟩
    ·obtain rfl:z=11:=HVB.out (by rw[HGO.out];rfl);have HBE:=Lib.hid (bstep HBA.out HBX.out);go_wp2;go_ret;exact⟨rfl,HBE.out⟩
  ·obtain rfl:j=n:=by omega
   have hgf:=hgo.out;rw[HN.out,List.drop_length] at hgf;have hz:=HVN.out hgf;have HBE:=Lib.hid (bstep HBA.out hbr.out);have HU:=Lib.hid (HUF.out _ HBE.out HP.out);generalize l.any unfitB=an at*;clear hgo hok hbr hgf HUF HVN HVB;cases an
   ·obtain rfl:z=0:=hz;go_wp2_with fail;refine HU.out.mono ?_;rintro e w6 ⟨rfl,hb6⟩;have HBF:=Lib.hid (bstep HBE.out hb6);clear hb6;go_wp2;go_ret;exact⟨rfl,HBF.out⟩
   ·obtain rfl:z=3:=hz;go_wp2_with fail;refine HU.out.mono ?_;rintro e w6 ⟨rfl,hb6⟩;have HBF:=Lib.hid (bstep HBE.out hb6);clear hb6;go_wp2;go_ret;exact⟨rfl,HBF.out⟩
structure Hd where
 a:Option Addr
 n:Nat
 c:Nat
structure RowAt {α:Type} (w:World) (enc:α→List Value) (xs:List α) (h:Hd):Prop where
 len:h.n=xs.length
 cap:h.n≤h.c
 max:h.c≤maxLen
 rd:Rd w h.a (xs.flatMap enc)
theorem RowAt.below {α:Type} {w w':World} {enc:α→List Value} {xs:List α} {h:Hd} (k:RowAt w enc xs h) (hb:Below w.heap.size w w'):RowAt w' enc xs h:=⟨k.len,k.cap,k.max,k.rd.below hb⟩
theorem RowAt.nil {α:Type} (w:World) (enc:α→List Value):RowAt w enc ([]:List α) ⟨none,0,0⟩:=⟨rfl,Nat.le_refl _,Nat.zero_le _,.inl rfl⟩
theorem RowAt.of_own {α:Type} {w:World} {enc:α→List Value} {xs:List α} {base m n:Nat} {e:TypeId} {v:Value} (h:w.ownsRow base e m v n (xs.flatMap enc)) (hn:n=xs.length):∃h:Hd,v=.slice h.a h.n h.c∧h.n=n∧RowAt w enc xs h:=by
 obtain⟨A,c,rfl,h1,h2,h3,_⟩:=own_rd h;exact⟨⟨A,n,c⟩,rfl,rfl,hn,h1,h2,h3⟩
structure Dc where
 name:ByteArray
 ty:Ty
deriving DecidableEq
structure Sc where
 name:ByteArray
 money:Int
 days:Int
 brs:List Bk
deriving DecidableEq
structure Pv where
 name:ByteArray
 ty:Ty
 charge:Bool
 step:Ra
 cap:Ra
 body:List Nd
deriving DecidableEq
structure Lw where
 facts:List Dc
 schs:List Sc
 provs:List Pv
deriving DecidableEq
def Dc.cells (d:Dc):List Value:=[.string d.name,.bool d.ty.truth,.int .i64 d.ty.money,.int .i64 d.ty.days]
def scCells (s:Sc × Hd):List Value:=[.string s.1.name,.int .i64 s.1.money,.int .i64 s.1.days,.slice s.2.a s.2.n s.2.c]
def pvCells (p:Pv × Hd):List Value:=[.string p.1.name,.bool p.1.ty.truth,.int .i64 p.1.ty.money,.int .i64 p.1.ty.days,.slice p.2.a p.2.n p.2.c,.bool p.1.charge,
 .bool p.1.step.neg,.string p.1.step.num,.string p.1.step.den,.bool p.1.cap.neg,.string p.1.cap.num,.string p.1.cap.den]
structure LawAt (w:World) (l:Lw) (ss:List (Sc × Hd)) (ps:List (Pv × Hd)) (f s p:Hd):Prop where
 f:RowAt w Dc.cells l.facts f
 s:RowAt w scCells ss s
 p:RowAt w pvCells ps p
 sl:ss.map Prod.fst=l.schs
 pl:ps.map Prod.fst=l.provs
 sb:∀x∈ss,RowAt w Bk.cells x.1.brs x.2
 pb:∀x∈ps,RowAt w Nd.cells x.1.body x.2
theorem LawAt.below {w w':World} {l:Lw} {ss:List (Sc × Hd)} {ps:List (Pv × Hd)} {f s p:Hd} (k:LawAt w l ss ps f s p) (hb:Below w.heap.size w w'):LawAt w' l ss ps f s p:=
 ⟨k.f.below hb,k.s.below hb,k.p.below hb,k.sl,k.pl,fun x hx=>(k.sb x hx).below hb,fun x hx=>(k.pb x hx).below hb⟩
def lawV (f s p:Hd):Value:=.agg #[.slice f.a f.n f.c,.slice s.a s.n s.c,.slice p.a p.n p.c]
structure FineL (l:Lw):Prop where
 fn:l.facts.length≤1000
 sn:l.schs.length≤1000
 pn:l.provs.length≤1000
 sb:∀s∈l.schs,∀b∈s.brs,FineB b
 pb:∀p∈l.provs,FineR p.step∧FineR p.cap∧∀n∈p.body,Fine n
def fSig (d:Dc):Sg:=⟨5,d.name,d.ty⟩
def pSig (op:Int) (p:Pv):Sg:=⟨op,p.name,p.ty⟩
def sSig (s:Sc):Sg:=⟨24,s.name,⟨false,s.money,s.days⟩⟩
def sigsL (l:Lw):List Sg:=l.facts.map fSig++(l.provs.map (pSig 6)++(l.provs.map (pSig 7)++(l.provs.map (pSig 8)++l.schs.map sSig)))
def plainP (p:Pv):Bool:=decide (p.step=zR)&&decide (p.cap=zR)
def cappedP (p:Pv):Bool:= !p.ty.truth&&(fitsR p.step&&(fitsR p.cap&&(decide (0<signR p.step)&&(decide ((quoR p.cap p.step).1.den=(ofI 1).den)&&(decide (0<signR (quoR p.cap p.step).1)&&decide (cmpR (quoR p.cap p.step).1 (ofI 200)≤0))))))
def provE (sg:List Sg) (p:Pv):Int:=if (typeE sg p.body).2≠0 then (typeE sg p.body).2 else if (typeE sg p.body).1≠p.ty then 13 else if (p.charge&&decide (p.ty≠tCash))||(!plainP p&& !cappedP p) then 1 else 0
def typedL (l:Lw):Bool:=l.facts.all (fun d=>rightB d.ty)&&(l.provs.all (fun p=>rightB p.ty)&&l.schs.all (fun s=>unitB s.money s.days))
theorem sgs_append (a b:List Sg):sgs (a++b)=sgs a++sgs b:=List.flatMap_append
theorem info_sig:(Tryz.prog.info? 72).map (fun i=>(i.zero,i.size,i.bytes))=some (some (.agg #[.int .i64 0,.string ⟨#[]⟩,.bool false,.int .i64 0,.int .i64 0]),5,48):=by kernel_rfl
theorem take_map {α β:Type} (f:α→β) {l:List α} {k:Nat} (hk:k<l.length):(l.take (k+1)).map f=(l.take k).map f++[f l[k]]:=by
 rw[List.take_succ_eq_append_getElem hk,List.map_append];rfl
def opsL (l:Lw) (r:Nat):List Sg:=(List.range r).flatMap fun q:Nat=>l.provs.map (pSig (6+(q:Int)))
theorem opsL_succ (l:Lw) (r:Nat):opsL l (r+1)=opsL l r++l.provs.map (pSig (6+(r:Int))):=by
 unfold opsL;rw[List.range_succ,List.flatMap_append];simp
theorem opsL_len (l:Lw) (r:Nat):(opsL l r).length=r*l.provs.length:=by
 induction r with
 |zero=>unfold opsL;simp
 |succ r ih=>rw[opsL_succ,List.length_append,ih,List.length_map,Nat.succ_mul]
theorem sigsL_eq (l:Lw):sigsL l=l.facts.map fSig++opsL l 3++l.schs.map sSig:=by
 unfold sigsL opsL;simp[List.range_succ,List.flatMap_cons]
set_option maxRecDepth 100000 in
set_option maxHeartbeats 6400000 in
theorem uSigs_any (l:Lw) (ss:List (Sc × Hd)) (ps:List (Pv × Hd)) (f s p:Hd) (w:World) (h:LawAt w l ss ps f s p) (hf:FineL l):
  Calls Tryz.prog 9 #[lawV f s p] w fun e w'=>∃h:Hd,e=.returned (.slice h.a h.n h.c)∧RowAt w' Sg.cells (sigsL l) h∧Below w.heap.size w w':=by
 have hfn1:=hf.fn;have hsn1:=hf.sn;have hpn1:=hf.pn;obtain⟨fa,fn,fc⟩:=f;obtain⟨sa,sn,sc⟩:=s;obtain⟨pa,pn,pc⟩:=p;unfold lawV;simp only
 obtain⟨W,hW⟩:∃W,W=w.alloc (.cells #[.slice fa fn fc,.slice sa sn sc,.slice pa pn pc] 29):=⟨_,rfl⟩
 obtain⟨B,hB⟩:∃B,B=w.heap.size:=⟨_,rfl⟩
 have HKL:Hid (Blk W B 29 [.slice fa fn fc,.slice sa sn sc,.slice pa pn pc]):=by show Blk _ _ _ _;rw[hW,hB];exact Blk.new w _ _
 have HBA:Hid (Below w.heap.size w W):=by show Below _ _ _;rw[hW];exact (Below.refl _ _).alloc (Nat.le_refl _) _
 have HLA:=Lib.hid (h.below HBA.out);have HFN:Hid (fn=l.facts.length):=h.f.len;have HSN:Hid (sn=l.schs.length):=by show _=_;rw[←h.sl,List.length_map];exact h.s.len
 have HPN:Hid (pn=l.provs.length):=by show _=_;rw[←h.pl,List.length_map];exact h.p.len
 rw[←HFN.out] at hfn1;rw[←HSN.out] at hsn1;rw[←HPN.out] at hpn1;have HFX:Hid (∀k (hk:k<l.schs.length) (hk':k<ss.length),l.schs[k]=ss[k].1):=fun k hk hk'=>by have e:=h.sl;simp[←e]
 have HPX:Hid (∀k (hk:k<l.provs.length) (hk':k<ps.length),l.provs[k]=ps[k].1):=fun k hk hk'=>by have e:=h.pl;simp[←e]
 clear h hf;have HST:Hid (W.ownsRow W.heap.size 72 5 (.slice none 0 0) (0+0) (sgs [])):=World.ownsRow_nil _ _ _ _;have HBW:Hid (Below W.heap.size W W):=Below.refl _ _;have HBA2:=HBA;have hkc:=HKL.out.cells;go_enter Tryz.func9,Tryz.ntmps9
 go_upto_region 1 with fail
 simp only[←hW,←hB]
 clear hW hB;go_wp2_with fail
 go_loopg [2,14] fn (fun g ov iv wr=>∃j:Nat,j+g=fn∧iv=.int .i64 j∧Hid (wr.ownsRow W.heap.size 72 5 ov (0+j) (sgs (([]:List Sg)++(l.facts.take j).map fSig)))∧Hid (Below W.heap.size W wr))
 case atStart=>exact⟨0,by omega,rfl,(by show World.ownsRow _ _ _ _ _ _ _;rw[List.take_zero,List.map_nil,List.append_nil];exact HST.out),HBW⟩
 case round=>
  obtain⟨j,hj,rfl,hown,hbr⟩:=hrel;clear HST HBW;by_cases hlt:j<fn
  ·have hjx:j<l.facts.length:=by rw[←HFN.out];exact hlt
   have hjm:j<l.facts.length:=by rw[←HLA.out.f.len];exact hlt
   have htm:=take_map fSig hjx;rw[show l.facts[j]=l.facts[j] from rfl] at htm;obtain⟨b,off,hA,hb,hc⟩:=Rd.row Dc.cells 4 (fun _=>rfl) (by omega) (HLA.out.f.below hbr.out).rd hjm;simp only at hA;subst hA;generalize l.facts[j]=x at*;obtain⟨nm,⟨tt,tm,td⟩⟩:=x;have HTM:=Lib.hid htm;have c0:=hc 0 _ rfl;have c1:=hc 1 _ rfl;have c2:=hc 2 _ rfl;have c3:=hc 3 _ rfl;simp only[Nat.add_zero] at c0;obtain⟨K,hK⟩:∃K,K=0+j:=⟨_,rfl⟩
   obtain⟨XS,hXS⟩:∃X,X=sgs (([]:List Sg)++(l.facts.take j).map fSig):=⟨_,rfl⟩
   rw[←hK,←hXS] at hown;have HXS:=Lib.hid hXS;have HK:=Lib.hid hK;have hKb:K≤5000:=by omega
   have HOA:Hid ((wr.alloc (.cells #[.string nm,.bool tt,.int .i64 tm,.int .i64 td] 42)).ownsRow W.heap.size 72 5 u2 K XS):=hown.out.alloc _;have HBA:Hid (Below W.heap.size W (wr.alloc (.cells #[.string nm,.bool tt,.int .i64 tm,.int .i64 td] 42))):=hbr.out.alloc hbr.out.size _;clear hown hbr hc htm hK hXS;go_wp2_with (at_builtin;go_must (refine wpList_push (wr.alloc (.cells #[.string nm,.bool tt,.int .i64 tm,.int .i64 td] 42)) #[.int .i64 5,.string nm,.bool tt,.int .i64 tm,.int .i64 td] rfl _ _ 35 rfl W.heap.size 72 _ 5 48 1 Tryz.underlying35 info_sig rfl (by decide) u2 K XS rfl HOA.out (by rw[World.size_alloc];rfl) rfl ?_ ?_ ?_ ?_ ?_))
   any_goals first|(unfold maxLen;omega)|omega
   ·exact⟨rfl,rfl,rfl,rfl,rfl⟩
   ·have hz:=HBA.out.size;rw[World.size_alloc] at hz;exact hz
   intro v' w' hown' hb';have HOWN:Hid (w'.ownsRow W.heap.size 72 5 v' (0+(j+1)) (sgs (([]:List Sg)++(l.facts.take (j+1)).map fSig))):=by show World.ownsRow _ _ _ _ _ _ _;rw[HTM.out,←List.append_assoc,sgs_append,←HXS.out,←Nat.add_assoc,←HK.out];exact hown'
   have HB:=Lib.hid (HBA.out.trans hb');clear hown' hb' c0;go_wp2
   go_roundg (fn-(j+1))
   case measure=>omega
   case rel=>exact⟨j+1,by omega,by go_num,HOWN,HB⟩
  ·have hjn:j=fn:=by omega
   have HST:Hid (wr.ownsRow W.heap.size 72 5 u2 (0+fn) (sgs (([]:List Sg)++l.facts.map fSig))):=by
    have h:=hown.out;rw[hjn] at h;rw[List.take_of_length_le (Nat.le_of_eq HFN.out.symm)] at h;exact h
   have HBW:=hbr;have hkc:=(HKL.out.below hbr.out HKL.out.lt).cells;clear hown hbr hjn;go_wp2_with fail
   go_loopg [2,28] 3 (fun g ov iv wr=>∃r:Nat,r+g=3∧iv=.int .i64 r∧Hid (wr.ownsRow W.heap.size 72 5 ov (fn+r*pn) (sgs (l.facts.map fSig++opsL l r)))∧Hid (Below W.heap.size W wr))
   case atStart=>exact⟨0,by omega,rfl,(by show World.ownsRow _ _ _ _ _ _ _;rw[Nat.zero_mul,Nat.add_zero,show opsL l 0=[] from rfl,List.append_nil,←Nat.zero_add fn];exact HST.out),HBW⟩
   case round=>
    obtain⟨r,hr,rfl,hown,hbr⟩:=hrel;clear HST HBW;by_cases hlt:r<3
    ·have HST:=hown;have HBW:=hbr;have hkc:=(HKL.out.below hbr.out HKL.out.lt).cells;have hr3:r=0∨r=1∨r=2:=by omega
     clear hown hbr
     go_upto_region 8 with fail
     go_cut [6] from 30 to 30 (fun v wc=>v=.int .i64 (6+(r:Int))∧wc=wr)
     case first=>
      have hix:∀W,(Instr.index 73 (.agg #[.int .i64 6,.int .i64 7,.int .i64 8]) (.int .i64 (r:Int))).run Tryz.prog W=.ok (.int .i64 (6+(r:Int))) W:=fun W=>by rcases hr3 with rfl|rfl|rfl<;>kernel_rfl
      go_wp2
      go_meet
      case rel=>exact⟨rfl,rfl⟩
     case rest=>
      obtain⟨rfl,rfl⟩:=hcut;have hrp:r*pn≤3000:=Nat.mul_le_mul (show r≤3 from by omega) hpn1;clear hr3;have hd3:decide ((r:Int)<3)=true:=decide_eq_true (by omega);simp only[hd3]
      go_wp2_with fail
      go_loopg [2,34] pn (fun g ov iv wr=>∃j:Nat,j+g=pn∧iv=.int .i64 j∧Hid (wr.ownsRow W.heap.size 72 5 ov ((fn+r*pn)+j) (sgs ((l.facts.map fSig++opsL l r)++(l.provs.take j).map (pSig (6+(r:Int))))))∧Hid (Below W.heap.size W wr))
      case atStart=>exact⟨0,by omega,rfl,(by show World.ownsRow _ _ _ _ _ _ _;rw[List.take_zero,List.map_nil,List.append_nil];exact HST.out),HBW⟩
      case round=>
       obtain⟨j,hj,rfl,hown,hbr⟩:=hrel;clear HST HBW;by_cases hlt:j<pn
       ·have hjx:j<l.provs.length:=by rw[←HPN.out];exact hlt
        have hjm:j<ps.length:=by rw[←HLA.out.p.len];exact hlt
        have htm:=take_map (pSig (6+(r:Int))) hjx;rw[show l.provs[j]=ps[j].1 from HPX.out j hjx hjm] at htm;obtain⟨b,off,hA,hb,hc⟩:=Rd.row pvCells 12 (fun _=>rfl) (by omega) (HLA.out.p.below hbr.out).rd hjm;simp only at hA;subst hA;generalize ps[j]=x at*;obtain⟨⟨nm,⟨tt,tm,td⟩,ch,⟨sn1,sn2,sn3⟩,⟨cn1,cn2,cn3⟩,bo⟩,⟨ha,hn,hcc⟩⟩:=x;have HTM:=Lib.hid htm;have c0:=hc 0 _ rfl;have c1:=hc 1 _ rfl;have c2:=hc 2 _ rfl;have c3:=hc 3 _ rfl;have c4:=hc 4 _ rfl;have c5:=hc 5 _ rfl;have c6:=hc 6 _ rfl;have c7:=hc 7 _ rfl;have c8:=hc 8 _ rfl;have c9:=hc 9 _ rfl;have c10:=hc 10 _ rfl;have c11:=hc 11 _ rfl;simp only[Nat.add_zero] at c0;obtain⟨K,hK⟩:∃K,K=(fn+r*pn)+j:=⟨_,rfl⟩
        obtain⟨XS,hXS⟩:∃X,X=sgs ((l.facts.map fSig++opsL l r)++(l.provs.take j).map (pSig (6+(r:Int)))):=⟨_,rfl⟩
        rw[←hK,←hXS] at hown;have HXS:=Lib.hid hXS;have HK:=Lib.hid hK;have hKb:K≤5000:=by omega
        have HOA:Hid ((wr.alloc (.cells #[.string nm,.bool tt,.int .i64 tm,.int .i64 td,.slice ha hn hcc,.bool ch,.bool sn1,.string sn2,.string sn3,.bool cn1,.string cn2,.string cn3] 48)).ownsRow W.heap.size 72 5 u2 K XS):=hown.out.alloc _;have HBA:Hid (Below W.heap.size W (wr.alloc (.cells #[.string nm,.bool tt,.int .i64 tm,.int .i64 td,.slice ha hn hcc,.bool ch,.bool sn1,.string sn2,.string sn3,.bool cn1,.string cn2,.string cn3] 48))):=hbr.out.alloc hbr.out.size _;clear hown hbr hc htm hK hXS;go_wp2_with (at_builtin;go_must (refine wpList_push (wr.alloc (.cells #[.string nm,.bool tt,.int .i64 tm,.int .i64 td,.slice ha hn hcc,.bool ch,.bool sn1,.string sn2,.string sn3,.bool cn1,.string cn2,.string cn3] 48)) #[.int .i64 (6+(r:Int)),.string nm,.bool tt,.int .i64 tm,.int .i64 td] rfl _ _ 35 rfl W.heap.size 72 _ 5 48 1 Tryz.underlying35 info_sig rfl (by decide) u2 K XS rfl HOA.out (by rw[World.size_alloc];rfl) rfl ?_ ?_ ?_ ?_ ?_))
        any_goals first|(unfold maxLen;omega)|omega
        ·exact⟨rfl,rfl,rfl,rfl,rfl⟩
        ·have hz:=HBA.out.size;rw[World.size_alloc] at hz;exact hz
        intro v' w' hown' hb';have HOWN:Hid (w'.ownsRow W.heap.size 72 5 v' ((fn+r*pn)+(j+1)) (sgs ((l.facts.map fSig++opsL l r)++(l.provs.take (j+1)).map (pSig (6+(r:Int)))))):=by show World.ownsRow _ _ _ _ _ _ _;rw[HTM.out,←List.append_assoc,sgs_append,←HXS.out,←Nat.add_assoc,←HK.out];exact hown'
        have HB:=Lib.hid (HBA.out.trans hb');clear hown' hb' c0;go_wp2
        go_roundg (pn-(j+1))
        case measure=>omega
        case rel=>exact⟨j+1,by omega,by go_num,HOWN,HB⟩
       ·have hjn:j=pn:=by omega
        have HST:Hid (wr.ownsRow W.heap.size 72 5 u2 ((fn+r*pn)+pn) (sgs ((l.facts.map fSig++opsL l r)++l.provs.map (pSig (6+(r:Int)))))):=by
         have h:=hown.out;rw[hjn] at h;rw[List.take_of_length_le (Nat.le_of_eq HPN.out.symm)] at h;exact h
        have HBW:=hbr;have hkc:=(HKL.out.below hbr.out HKL.out.lt).cells;clear hown hbr hjn;go_wp2
        go_roundg (3-(r+1))
        case measure=>omega
        case rel=>exact⟨r+1,by omega,by go_num,(by show World.ownsRow _ _ _ _ _ _ _;rw[opsL_succ,←List.append_assoc,show fn+(r+1)*pn=fn+r*pn+pn from by rw[Nat.succ_mul];omega];exact HST.out),HBW⟩
    ·have hrn:r=3:=by omega
     have HST:Hid (wr.ownsRow W.heap.size 72 5 u2 (fn+3*pn) (sgs (l.facts.map fSig++opsL l 3))):=by have h:=hown.out;rw[hrn] at h;exact h
     have HBW:=hbr;have hkc:=(HKL.out.below hbr.out HKL.out.lt).cells;clear hown hbr hrn;go_wp2_with fail
     go_loopg [2,52] sn (fun g ov iv wr=>∃j:Nat,j+g=sn∧iv=.int .i64 j∧Hid (wr.ownsRow W.heap.size 72 5 ov ((fn+3*pn)+j) (sgs ((l.facts.map fSig++opsL l 3)++(l.schs.take j).map sSig)))∧Hid (Below W.heap.size W wr))
     case atStart=>exact⟨0,by omega,rfl,(by show World.ownsRow _ _ _ _ _ _ _;rw[List.take_zero,List.map_nil,List.append_nil];exact HST.out),HBW⟩
     case round=>
      obtain⟨j,hj,rfl,hown,hbr⟩:=hrel;clear HST HBW;by_cases hlt:j<sn
      ·have hjx:j<l.schs.length:=by rw[←HSN.out];exact hlt
       have hjm:j<ss.length:=by rw[←HLA.out.s.len];exact hlt
       have htm:=take_map sSig hjx;rw[show l.schs[j]=ss[j].1 from HFX.out j hjx hjm] at htm;obtain⟨b,off,hA,hb,hc⟩:=Rd.row scCells 4 (fun _=>rfl) (by omega) (HLA.out.s.below hbr.out).rd hjm;simp only at hA;subst hA;generalize ss[j]=x at*;obtain⟨⟨nm,mo,da,br⟩,⟨ha,hn,hcc⟩⟩:=x;have HTM:=Lib.hid htm;have c0:=hc 0 _ rfl;have c1:=hc 1 _ rfl;have c2:=hc 2 _ rfl;have c3:=hc 3 _ rfl;simp only[Nat.add_zero] at c0;obtain⟨K,hK⟩:∃K,K=(fn+3*pn)+j:=⟨_,rfl⟩
       obtain⟨XS,hXS⟩:∃X,X=sgs ((l.facts.map fSig++opsL l 3)++(l.schs.take j).map sSig):=⟨_,rfl⟩
       rw[←hK,←hXS] at hown;have HXS:=Lib.hid hXS;have HK:=Lib.hid hK;have hKb:K≤5000:=by omega
       have HOA:Hid ((wr.alloc (.cells #[.string nm,.int .i64 mo,.int .i64 da,.slice ha hn hcc] 76)).ownsRow W.heap.size 72 5 u2 K XS):=hown.out.alloc _;have HBA:Hid (Below W.heap.size W (wr.alloc (.cells #[.string nm,.int .i64 mo,.int .i64 da,.slice ha hn hcc] 76))):=hbr.out.alloc hbr.out.size _;clear hown hbr hc htm hK hXS;go_wp2_with (at_builtin;go_must (refine wpList_push (wr.alloc (.cells #[.string nm,.int .i64 mo,.int .i64 da,.slice ha hn hcc] 76)) #[.int .i64 24,.string nm,.bool false,.int .i64 mo,.int .i64 da] rfl _ _ 35 rfl W.heap.size 72 _ 5 48 1 Tryz.underlying35 info_sig rfl (by decide) u2 K XS rfl HOA.out (by rw[World.size_alloc];rfl) rfl ?_ ?_ ?_ ?_ ?_))
       any_goals first|(unfold maxLen;omega)|omega
       ·exact⟨rfl,rfl,rfl,rfl,rfl⟩
       ·have hz:=HBA.out.size;rw[World.size_alloc] at hz;exact hz
       intro v' w' hown' hb';have HOWN:Hid (w'.ownsRow W.heap.size 72 5 v' ((fn+3*pn)+(j+1)) (sgs ((l.facts.map fSig++opsL l 3)++(l.schs.take (j+1)).map sSig))):=by show World.ownsRow _ _ _ _ _ _ _;rw[HTM.out,←List.append_assoc,sgs_append,←HXS.out,←Nat.add_assoc,←HK.out];exact hown'
       have HB:=Lib.hid (HBA.out.trans hb');clear hown' hb' c0;go_wp2
       go_roundg (sn-(j+1))
       case measure=>omega
       case rel=>exact⟨j+1,by omega,by go_num,HOWN,HB⟩
      ·have hjn:j=sn:=by omega
       have HST:Hid (wr.ownsRow W.heap.size 72 5 u2 ((fn+3*pn)+sn) (sgs ((l.facts.map fSig++opsL l 3)++l.schs.map sSig))):=by
        have h:=hown.out;rw[hjn] at h;rw[List.take_of_length_le (Nat.le_of_eq HSN.out.symm)] at h;exact h
       have HBW:=hbr;have hkc:=(HKL.out.below hbr.out HKL.out.lt).cells;clear hown hbr hjn;go_wp2;obtain⟨h,rfl,hn,hrow⟩:=RowAt.of_own (enc:=Sg.cells) HST.out (by rw[List.length_append,List.length_append,List.length_map,List.length_map,opsL_len,HFN.out,HPN.out,HSN.out]);go_ret;refine⟨h,rfl,?_,bstep HBA2.out HBW.out⟩;rw[sigsL_eq];exact hrow
set_option maxHeartbeats 800000 in
theorem uTyped1_any (x:Dc) (w:World):Calls Tryz.prog 49 #[.agg (Dc.cells x).toArray] w fun e w'=>e=.returned (.bool (!rightB x.ty))∧Below w.heap.size w w':=by
 have HU:=Lib.hid (fun W=>uIsType_any x.ty W);generalize rightB x.ty=q at*;obtain⟨nm,⟨tt,tm,td⟩⟩:=x;unfold Dc.cells;simp only[Ty.v] at HU⊢;obtain⟨W,hW⟩:∃W,W=w.alloc (.cells #[.string nm,.bool tt,.int .i64 tm,.int .i64 td] 42):=⟨_,rfl⟩
 have hkc:=(Blk.new w 42 #[.string nm,.bool tt,.int .i64 tm,.int .i64 td]).cells;have HBA:Hid (Below w.heap.size w W):=by show Below _ _ _;rw[hW];exact (Below.refl _ _).alloc (Nat.le_refl _) _
 rw[←hW] at hkc;obtain⟨B,hB⟩:∃B,B=w.heap.size:=⟨_,rfl⟩
 rw[←hB] at hkc;go_enter Tryz.func49,Tryz.ntmps49
 go_upto_region 1 with fail
 simp only[←hW,←hB]
 clear hW hB;go_wp2_with fail;refine (HU.out W).mono ?_;rintro e w5 ⟨rfl,hb5⟩;have HBE:=Lib.hid (bstep HBA.out hb5);clear hb5;go_wp2;go_ret;exact⟨rfl,HBE.out⟩
set_option maxHeartbeats 800000 in
theorem uTyped2_any (x:Pv × Hd) (w:World):Calls Tryz.prog 52 #[.agg (pvCells x).toArray] w fun e w'=>e=.returned (.bool (!rightB x.1.ty))∧Below w.heap.size w w':=by
 have HU:=Lib.hid (fun W=>uIsType_any x.1.ty W);generalize rightB x.1.ty=q at*;obtain⟨⟨nm,⟨tt,tm,td⟩,ch,⟨sn1,sn2,sn3⟩,⟨cn1,cn2,cn3⟩,bo⟩,⟨ha,hn,hcc⟩⟩:=x;unfold pvCells;simp only[Ty.v] at HU⊢;obtain⟨W,hW⟩:∃W,W=w.alloc (.cells #[.string nm,.bool tt,.int .i64 tm,.int .i64 td,.slice ha hn hcc,.bool ch,.bool sn1,.string sn2,.string sn3,.bool cn1,.string cn2,.string cn3] 48):=⟨_,rfl⟩
 have hkc:=(Blk.new w 48 #[.string nm,.bool tt,.int .i64 tm,.int .i64 td,.slice ha hn hcc,.bool ch,.bool sn1,.string sn2,.string sn3,.bool cn1,.string cn2,.string cn3]).cells;have HBA:Hid (Below w.heap.size w W):=by show Below _ _ _;rw[hW];exact (Below.refl _ _).alloc (Nat.le_refl _) _
 rw[←hW] at hkc;obtain⟨B,hB⟩:∃B,B=w.heap.size:=⟨_,rfl⟩
 rw[←hB] at hkc;go_enter Tryz.func52,Tryz.ntmps52
 go_upto_region 1 with fail
 simp only[←hW,←hB]
 clear hW hB;go_wp2_with fail;refine (HU.out W).mono ?_;rintro e w5 ⟨rfl,hb5⟩;have HBE:=Lib.hid (bstep HBA.out hb5);clear hb5;go_wp2;go_ret;exact⟨rfl,HBE.out⟩
set_option maxHeartbeats 800000 in
theorem uTyped3_any (x:Sc × Hd) (w:World):Calls Tryz.prog 54 #[.agg (scCells x).toArray] w fun e w'=>e=.returned (.bool (!unitB x.1.money x.1.days))∧Below w.heap.size w w':=by
 have HU:=Lib.hid (fun W=>kUnit_any x.1.money x.1.days W);generalize unitB x.1.money x.1.days=q at*;obtain⟨⟨nm,mo,da,br⟩,⟨ha,hn,hcc⟩⟩:=x;unfold scCells;simp only at HU⊢;obtain⟨W,hW⟩:∃W,W=w.alloc (.cells #[.string nm,.int .i64 mo,.int .i64 da,.slice ha hn hcc] 76):=⟨_,rfl⟩
 have hkc:=(Blk.new w 76 #[.string nm,.int .i64 mo,.int .i64 da,.slice ha hn hcc]).cells;have HBA:Hid (Below w.heap.size w W):=by show Below _ _ _;rw[hW];exact (Below.refl _ _).alloc (Nat.le_refl _) _
 rw[←hW] at hkc;obtain⟨B,hB⟩:∃B,B=w.heap.size:=⟨_,rfl⟩
 rw[←hB] at hkc;go_enter Tryz.func54,Tryz.ntmps54
 go_upto_region 1 with fail
 simp only[←hW,←hB]
 clear hW hB;go_wp2_with fail;refine (HU.out W).mono ?_;rintro e w5 ⟨rfl,hb5⟩;have HBE:=Lib.hid (bstep HBA.out hb5);clear hb5;go_wp2;go_ret;exact⟨rfl,HBE.out⟩
set_option maxHeartbeats 800000 in
theorem conDc_nil (A:Option Addr) (c:Nat) (fv:Value) (w:World):Calls Tryz.prog 48 #[.slice A 0 c,fv] w fun e w'=>e=.returned (.bool false)∧Below w.heap.size w w':=by
 have HBA:Hid (Below w.heap.size w w):=Below.refl _ _;go_enter Tryz.func48,Tryz.ntmps48;go_wp2
 go_loopg [8] 0 (fun g iv wr=>iv=.int .i64 0∧wr=w)
 case atStart=>exact⟨rfl,rfl⟩
 case round=>
  obtain⟨rfl,rfl⟩:=hrel;go_wp2;go_ret;exact⟨rfl,HBA.out⟩
theorem conDc_at (xs:List (Dc)) (h:Hd) (w:World) (hr:RowAt w Dc.cells xs h):
  Calls Tryz.prog 48 #[.slice h.a h.n h.c,.func (.func 49) #[] #[]] w fun e w'=>e=.returned (.bool (xs.any fun x=> !rightB x.ty))∧Below w.heap.size w w':=by
 by_cases h0:h.n=0
 ·have hx:xs=[]:=List.eq_nil_of_length_eq_zero (by rw[←hr.len];exact h0);subst hx;rw[h0];exact conDc_nil _ _ _ w
 ·have hlen:=hr.len;have hmx:=hr.max;have hcp:=hr.cap;obtain⟨b,off,hA,hb,_⟩:=Rd.row Dc.cells 4 (fun _=>rfl) (by omega) hr.rd (j:=0) (by omega);have eg:∀args w,(callFunc 49 args).run Tryz.prog w=.ok (.enter 49 args) w:=enters_of Tryz.func49 (by kernel_rfl) rfl;have hrd:=hr.rd;rw[hA] at hrd⊢
  letI:Inhabited (Dc):=⟨xs[0]'(by omega)⟩
  have hh:=AnyQ.slices_ContainsFunc Tryz.conD 4 Tryz.isAgg42 Tryz.sizeOf42 Dc.cells (fun _=>rfl) (fun x=> !rightB x.ty) 49 #[] eg b off h.n h.c xs w
   (fun W x hW=>(uTyped1_any x W).mono (fun e w' ⟨h1,h2⟩=>⟨h1,bstep hW h2⟩)) (by omega) (by unfold maxLen at hmx;omega) hb (fun j hj i v hv=>by
     obtain⟨b',off',hA',hb',hc'⟩:=Rd.row Dc.cells 4 (fun _=>rfl) (by omega) hrd hj;injection hA' with hA';injection hA' with h1 h2;subst h1 h2;refine hc' i v ?_;have e:=getElem!_pos xs j hj;rw[e] at hv;exact hv)
  rw[List.take_of_length_le (by omega)] at hh;exact hh
set_option maxHeartbeats 800000 in
theorem conPv_nil (A:Option Addr) (c:Nat) (fv:Value) (w:World):Calls Tryz.prog 51 #[.slice A 0 c,fv] w fun e w'=>e=.returned (.bool false)∧Below w.heap.size w w':=by
 have HBA:Hid (Below w.heap.size w w):=Below.refl _ _;go_enter Tryz.func51,Tryz.ntmps51;go_wp2
 go_loopg [8] 0 (fun g iv wr=>iv=.int .i64 0∧wr=w)
 case atStart=>exact⟨rfl,rfl⟩
 case round=>
  obtain⟨rfl,rfl⟩:=hrel;go_wp2;go_ret;exact⟨rfl,HBA.out⟩
theorem conPv_at (xs:List (Pv × Hd)) (h:Hd) (w:World) (hr:RowAt w pvCells xs h):
  Calls Tryz.prog 51 #[.slice h.a h.n h.c,.func (.func 52) #[] #[]] w fun e w'=>e=.returned (.bool (xs.any fun x=> !rightB x.1.ty))∧Below w.heap.size w w':=by
 by_cases h0:h.n=0
 ·have hx:xs=[]:=List.eq_nil_of_length_eq_zero (by rw[←hr.len];exact h0);subst hx;rw[h0];exact conPv_nil _ _ _ w
 ·have hlen:=hr.len;have hmx:=hr.max;have hcp:=hr.cap;obtain⟨b,off,hA,hb,_⟩:=Rd.row pvCells 12 (fun _=>rfl) (by omega) hr.rd (j:=0) (by omega);have eg:∀args w,(callFunc 52 args).run Tryz.prog w=.ok (.enter 52 args) w:=enters_of Tryz.func52 (by kernel_rfl) rfl;have hrd:=hr.rd;rw[hA] at hrd⊢
  letI:Inhabited (Pv × Hd):=⟨xs[0]'(by omega)⟩
  have hh:=AnyQ.slices_ContainsFunc Tryz.conP 12 Tryz.isAgg48 Tryz.sizeOf48 pvCells (fun _=>rfl) (fun x=> !rightB x.1.ty) 52 #[] eg b off h.n h.c xs w
   (fun W x hW=>(uTyped2_any x W).mono (fun e w' ⟨h1,h2⟩=>⟨h1,bstep hW h2⟩)) (by omega) (by unfold maxLen at hmx;omega) hb (fun j hj i v hv=>by
     obtain⟨b',off',hA',hb',hc'⟩:=Rd.row pvCells 12 (fun _=>rfl) (by omega) hrd hj;injection hA' with hA';injection hA' with h1 h2;subst h1 h2;refine hc' i v ?_;have e:=getElem!_pos xs j hj;rw[e] at hv;exact hv)
  rw[List.take_of_length_le (by omega)] at hh;exact hh
set_option maxHeartbeats 800000 in
theorem conSc_nil (A:Option Addr) (c:Nat) (fv:Value) (w:World):Calls Tryz.prog 53 #[.slice A 0 c,fv] w fun e w'=>e=.returned (.bool false)∧Below w.heap.size w w':=by
 have HBA:Hid (Below w.heap.size w w):=Below.refl _ _;go_enter Tryz.func53,Tryz.ntmps53;go_wp2
 go_loopg [8] 0 (fun g iv wr=>iv=.int .i64 0∧wr=w)
 case atStart=>exact⟨rfl,rfl⟩
 case round=>
  obtain⟨rfl,rfl⟩:=hrel;go_wp2;go_ret;exact⟨rfl,HBA.out⟩
theorem conSc_at (xs:List (Sc × Hd)) (h:Hd) (w:World) (hr:RowAt w scCells xs h):
  Calls Tryz.prog 53 #[.slice h.a h.n h.c,.func (.func 54) #[] #[]] w fun e w'=>e=.returned (.bool (xs.any fun x=> !unitB x.1.money x.1.days))∧Below w.heap.size w w':=by
 by_cases h0:h.n=0
 ·have hx:xs=[]:=List.eq_nil_of_length_eq_zero (by rw[←hr.len];exact h0);subst hx;rw[h0];exact conSc_nil _ _ _ w
 ·have hlen:=hr.len;have hmx:=hr.max;have hcp:=hr.cap;obtain⟨b,off,hA,hb,_⟩:=Rd.row scCells 4 (fun _=>rfl) (by omega) hr.rd (j:=0) (by omega);have eg:∀args w,(callFunc 54 args).run Tryz.prog w=.ok (.enter 54 args) w:=enters_of Tryz.func54 (by kernel_rfl) rfl;have hrd:=hr.rd;rw[hA] at hrd⊢
  letI:Inhabited (Sc × Hd):=⟨xs[0]'(by omega)⟩
  have hh:=AnyQ.slices_ContainsFunc Tryz.conS 4 Tryz.isAgg76 Tryz.sizeOf76 scCells (fun _=>rfl) (fun x=> !unitB x.1.money x.1.days) 54 #[] eg b off h.n h.c xs w
   (fun W x hW=>(uTyped3_any x W).mono (fun e w' ⟨h1,h2⟩=>⟨h1,bstep hW h2⟩)) (by omega) (by unfold maxLen at hmx;omega) hb (fun j hj i v hv=>by
     obtain⟨b',off',hA',hb',hc'⟩:=Rd.row scCells 4 (fun _=>rfl) (by omega) hrd hj;injection hA' with hA';injection hA' with h1 h2;subst h1 h2;refine hc' i v ?_;have e:=getElem!_pos xs j hj;rw[e] at hv;exact hv)
  rw[List.take_of_length_le (by omega)] at hh;exact hh
end Go.Proofs.YtfajelpcfnfjkaaGreatDoor
