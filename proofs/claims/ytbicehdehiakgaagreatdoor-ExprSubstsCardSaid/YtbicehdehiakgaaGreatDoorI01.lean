/- tithinglaw07.ExprSubsts is true of every input: the tied card of its row, proved. Conditions: the package-level variables that the row lists hold what the program's own text lays in them. -/
import Derived.SevenTiedAt
import Derived.Test.YtbicehdehiakgaaGreatDoorTie
import Derived.Test.YtbicehdehiakgaaGreatDoorCards
import Derived.Test.YtbicehdehiakgaaGreatDoorG00
import Derived.Test.YtbicehdehiakgaaGreatDoorG27
import Derived.Test.YtbicehdehiakgaaGreatDoorG38
import Derived.Test.YtbicehdehiakgaaGreatDoorI00
set_option linter.unusedVariables false
set_option linter.unusedSimpArgs false
namespace Go.Proofs.YtbicehdehiakgaaGreatDoor
open Go.RowKit
theorem sub_parts {es bs:List Nd} {nm:ByteArray} (h:(substE es nm bs).2=0):checkE es=0∧checkE bs=0∧(subL es nm bs).length≤60∧substE es nm bs=(subL es nm bs,0):=by
 unfold substE at h⊢;by_cases h1:checkE es=0
 ·rw[if_neg (by simp[h1])] at h⊢;by_cases h2:checkE bs=0
  ·rw[if_neg (by simp[h2])] at h⊢;by_cases h3:60<(subL es nm bs).length
   ·rw[if_pos h3] at h;exact absurd h (by decide)
   ·rw[if_neg h3];exact⟨h1,h2,by omega,rfl⟩
  ·rw[if_pos h2] at h;exact absurd h h2
 ·rw[if_pos h1] at h;exact absurd h h1
set_option maxRecDepth 100000 in
set_option maxHeartbeats 6400000 in
theorem exprSubsts_core (l m:List Int) (k:Nat) (rs:List Nd) (A0 A1 A2:Option Addr) (l0 c0 l1 c1 l2 c2:Nat) (w:World) (hL:LaidE w) (h0:Zz w l A0 l0 c0) (h1:Zz w m A1 l1 c1) (h2:Es w rs A2 l2 c2) (hk:k<256):
  Calls Tryz.prog 9 #[.agg #[.slice A0 l0 c0,.slice A1 l1 c1],.int .u8 (k:Int),.slice A2 l2 c2] w fun e w'=>e=.returned (.bool true)∧Below w.heap.size w w':=by
 have HL:Hid (∀W,Below w.heap.size w W→LaidE W):=fun W hb=>hL.below hb
 have HZ0:=Lib.hid h0;have HZ1:=Lib.hid h1;have HE2:=Lib.hid h2;have HFA:=Lib.hid (madeE_fine l);have HFB:=Lib.hid (madeE_fine m);have HFC:=Lib.hid (cutL_fine rs);have HPO:=Lib.hid (fun W=>gPool_any (k:Int) W ⟨by omega,by omega⟩);have hwk:IntKind.i64.wrap (k:Int)=k:=IntWalk.i64_in _ (by omega);generalize poolS (k:Int)=nm at*;clear h0 h1 h2 hk;obtain⟨W,hW⟩:∃W,W=w.alloc (.cells #[.slice A0 l0 c0,.slice A1 l1 c1] 50):=⟨_,rfl⟩
 have hba:Below w.heap.size w W:=by rw[hW];exact (Below.refl _ _).alloc (Nat.le_refl _) _
 have hk0:Blk W w.heap.size 50 [.slice A0 l0 c0,.slice A1 l1 c1]:=by rw[hW];exact Blk.new w _ _
 have hsz:W.heap.size=w.heap.size+1:=by rw[hW];exact Array.size_push _
 obtain⟨B,hB⟩:∃B,B=w.heap.size:=⟨_,rfl⟩
 have HB:=Lib.hid hB;rw[←hB] at hba hsz hk0;have hba':Below w.heap.size w W:=by rw[←HB.out];exact hba
 clear hba;go_enter Tryz.func9,Tryz.ntmps9;go_wp2_with fail;simp only[←hW,←hB]
 clear hW hB;refine (lsanity_any _ (HL.out _ hba')).mono ?_;rintro e w0 ⟨rfl,hb1⟩;have hk1:=hk0.below hb1 hk0.lt;have hB1:=bstep hba' hb1;have HS:Hid ((∀n,w0.drew.cell? ⟨B,n,none⟩=([.slice A0 l0 c0,.slice A1 l1 c1]:List Value)[n]?)∧B<w0.drew.heap.size∧Below w.heap.size w w0.drew):=⟨hk1.cells,hk1.lt,below_drewN hB1 1⟩
 have HK:Hid (∀w' w1:World,((∀n,w'.cell? ⟨B,n,none⟩=([.slice A0 l0 c0,.slice A1 l1 c1]:List Value)[n]?)∧B<w'.heap.size∧Below w.heap.size w w')→Below w'.heap.size w' w1→((∀n,w1.cell? ⟨B,n,none⟩=([.slice A0 l0 c0,.slice A1 l1 c1]:List Value)[n]?)∧B<w1.heap.size∧Below w.heap.size w w1)):=by
  rintro w' w1 ⟨h0,h1,h2⟩ hb1;exact⟨fun n=>(hb1.cell h1).trans (h0 n),Nat.lt_of_lt_of_le h1 hb1.size,bstep h2 hb1⟩
 clear hb1 hk0 hba' hk1 hB1;go_wp2_with fail;refine wp_region_noPanic ?_;refine wp_region_held_drew (S:=fun w'=>(∀n,w'.cell? ⟨B,n,none⟩=([.slice A0 l0 c0,.slice A1 l1 c1]:List Value)[n]?)∧B<w'.heap.size∧Below w.heap.size w w') (by kernel_rfl) HS.out (fun hHeld=>?_);refine tkY 0 ?_ rfl ?_ ?_;rotate_left
 ·intro w hSw;(try dsimp only at hSw);go_simp
  all_goals with_reducible rfl
 try simp only[Act.put,tk1,tk2,tk3,tk4,tk5,tk6]
 refine tkY 1 ?_ rfl ?_ ?_;rotate_left
 ·intro w hSw;(try dsimp only at hSw);go_simp
  all_goals with_reducible rfl
 try simp only[Act.put,tk1,tk2,tk3,tk4,tk5,tk6]
 refine tkY 3 ?_ rfl ?_ ?_;rotate_left
 ·intro w hSw;(try dsimp only at hSw);go_simp
  all_goals with_reducible rfl
 try simp only[Act.put,tk1,tk2,tk3,tk4,tk5,tk6]
 refine tkY 4 ?_ rfl ?_ ?_;rotate_left
 ·intro w hSw;(try dsimp only at hSw);go_simp
  all_goals with_reducible rfl
 try simp only[Act.put,tk1,tk2,tk3,tk4,tk5,tk6]
 refine wpAnyH_ready (rs:=[2]) (by kernel_rfl) (by simp) ?_;refine AllReadyH.cons rfl (fun K hK=>?_) AllReadyH.nil;go_simp;refine (made_es (HZ0.out.below hHeld.2.2)).mono ?_;rintro e w1 ⟨Aa,na,ca,rfl,ha,hb1⟩;go_wp2_with fail;refine hK.out _ _ ?_ (fun hHeld=>?_)
 ·exact HK.out _ _ (by assumption) hb1
 clear hK K
 try simp only[Act.put,tk1,tk2,tk3,tk4,tk5,tk6]
 refine wpAnyH_ready (rs:=[5]) (by kernel_rfl) (by simp) ?_;refine AllReadyH.cons rfl (fun K hK=>?_) AllReadyH.nil;go_simp;refine (made_es (HZ1.out.below hHeld.2.2)).mono ?_;rintro e w2 ⟨Ab,nb,cb,rfl,hbE,hb1⟩;have ha:=ha.below hb1;go_wp2_with fail;refine hK.out _ _ ?_ (fun hHeld=>?_)
 ·exact HK.out _ _ (by assumption) hb1
 clear hK K
 try simp only[Act.put,tk1,tk2,tk3,tk4,tk5,tk6]
 refine tkY 6 ?_ rfl ?_ ?_;rotate_left
 ·intro w hSw;(try dsimp only at hSw);go_simp
  all_goals with_reducible rfl
 try simp only[Act.put,tk1,tk2,tk3,tk4,tk5,tk6]
 refine tkY 7 ?_ rfl ?_ ?_;rotate_left
 ·intro w hSw;(try dsimp only at hSw);go_simp
  all_goals with_reducible rfl
 try simp only[Act.put,tk1,tk2,tk3,tk4,tk5,tk6]
 refine wpAnyH_done (by kernel_rfl) ?_ _;refine NoPanic.normal ?_;have hB2:=hHeld.2.2;clear hHeld hb1 HS HK;generalize madeE l=xs at*;generalize madeE m=ys at*;go_wp2_with fail;refine (HPO.out _).mono ?_;rintro e w3 ⟨rfl,hb⟩;have hB3:=bstep hB2 hb;have ha3:=ha.below hb;have hb3:=hbE.below hb;clear hb ha hbE hB2;go_wp2_with fail;refine (lcut_any rs A2 l2 c2 _ (HE2.out.below hB3)).mono ?_;rintro e w4 ⟨Ac,nc,cc,rfl,hc4,hb⟩;have hB4:=bstep hB3 hb;have ha4:=ha3.below hb;have hb4:=hb3.below hb;clear hb ha3 hb3 hB3;generalize cutL rs=zs at*;go_wp2_with fail;obtain⟨w6,hw⟩:∃x,x=w4.alloc (.cells #[.slice Aa na ca,.slice Ab nb cb,.slice Ab nb cb,.slice Aa na ca,.slice Aa na ca,.slice Ac nc cc,.slice Ac nc cc,.slice Ab nb cb,.slice Aa na ca,.slice none 0 0] 52):=⟨_,rfl⟩
 have hr6:Blk w6 w4.heap.size 52 [.slice Aa na ca,.slice Ab nb cb,.slice Ab nb cb,.slice Aa na ca,.slice Aa na ca,.slice Ac nc cc,.slice Ac nc cc,.slice Ab nb cb,.slice Aa na ca,.slice none 0 0]:=by rw[hw];exact Blk.new w4 _ _
 have hb:Below w4.heap.size w4 w6:=by rw[hw];exact (Below.refl _ _).alloc (Nat.le_refl _) _
 simp only[←hw]
 clear hw;have hB6:=bstep hB4 hb;have ha6:=ha4.below hb;have hb6:=hb4.below hb;have hc6:=hc4.below hb;clear hb ha4 hb4 hc4 hB4;generalize w4.heap.size=C6 at*
 have HP6:Hid (∀j,j<5→∃(es bs:List Nd) (Ap Aq:Option Addr) (np cp nq cq:Nat),w6.cell? ⟨C6,j*2,none⟩=some (.slice Ap np cp)∧w6.cell? ⟨C6,j*2+1,none⟩=some (.slice Aq nq cq)∧Es w6 es Ap np cp∧Es w6 bs Aq nq cq∧(∀n∈es,Fine n)∧(∀n∈bs,Fine n)):=by
  intro j hj;have hc:=hr6.cells;obtain rfl|rfl|rfl|rfl|rfl:j=0∨j=1∨j=2∨j=3∨j=4:=by omega
  ·exact⟨xs,ys,Aa,Ab,na,ca,nb,cb,hc 0,hc 1,ha6,hb6,HFA.out,HFB.out⟩
  ·exact⟨ys,xs,Ab,Aa,nb,cb,na,ca,hc 2,hc 3,hb6,ha6,HFB.out,HFA.out⟩
  ·exact⟨xs,zs,Aa,Ac,na,ca,nc,cc,hc 4,hc 5,ha6,hc6,HFA.out,HFC.out⟩
  ·exact⟨zs,ys,Ac,Ab,nc,cc,nb,cb,hc 6,hc 7,hc6,hb6,HFC.out,HFB.out⟩
  ·exact⟨xs,[],Aa,none,na,ca,0,0,hc 8,hc 9,ha6,Es.nil _,HFA.out,fun n hn=>by cases hn⟩
 have HC6:=Lib.hid hr6.lt;have HB6:=Lib.hid hB6;clear hr6 ha6 hb6 hc6 hB6 HFA HFB HFC HPO
 go_loopg [45] 5 (fun g iv wr=>∃j:Nat,j+g=5∧iv=.int .i64 j∧Below w6.heap.size w6 wr)
 case atStart=>exact⟨0,by omega,rfl,Below.refl _ _⟩
 case round=>
  obtain⟨j,hj,rfl,hbr⟩:=hrel;by_cases hjl:j<5
  ·obtain⟨es,bs,Ap,Aq,np,cp,nq,cq,y0,y1,he6,hf6,hfe,hfb⟩:=HP6.out j hjl;have hjl':(j:Int)<5:=by omega
   have y0:=(hbr.cell HC6.out).trans y0;have y1:=(hbr.cell HC6.out).trans y1;go_wp2_with fail;obtain⟨wb,hw⟩:∃x,x=wr.alloc (.cells #[.slice Ap np cp,.slice Aq nq cq] 52):=⟨_,rfl⟩
   have hkb:Blk wb wr.heap.size 52 [.slice Ap np cp,.slice Aq nq cq]:=by rw[hw];exact Blk.new wr _ _
   have hb:Below wr.heap.size wr wb:=by rw[hw];exact (Below.refl _ _).alloc (Nat.le_refl _) _
   have hbb:Below w6.heap.size w6 wb:=bstep hbr hb;simp only[←hw]
   clear hw hb hbr y0 y1;generalize wr.heap.size=Cb at*;have HEP:=Lib.hid (he6.below hbb);have HFP:=Lib.hid (hf6.below hbb);have HLB:Hid (∀W,Below wb.heap.size wb W→LaidE W):=fun W hb=>HL.out _ (HB6.out.trans ((hbb.trans (hb.mono hbb.size)).mono HB6.out.size))
   have HBB:=Lib.hid hbb;have HFE:=Lib.hid hfe;have HFF:=Lib.hid hfb;clear he6 hf6 hbb hfe hfb;have HSB:=Lib.hid (eSubst_any es bs nm Ap Aq np cp nq cq wb (HLB.out _ (Below.refl _ _)) HEP.out HFP.out HFE.out HFF.out);have HSG:Hid (∀W,Below wb.heap.size wb W→Calls Tryz.prog 28 #[.slice Ap np cp,.string nm,.slice Aq nq cq] W (RetEs (substE es nm bs) W)):=fun W hb=>gSubst_any es bs nm Ap Aq np cp nq cq W (HEP.out.below hb) (HFP.out.below hb) HFE.out HFF.out
   have HPT:Hid ((substE es nm bs).2=0→checkE es=0∧checkE bs=0∧checkE (substE es nm bs).1=0∧occB (substE es nm bs).1 nm=(occB es nm&&occB bs nm)):=by
    intro h;obtain⟨g1,g2,g3,g4⟩:=sub_parts h;rw[g4];exact⟨g1,g2,sub_check g1 g2 nm g3,sub_occ g1 g2 nm g3⟩
   generalize substE es nm bs=R at*;obtain⟨vs,z⟩:=R;simp only at HPT;refine HSB.out.mono ?_;rintro e w7 ⟨A7,n7,c7,rfl,h7,hb⟩;have hc7:=(hkb.below hb hkb.lt).cells;have HE7:=Lib.hid h7;have HB7:Hid (Below wb.heap.size wb w7):=hb;clear hb h7 HSB;go_wp2_with fail;refine (HSG.out _ HB7.out).mono ?_;rintro e w8 ⟨A8,n8,c8,rfl,h8,hb⟩;have HE8:=Lib.hid h8;replace HE7:=Lib.hid (HE7.out.below hb);replace HB7:=Lib.hid (bstep HB7.out hb);clear hb h8 HSG hc7;go_wp2_with fail;refine (gSame_es HE7.out HE8.out true (decide_eq_true rfl)).mono ?_;rintro e w9 ⟨rfl,hb⟩;replace HE7:=Lib.hid (HE7.out.below hb);replace HB7:=Lib.hid (bstep HB7.out hb);clear hb HE8;by_cases hz:z=0
   ·subst hz;obtain⟨g1,g2,g3,g4⟩:=HPT.out rfl;have hc9:=(hkb.below HB7.out hkb.lt).cells;have hl9:Cb<w9.heap.size:=Nat.lt_of_lt_of_le hkb.lt HB7.out.size;have HS:Hid ((∀n,w9.drew.cell? ⟨Cb,n,none⟩=([.slice Ap np cp,.slice Aq nq cq]:List Value)[n]?)∧Cb<w9.drew.heap.size∧Below w9.heap.size w9 w9.drew):=⟨hc9,hl9,below_drewN (Below.refl _ _) 1⟩
    have HK:Hid (∀w' w1:World,((∀n,w'.cell? ⟨Cb,n,none⟩=([.slice Ap np cp,.slice Aq nq cq]:List Value)[n]?)∧Cb<w'.heap.size∧Below w9.heap.size w9 w')→Below w'.heap.size w' w1→((∀n,w1.cell? ⟨Cb,n,none⟩=([.slice Ap np cp,.slice Aq nq cq]:List Value)[n]?)∧Cb<w1.heap.size∧Below w9.heap.size w9 w1)):=by
     rintro w' w1 ⟨h0,h1,h2⟩ hb1;exact⟨fun n=>(hb1.cell h1).trans (h0 n),Nat.lt_of_lt_of_le h1 hb1.size,bstep h2 hb1⟩
    have HE9:Hid (∀W,Below w9.heap.size w9 W→Es W vs A7 n7 c7):=fun W hb=>HE7.out.below hb
    have hfv:=check_fine g3;have HL9:Hid (∀W,Below w9.heap.size w9 W→LaidE W):=fun W hb=>HLB.out _ (HB7.out.trans (hb.mono HB7.out.size))
    have HCK:Hid (∀W,Below w9.heap.size w9 W→Calls Tryz.prog 18 #[.slice A7 n7 c7] W fun e w'=>e=.returned (.int .i64 0)∧Below W.heap.size W w'):=by
     intro W hb;have h:=HE9.out W hb;have:=check_any vs A7 n7 c7 W (HL9.out W hb) h.len h.cap h.max h.rd hfv;rw[g3] at this;exact this
    have HOA:Hid (∀W,Below w9.heap.size w9 W→Calls Tryz.prog 29 #[.slice A7 n7 c7,.string nm] W fun e w'=>e=.returned (.bool (occB es nm&&occB bs nm))∧Below W.heap.size W w'):=by
     intro W hb;have:=loccurs_any vs nm A7 n7 c7 W (HL9.out W hb) (HE9.out W hb) hfv;rw[g4] at this;exact this
    have HO0:Hid (∀W,Below w9.heap.size w9 W→Calls Tryz.prog 29 #[.slice Ap np cp,.string nm] W fun e w'=>e=.returned (.bool (occB es nm))∧Below W.heap.size W w'):=fun W hb=>loccurs_any es nm Ap np cp W (HL9.out W hb) (HEP.out.below (HB7.out.trans (hb.mono HB7.out.size))) HFE.out
    have HO1:Hid (∀W,Below w9.heap.size w9 W→Calls Tryz.prog 29 #[.slice Aq nq cq,.string nm] W fun e w'=>e=.returned (.bool (occB bs nm))∧Below W.heap.size W w'):=fun W hb=>loccurs_any bs nm Aq nq cq W (HL9.out W hb) (HFP.out.below (HB7.out.trans (hb.mono HB7.out.size))) HFF.out
    generalize occB es nm=o0 at*;generalize occB bs nm=o1 at*;clear hfv g1 g2 g3 g4 HPT hc9 hl9 hkb HE9 HE7;cases o0
    ·simp only[Bool.false_and] at HOA;go_wp2_with fail;refine wp_region_noPanic ?_;refine wp_region_held_drew (S:=fun w'=>(∀n,w'.cell? ⟨Cb,n,none⟩=([.slice Ap np cp,.slice Aq nq cq]:List Value)[n]?)∧Cb<w'.heap.size∧Below w9.heap.size w9 w') (by kernel_rfl) HS.out (fun hHeld=>?_);refine tkY 0 ?_ rfl ?_ ?_;rotate_left
     ·intro w hSw;(try dsimp only at hSw);go_simp
      all_goals with_reducible rfl
     try simp only[Act.put,tk1,tk2,tk3,tk4,tk5,tk6]
     refine wpAnyH_ready (rs:=[1]) (by kernel_rfl) (by simp) ?_;refine AllReadyH.cons rfl (fun K hK=>?_) AllReadyH.nil;go_simp;refine (HCK.out _ hHeld.2.2).mono ?_;rintro e w1 ⟨rfl,hb1⟩;go_wp2_with fail;refine hK.out _ _ ?_ (fun hHeld=>?_)
     ·exact HK.out _ _ (by assumption) hb1
     clear hK K
     try simp only[Act.put,tk1,tk2,tk3,tk4,tk5,tk6]
     refine tkY 2 ?_ rfl ?_ ?_;rotate_left
     ·intro w hSw;(try dsimp only at hSw);go_simp
      all_goals with_reducible rfl
     try simp only[Act.put,tk1,tk2,tk3,tk4,tk5,tk6]
     refine tkY 3 ?_ rfl ?_ ?_;rotate_left
     ·intro w hSw;(try dsimp only at hSw);go_simp
      all_goals with_reducible rfl
     try simp only[Act.put,tk1,tk2,tk3,tk4,tk5,tk6]
     refine tkY 4 ?_ rfl ?_ ?_;rotate_left
     ·intro w hSw;(try dsimp only at hSw);go_simp
      all_goals with_reducible rfl
     try simp only[Act.put,tk1,tk2,tk3,tk4,tk5,tk6]
     refine tkY 5 ?_ rfl ?_ ?_;rotate_left
     ·intro w hSw;(try dsimp only at hSw);go_simp
      all_goals with_reducible rfl
     try simp only[Act.put,tk1,tk2,tk3,tk4,tk5,tk6]
     refine tkY 7 ?_ rfl ?_ ?_;rotate_left
     ·intro w hSw;(try dsimp only at hSw);go_simp
      all_goals with_reducible rfl
     try simp only[Act.put,tk1,tk2,tk3,tk4,tk5,tk6]
     refine tkY 8 ?_ rfl ?_ ?_;rotate_left
     ·intro w hSw;(try dsimp only at hSw);go_simp
      all_goals with_reducible rfl
     try simp only[Act.put,tk1,tk2,tk3,tk4,tk5,tk6]
     refine tkY 9 ?_ rfl ?_ ?_;rotate_left
     ·intro w hSw;(try dsimp only at hSw);go_simp
      all_goals with_reducible rfl
     try simp only[Act.put,tk1,tk2,tk3,tk4,tk5,tk6]
     refine wpAnyH_ready (rs:=[6]) (by kernel_rfl) (by simp) ?_;refine AllReadyH.cons rfl (fun K hK=>?_) AllReadyH.nil;go_simp;refine (HOA.out _ hHeld.2.2).mono ?_;rintro e w1 ⟨rfl,hb1⟩;go_wp2_with fail;refine hK.out _ _ ?_ (fun hHeld=>?_)
     ·exact HK.out _ _ (by assumption) hb1
     clear hK K
     try simp only[Act.put,tk1,tk2,tk3,tk4,tk5,tk6]
     refine wpAnyH_ready (rs:=[10]) (by kernel_rfl) (by simp) ?_;refine AllReadyH.cons rfl (fun K hK=>?_) AllReadyH.nil;go_simp;refine (HO0.out _ hHeld.2.2).mono ?_;rintro e w1 ⟨rfl,hb1⟩;go_wp2_with fail;refine hK.out _ _ ?_ (fun hHeld=>?_)
     ·exact HK.out _ _ (by assumption) hb1
     clear hK K
     try simp only[Act.put,tk1,tk2,tk3,tk4,tk5,tk6]
     refine tkY 11 ?_ rfl ?_ ?_;rotate_left
     ·intro w hSw;(try dsimp only at hSw);go_simp
      all_goals with_reducible rfl
     try simp only[Act.put,tk1,tk2,tk3,tk4,tk5,tk6]
     refine tkN 12 rfl ?_
     try simp only[Act.put,tk1,tk2,tk3,tk4,tk5,tk6]
     refine tkN 13 rfl ?_
     try simp only[Act.put,tk1,tk2,tk3,tk4,tk5,tk6]
     refine tkN 14 rfl ?_
     try simp only[Act.put,tk1,tk2,tk3,tk4,tk5,tk6]
     refine tkN 15 rfl ?_
     try simp only[Act.put,tk1,tk2,tk3,tk4,tk5,tk6]
     refine tkY 16 ?_ rfl ?_ ?_;rotate_left
     ·intro w hSw;(try dsimp only at hSw);go_simp
      all_goals with_reducible rfl
     try simp only[Act.put,tk1,tk2,tk3,tk4,tk5,tk6]
     refine tkY 17 ?_ rfl ?_ ?_;rotate_left
     ·intro w hSw;(try dsimp only at hSw);go_simp
      all_goals with_reducible rfl
     try simp only[Act.put,tk1,tk2,tk3,tk4,tk5,tk6]
     refine tkY 18 ?_ rfl ?_ ?_;rotate_left
     ·intro w hSw;(try dsimp only at hSw);go_simp
      all_goals with_reducible rfl
     try simp only[Act.put,tk1,tk2,tk3,tk4,tk5,tk6]
     refine wpAnyH_done (by kernel_rfl) ?_ _;refine NoPanic.normal ?_;have HBE:=Lib.hid hHeld.2.2;clear hHeld hb1 HS HK;go_wp2
     go_roundg (5-(j+1))
     case measure=>omega
     case rel=>exact⟨j+1,by omega,by go_num,HBB.out.trans ((HB7.out.trans (HBE.out.mono HB7.out.size)).mono HBB.out.size)⟩
    ·simp only[Bool.true_and] at HOA;cases o1
     ·go_wp2_with fail;refine wp_region_noPanic ?_;refine wp_region_held_drew (S:=fun w'=>(∀n,w'.cell? ⟨Cb,n,none⟩=([.slice Ap np cp,.slice Aq nq cq]:List Value)[n]?)∧Cb<w'.heap.size∧Below w9.heap.size w9 w') (by kernel_rfl) HS.out (fun hHeld=>?_);refine tkY 0 ?_ rfl ?_ ?_;rotate_left
      ·intro w hSw;(try dsimp only at hSw);go_simp
       all_goals with_reducible rfl
      try simp only[Act.put,tk1,tk2,tk3,tk4,tk5,tk6]
      refine wpAnyH_ready (rs:=[1]) (by kernel_rfl) (by simp) ?_;refine AllReadyH.cons rfl (fun K hK=>?_) AllReadyH.nil;go_simp;refine (HCK.out _ hHeld.2.2).mono ?_;rintro e w1 ⟨rfl,hb1⟩;go_wp2_with fail;refine hK.out _ _ ?_ (fun hHeld=>?_)
      ·exact HK.out _ _ (by assumption) hb1
      clear hK K
      try simp only[Act.put,tk1,tk2,tk3,tk4,tk5,tk6]
      refine tkY 2 ?_ rfl ?_ ?_;rotate_left
      ·intro w hSw;(try dsimp only at hSw);go_simp
       all_goals with_reducible rfl
      try simp only[Act.put,tk1,tk2,tk3,tk4,tk5,tk6]
      refine tkY 3 ?_ rfl ?_ ?_;rotate_left
      ·intro w hSw;(try dsimp only at hSw);go_simp
       all_goals with_reducible rfl
      try simp only[Act.put,tk1,tk2,tk3,tk4,tk5,tk6]
      refine tkY 4 ?_ rfl ?_ ?_;rotate_left
      ·intro w hSw;(try dsimp only at hSw);go_simp
       all_goals with_reducible rfl
      try simp only[Act.put,tk1,tk2,tk3,tk4,tk5,tk6]
      refine tkY 5 ?_ rfl ?_ ?_;rotate_left
      ·intro w hSw;(try dsimp only at hSw);go_simp
       all_goals with_reducible rfl
      try simp only[Act.put,tk1,tk2,tk3,tk4,tk5,tk6]
      refine tkY 7 ?_ rfl ?_ ?_;rotate_left
      ·intro w hSw;(try dsimp only at hSw);go_simp
       all_goals with_reducible rfl
      try simp only[Act.put,tk1,tk2,tk3,tk4,tk5,tk6]
      refine tkY 8 ?_ rfl ?_ ?_;rotate_left
      ·intro w hSw;(try dsimp only at hSw);go_simp
       all_goals with_reducible rfl
      try simp only[Act.put,tk1,tk2,tk3,tk4,tk5,tk6]
      refine tkY 9 ?_ rfl ?_ ?_;rotate_left
      ·intro w hSw;(try dsimp only at hSw);go_simp
       all_goals with_reducible rfl
      try simp only[Act.put,tk1,tk2,tk3,tk4,tk5,tk6]
      refine wpAnyH_ready (rs:=[6]) (by kernel_rfl) (by simp) ?_;refine AllReadyH.cons rfl (fun K hK=>?_) AllReadyH.nil;go_simp;refine (HOA.out _ hHeld.2.2).mono ?_;rintro e w1 ⟨rfl,hb1⟩;go_wp2_with fail;refine hK.out _ _ ?_ (fun hHeld=>?_)
      ·exact HK.out _ _ (by assumption) hb1
      clear hK K
      try simp only[Act.put,tk1,tk2,tk3,tk4,tk5,tk6]
      refine wpAnyH_ready (rs:=[10]) (by kernel_rfl) (by simp) ?_;refine AllReadyH.cons rfl (fun K hK=>?_) AllReadyH.nil;go_simp;refine (HO0.out _ hHeld.2.2).mono ?_;rintro e w1 ⟨rfl,hb1⟩;go_wp2_with fail;refine hK.out _ _ ?_ (fun hHeld=>?_)
      ·exact HK.out _ _ (by assumption) hb1
      clear hK K
      try simp only[Act.put,tk1,tk2,tk3,tk4,tk5,tk6]
      refine tkY 11 ?_ rfl ?_ ?_;rotate_left
      ·intro w hSw;(try dsimp only at hSw);go_simp
       all_goals with_reducible rfl
      try simp only[Act.put,tk1,tk2,tk3,tk4,tk5,tk6]
      refine tkY 12 ?_ rfl ?_ ?_;rotate_left
      ·intro w hSw;(try dsimp only at hSw);go_simp
       all_goals with_reducible rfl
      try simp only[Act.put,tk1,tk2,tk3,tk4,tk5,tk6]
      refine tkY 13 ?_ rfl ?_ ?_;rotate_left
      ·intro w hSw;(try dsimp only at hSw);go_simp
       all_goals with_reducible rfl
      try simp only[Act.put,tk1,tk2,tk3,tk4,tk5,tk6]
      refine tkY 14 ?_ rfl ?_ ?_;rotate_left
      ·intro w hSw;(try dsimp only at hSw);go_simp
       all_goals with_reducible rfl
      try simp only[Act.put,tk1,tk2,tk3,tk4,tk5,tk6]
      refine wpAnyH_ready (rs:=[15]) (by kernel_rfl) (by simp) ?_;refine AllReadyH.cons rfl (fun K hK=>?_) AllReadyH.nil;go_simp;refine (HO1.out _ hHeld.2.2).mono ?_;rintro e w1 ⟨rfl,hb1⟩;go_wp2_with fail;refine hK.out _ _ ?_ (fun hHeld=>?_)
      ·exact HK.out _ _ (by assumption) hb1
      clear hK K
      try simp only[Act.put,tk1,tk2,tk3,tk4,tk5,tk6]
      refine tkY 16 ?_ rfl ?_ ?_;rotate_left
      ·intro w hSw;(try dsimp only at hSw);go_simp
       all_goals with_reducible rfl
      try simp only[Act.put,tk1,tk2,tk3,tk4,tk5,tk6]
      refine tkY 17 ?_ rfl ?_ ?_;rotate_left
      ·intro w hSw;(try dsimp only at hSw);go_simp
       all_goals with_reducible rfl
      try simp only[Act.put,tk1,tk2,tk3,tk4,tk5,tk6]
      refine tkY 18 ?_ rfl ?_ ?_;rotate_left
      ·intro w hSw;(try dsimp only at hSw);go_simp
       all_goals with_reducible rfl
      try simp only[Act.put,tk1,tk2,tk3,tk4,tk5,tk6]
      refine wpAnyH_done (by kernel_rfl) ?_ _;refine NoPanic.normal ?_;have HBE:=Lib.hid hHeld.2.2;clear hHeld hb1 HS HK;go_wp2
      go_roundg (5-(j+1))
      case measure=>omega
      case rel=>exact⟨j+1,by omega,by go_num,HBB.out.trans ((HB7.out.trans (HBE.out.mono HB7.out.size)).mono HBB.out.size)⟩
     ·go_wp2_with fail;refine wp_region_noPanic ?_;refine wp_region_held_drew (S:=fun w'=>(∀n,w'.cell? ⟨Cb,n,none⟩=([.slice Ap np cp,.slice Aq nq cq]:List Value)[n]?)∧Cb<w'.heap.size∧Below w9.heap.size w9 w') (by kernel_rfl) HS.out (fun hHeld=>?_);refine tkY 0 ?_ rfl ?_ ?_;rotate_left
      ·intro w hSw;(try dsimp only at hSw);go_simp
       all_goals with_reducible rfl
      try simp only[Act.put,tk1,tk2,tk3,tk4,tk5,tk6]
      refine wpAnyH_ready (rs:=[1]) (by kernel_rfl) (by simp) ?_;refine AllReadyH.cons rfl (fun K hK=>?_) AllReadyH.nil;go_simp;refine (HCK.out _ hHeld.2.2).mono ?_;rintro e w1 ⟨rfl,hb1⟩;go_wp2_with fail;refine hK.out _ _ ?_ (fun hHeld=>?_)
      ·exact HK.out _ _ (by assumption) hb1
      clear hK K
      try simp only[Act.put,tk1,tk2,tk3,tk4,tk5,tk6]
      refine tkY 2 ?_ rfl ?_ ?_;rotate_left
      ·intro w hSw;(try dsimp only at hSw);go_simp
       all_goals with_reducible rfl
      try simp only[Act.put,tk1,tk2,tk3,tk4,tk5,tk6]
      refine tkY 3 ?_ rfl ?_ ?_;rotate_left
      ·intro w hSw;(try dsimp only at hSw);go_simp
       all_goals with_reducible rfl
      try simp only[Act.put,tk1,tk2,tk3,tk4,tk5,tk6]
      refine tkY 4 ?_ rfl ?_ ?_;rotate_left
      ·intro w hSw;(try dsimp only at hSw);go_simp
       all_goals with_reducible rfl
      try simp only[Act.put,tk1,tk2,tk3,tk4,tk5,tk6]
      refine tkY 5 ?_ rfl ?_ ?_;rotate_left
      ·intro w hSw;(try dsimp only at hSw);go_simp
       all_goals with_reducible rfl
      try simp only[Act.put,tk1,tk2,tk3,tk4,tk5,tk6]
      refine tkY 7 ?_ rfl ?_ ?_;rotate_left
      ·intro w hSw;(try dsimp only at hSw);go_simp
       all_goals with_reducible rfl
      try simp only[Act.put,tk1,tk2,tk3,tk4,tk5,tk6]
      refine tkY 8 ?_ rfl ?_ ?_;rotate_left
      ·intro w hSw;(try dsimp only at hSw);go_simp
       all_goals with_reducible rfl
      try simp only[Act.put,tk1,tk2,tk3,tk4,tk5,tk6]
      refine tkY 9 ?_ rfl ?_ ?_;rotate_left
      ·intro w hSw;(try dsimp only at hSw);go_simp
       all_goals with_reducible rfl
      try simp only[Act.put,tk1,tk2,tk3,tk4,tk5,tk6]
      refine wpAnyH_ready (rs:=[6]) (by kernel_rfl) (by simp) ?_;refine AllReadyH.cons rfl (fun K hK=>?_) AllReadyH.nil;go_simp;refine (HOA.out _ hHeld.2.2).mono ?_;rintro e w1 ⟨rfl,hb1⟩;go_wp2_with fail;refine hK.out _ _ ?_ (fun hHeld=>?_)
      ·exact HK.out _ _ (by assumption) hb1
      clear hK K
      try simp only[Act.put,tk1,tk2,tk3,tk4,tk5,tk6]
      refine wpAnyH_ready (rs:=[10]) (by kernel_rfl) (by simp) ?_;refine AllReadyH.cons rfl (fun K hK=>?_) AllReadyH.nil;go_simp;refine (HO0.out _ hHeld.2.2).mono ?_;rintro e w1 ⟨rfl,hb1⟩;go_wp2_with fail;refine hK.out _ _ ?_ (fun hHeld=>?_)
      ·exact HK.out _ _ (by assumption) hb1
      clear hK K
      try simp only[Act.put,tk1,tk2,tk3,tk4,tk5,tk6]
      refine tkY 11 ?_ rfl ?_ ?_;rotate_left
      ·intro w hSw;(try dsimp only at hSw);go_simp
       all_goals with_reducible rfl
      try simp only[Act.put,tk1,tk2,tk3,tk4,tk5,tk6]
      refine tkY 12 ?_ rfl ?_ ?_;rotate_left
      ·intro w hSw;(try dsimp only at hSw);go_simp
       all_goals with_reducible rfl
      try simp only[Act.put,tk1,tk2,tk3,tk4,tk5,tk6]
      refine tkY 13 ?_ rfl ?_ ?_;rotate_left
      ·intro w hSw;(try dsimp only at hSw);go_simp
       all_goals with_reducible rfl
      try simp only[Act.put,tk1,tk2,tk3,tk4,tk5,tk6]
      refine tkY 14 ?_ rfl ?_ ?_;rotate_left
      ·intro w hSw;(try dsimp only at hSw);go_simp
       all_goals with_reducible rfl
      try simp only[Act.put,tk1,tk2,tk3,tk4,tk5,tk6]
      refine wpAnyH_ready (rs:=[15]) (by kernel_rfl) (by simp) ?_;refine AllReadyH.cons rfl (fun K hK=>?_) AllReadyH.nil;go_simp;refine (HO1.out _ hHeld.2.2).mono ?_;rintro e w1 ⟨rfl,hb1⟩;go_wp2_with fail;refine hK.out _ _ ?_ (fun hHeld=>?_)
      ·exact HK.out _ _ (by assumption) hb1
      clear hK K
      try simp only[Act.put,tk1,tk2,tk3,tk4,tk5,tk6]
      refine tkY 16 ?_ rfl ?_ ?_;rotate_left
      ·intro w hSw;(try dsimp only at hSw);go_simp
       all_goals with_reducible rfl
      try simp only[Act.put,tk1,tk2,tk3,tk4,tk5,tk6]
      refine tkY 17 ?_ rfl ?_ ?_;rotate_left
      ·intro w hSw;(try dsimp only at hSw);go_simp
       all_goals with_reducible rfl
      try simp only[Act.put,tk1,tk2,tk3,tk4,tk5,tk6]
      refine tkY 18 ?_ rfl ?_ ?_;rotate_left
      ·intro w hSw;(try dsimp only at hSw);go_simp
       all_goals with_reducible rfl
      try simp only[Act.put,tk1,tk2,tk3,tk4,tk5,tk6]
      refine wpAnyH_done (by kernel_rfl) ?_ _;refine NoPanic.normal ?_;have HBE:=Lib.hid hHeld.2.2;clear hHeld hb1 HS HK;go_wp2
      go_roundg (5-(j+1))
      case measure=>omega
      case rel=>exact⟨j+1,by omega,by go_num,HBB.out.trans ((HB7.out.trans (HBE.out.mono HB7.out.size)).mono HBB.out.size)⟩
   ·have hz2:(z !=0)=true:=by simp[hz]
    clear HPT hz hkb HE7;go_wp2
    go_roundg (5-(j+1))
    case measure=>omega
    case rel=>exact⟨j+1,by omega,by go_num,HBB.out.trans (HB7.out.mono HBB.out.size)⟩
  ·have hx3:decide ((j:Int)<5)=false:=by rw[decide_eq_false_iff_not];omega
   have HBR:=Lib.hid hbr;clear hbr;go_wp2;go_ret;exact⟨rfl,HB6.out.trans (HBR.out.mono HB6.out.size)⟩
end Go.Proofs.YtbicehdehiakgaaGreatDoor
namespace Go.Proofs.YtbicehdehiakgaaGreatDoor
open Go.ChangeShapes Go.WideShapes Go.ChangeAt Go.RowKit
theorem okWide_arr {P:Program} {w:World} {r:Reach} {base:Nat} {t:TypeId} {n:Nat} {e:TypeId} {v:Value} (ht:P.underlying t=some (.array n e)) (h:Value.okWide P w r base t v):∃cs,v=.agg cs∧cs.size=P.cellsOf t:=by
 simp only[Value.okWide,ht] at h;obtain⟨cs,h1,h2,_⟩:=h;exact⟨cs,h1,h2⟩
theorem len2t {α:Type}:∀{l:List α},l.length=2→∃a b,l=[a,b]
 |[a,b],_=>⟨a,b,rfl⟩
set_option maxRecDepth 100000 in
theorem zz_of_cell {H:Type} {enc:TypeId × Value→H} {W:World} {base:Nat} {spare:Nat→Bool} {held:Bool} {v:Value} {fuel:Nat} {x:DataW H × List MemPlace} (hf:DataW.trod enc Tryz.prog W base spare held fuel 27 [v]=some x):
  ∃l A n c,v=.slice A n c∧Zz W l A n c:=by
 have k1:Tryz.prog.cellsOf 3=1:=by kernel_rfl
 rcases open_ints Tryz.underlying27 Tryz.underlying3 k1 hf with⟨hcs,_⟩|⟨a,n,cap,zs,hcs,hb,hl,hm,hzl,hx,hi,hw⟩
 ·injection hcs with hcs _;subst hcs;exact⟨[],none,0,0,rfl,rfl,Nat.zero_le _,.inl rfl,fun x hx=>by cases hx⟩
 ·injection hcs with hcs _;subst hcs;have hlz:n≤zs.length:=by rw[hzl];split<;>omega
  refine⟨zs.take n,some a,n,cap,rfl,by rw[List.length_take];omega,Nat.le_trans hl hm,?_,fun x hx=>i64_in64 (hw x (List.mem_of_mem_take hx))⟩;by_cases hn:n=0
  ·subst hn;exact .inl rfl
  ·have h00:=hi 0 (by omega);obtain⟨b,off,spot⟩:=a
   have hspot:spot=none:=by
    have:=World.cell?_spot h00;simpa [Addr.add] using this
   subst hspot;refine .inr ⟨b,off,rfl,?_,fun i hil=>?_⟩
   ·rw[add_nn] at h00;exact cell_lt h00
   ·rw[Zs_length,List.length_take] at hil;have h1:=hi i (by omega);rw[add_nn] at h1;rw[h1]
    have:(Zs (zs.take n))[i]'(by rw[Zs_length,List.length_take];exact hil)=.int .i64 (zs.getD i 0):=by
     simp only[Zs,List.getElem_map,List.getElem_take]
     rw[List.getD_eq_getElem?_getD,List.getElem?_eq_getElem (by omega)];rfl
    rw[this]
set_option maxRecDepth 100000 in
theorem zz2_of_trod {H:Type} {enc:TypeId × Value→H} {W:World} {base:Nat} {spare:Nat→Bool} {held:Bool} {r:Reach} {b0:Nat} {v:Value} {d:DataW H} {p:List MemPlace} (hv:Value.okWide Tryz.prog W r b0 50 v) (h:DataW.Trod enc Tryz.prog W base spare held 50 v d p):
  ∃l A n c m B k e,v=.agg #[.slice A n c,.slice B k e]∧Zz W l A n c∧Zz W m B k e:=by
 obtain⟨fuel,hf⟩:=h;have k1:Tryz.prog.cellsOf 27=1:=by kernel_rfl
 have k2:Tryz.prog.cellsOf 50=2:=by kernel_rfl
 obtain⟨cs,rfl,hsz⟩:=okWide_arr Tryz.underlying50 hv;obtain⟨cs⟩:=cs;have hcl:cs.length=2:=by rw[←k2];exact hsz
 obtain⟨a0,a1,rfl⟩:=len2t hcl;have hf':DataW.trod enc Tryz.prog W base spare held fuel 50 [a0,a1]=some (d,p):=hf;obtain⟨xs,m,_,ex,hxc,hxl,hx⟩:=DataW.trod_array Tryz.underlying50 hf';rw[k1] at hx;have g0:=hx 0 (by omega);have g1:=hx 1 (by omega);obtain⟨x0,x1,rfl⟩:=len2t hxl;simp only[Nat.zero_mul,Nat.one_mul,Nat.mul_one,List.drop_zero,List.take_succ_cons,List.take_zero,List.drop_succ_cons,List.getElem?_cons_zero,List.getElem?_cons_succ] at g0 g1;obtain⟨l,A,n,c,rfl,z0⟩:=zz_of_cell g0;obtain⟨m,B,k,e,rfl,z1⟩:=zz_of_cell g1;exact⟨l,A,n,c,m,B,k,e,rfl,z0,z1⟩
theorem exprSubsts_types:∀t∈Tryz.f9.params.toList,Tryz.prog.readableRec t=true∧t<Tryz.prog.types.size:=by
 have hall:([50,5,22].all fun t=>Tryz.prog.readableRec t&&decide (t<Tryz.prog.types.size))=true:=by kernel_rfl
 rw[Tryz.params9];intro t ht;have hm:t∈[50,5,22]:=by simpa using ht
 simpa using List.all_eq_true.1 hall t hm
set_option maxRecDepth 100000 in
theorem exprSubsts_lifted (os:Os) (started:os.Started) (H:Type) (enc:TypeId × Value→H):
  ReturnsInHanded {} Tryz.checked os 9 .any (fun w args=>(Rows.exprSubstsSpec.pre enc Tryz.prog Tryz.f9 [] false w args∧laidMetH Tryz.prog lds w)∧sizedMet enc Tryz.prog Tryz.f9 (OpenSpec.ofChange Rows.exprSubstsSpec) false w args)
   (Rows.exprSubstsSpec.post enc Tryz.prog Tryz.f9 false true false false):=by
 refine returns_shaped (C:=Tryz.checked) (X:=fun w _=>laidMetH Tryz.prog lds w) (fun _ _ _ hh h=>h.of_heap hh) Tryz.own started (by kernel_rfl) Tryz.func9
  (ChangeSpec.witness_shaped (enc:=enc) (C:=Tryz.checked) (os:=os) (X:=fun w _=>laidMetH Tryz.prog lds w) false (World.laidAll Tryz.prog os lds) #[.agg #[.slice none 0 0,.slice none 0 0],.int .u8 0,.slice none 0 0] 8 (World.laidAll_os _ _ _)
    (World.shaped_of_ZipB (by kernel_rfl) (by kernel_rfl)) (by kernel_rfl) (by kernel_rfl) (by kernel_rfl) (world_met os _)) ?_
 intro W base args ds gs before hval0 hW hL hsh;have hval:∀(j:Nat) t v,Tryz.f9.params[j]?=some t→args[j]?=some v→Value.okWide Tryz.prog W .any base t v:=hval0;have hW':DataW.Whole enc Tryz.prog Tryz.f9.params.toList Rows.exprSubstsSpec.vars false W args.toList ds gs before:=hW;obtain⟨p,q,hA0,hV,rfl,_,_⟩:=hW;have hA:DataW.TrodAll enc Tryz.prog W 0 (fun _=>true) true Tryz.f9.params.toList args.toList ds p:=hA0;rw[Tryz.params9] at hA hval;obtain⟨v0,v1,v2,d0,d1,d2,p0,p1,p2,rfl,rfl,rfl,h0,h1,h2⟩:=trodAll_three hA;obtain⟨rfl,rfl⟩:=trodVars_none hV;obtain⟨l,A0,n0,c0,m,A1,n1,c1,rfl,hE0,hE1⟩:=zz2_of_trod (hval 0 50 v0 rfl rfl) h0;obtain⟨i,rfl,rfl,rfl,wi⟩:=open_int Tryz.underlying5 (hval 1 5 v1 rfl rfl) h1;obtain⟨es,A2,n2,c2,rfl,hE2⟩:=es_of_trod (hval 2 22 v2 rfl rfl) h2;obtain⟨i0,i1⟩:=u8_in wi;obtain⟨k,rfl⟩:∃k:Nat,i=k:=⟨i.toNat,by omega⟩
 refine (exprSubsts_core l m k es A0 A1 A2 n0 c0 n1 c1 n2 c2 W (laidE_of hL hsh) hE0 hE1 hE2 (by omega)).mono fun e W' ⟨he,hb⟩=>?_
 subst he;exact⟨_,rfl,post_true (H:=H) (enc:=enc) (P:=Tryz.prog) (f:=Tryz.f9) (s:=Rows.exprSubstsSpec) (tb:=4) Tryz.laidOut rfl rfl rfl Tryz.underlying4 exprSubsts_types hW' hb⟩
theorem exprSubsts_holds:Rows.ExprSubstsSaid:=
 OpenClaim.holds_of_wide 9 Tryz.f9 rfl rfl rfl rfl rfl rfl rfl ⟨rfl,rfl,rfl,rfl,rfl⟩ rfl rfl rfl rfl rfl (by kernel_rfl) Tryz.func9 (by kernel_rfl)
  (of_decide_eq_true (by kernel_rfl)) (by unfold Func.isWrapper;first|(rw[if_pos (by decide+kernel)];kernel_rfl)|(rw[if_neg (by decide+kernel)];exact⟨rfl,rfl⟩))
  (fun os started H enc _=>exprSubsts_lifted os started H enc)
theorem exprSubsts_card:Rows.ExprSubstsCardSaid:=
 Claim7.holds_tied_plain_at .later [] [.data,.data,.data,.data,.sentinel,.sentinel,.widerDeep,.pinned] true Rows.exprSubstsCard.stood.harness true
  exprSubsts_holds (fun _ h=>by cases h) (by kernel_rfl) (fun _ h=>by cases h) exprSubsts_row_tie rfl ⟨rfl,rfl⟩ (by kernel_rfl) rfl
  (fun f fn hf hfn=>by
    obtain rfl:f=9:=Option.some.inj ((show Tryz.prog.funcNamed "tithing/tithinglaw07.ExprSubsts" =some 9 by kernel_rfl).symm.trans hf) |>.symm
    obtain rfl:fn=Tryz.f9:=(Option.some.inj (Tryz.func9.symm.trans hfn)).symm
    exact⟨by kernel_rfl,fun j t ht=>by
     rw[Tryz.params9] at ht;have hm:t∈[50,5,22]:=by simpa using Array.mem_of_getElem? ht
     have hall:([50,5,22].all fun u=> !Tryz.prog.wantsStandIn u)=true:=by kernel_rfl
     exact (show Tryz.prog.wantsStandIn t=false by simpa using List.all_eq_true.1 hall t hm)⟩)
  (by kernel_rfl)
end Go.Proofs.YtbicehdehiakgaaGreatDoor
