/- A part of the proof: K5 K8. -/
import Derived.Test.YtfajelpcfnfjkaaGreatDoorA00
import Derived.Test.YtfajelpcfnfjkaaGreatDoorA17
import Derived.Test.YtfajelpcfnfjkaaGreatDoorA24
set_option linter.unusedVariables false
set_option linter.unusedSimpArgs false
namespace Go.Proofs.YtfajelpcfnfjkaaGreatDoor
open Go.RowKit
theorem drew2_cell (W:World) (a:Addr):W.drew.drew.cell? a=W.cell? a:=rfl
def prodT (s:Int) (a b:Ty):Ty:=⟨false,a.money+s*b.money,a.days+s*b.days⟩
set_option maxHeartbeats 3200000 in
theorem kProd_any (own a b':Ty) (s:Int) (A:Option Addr) (c fb:Nat) (w:World) (hs:s=1∨s= -1) (ha:rightB a=true) (hb':rightB b'=true) (hr:Rd w A (tys [a,b'])) (hc:2≤c) (hfb:Blk w fb 3 [.int .i64 s]):Calls Tryz.prog 188 #[own.v,.slice A 2 c,.pointer (some ⟨fb,0,none⟩)] w fun e w'=>e=.returned (.tuple #[(prodT s a b').v,.bool (!a.truth&&(!b'.truth&&unitB (prodT s a b').money (prodT s a b').days))])∧Below w.heap.size w w':=by
 obtain⟨a1,a2,a3,a4⟩:=rightB_rng ha;obtain⟨c1,c2,c3,c4⟩:=rightB_rng hb';clear ha hb';obtain⟨b,off,rfl,hat⟩:=hr.tyAt (by simp);obtain⟨tr,m,d⟩:=own;have hfr:=Fr2.new w tr m d;obtain⟨W,hW⟩:∃W,W=(w.alloc (.cells #[.bool tr,.int .i64 m,.int .i64 d] 40)).alloc (.cells #[.bool false,.int .i64 0,.int .i64 0] 40):=⟨_,rfl⟩
 obtain⟨B,hB⟩:∃B,B=w.heap.size:=⟨_,rfl⟩
 rw[←hW,←hB] at hfr;have q0:=(hat 0 (by simp)).below hfr.w;simp only[List.getElem_cons_zero,List.getElem_cons_succ,Nat.zero_mul,Nat.add_zero,Nat.one_mul] at q0;have q1:=(hat 1 (by simp)).below hfr.w;simp only[List.getElem_cons_zero,List.getElem_cons_succ,Nat.zero_mul,Nat.add_zero,Nat.one_mul] at q1;have hfc:=(hfb.below hfr.w hfb.lt).cells;have hltf:=(hfb.below hfr.w hfb.lt).lt;have hnf:¬(B+1=fb):=by have:=hfb.lt;omega
 have HF:=Lib.hid hfr;have HBB:=Lib.hid hB;have hbB:b<B:=by rw[hB];exact (hat 0 (by simp)).lt
 have hne:¬(b=B+1):=by omega
 have hne2:¬(B+1=b):=by omega
 have hne3:¬(b=B):=by omega
 obtain⟨at_,am,ad⟩:=a;have HQ0:=Lib.hid (q0.below (drewN_below W.heap.size W 1));obtain⟨hlt0,x00,x01,x02⟩:=q0;obtain⟨bt,bm,bd⟩:=b';have HQ1:=Lib.hid (q1.below (drewN_below W.heap.size W 1));obtain⟨hlt1,x10,x11,x12⟩:=q1;have hcr:=hfr.r.cells;have hfR:=hfr.r.froz;have hco:=hfr.o.cells;unfold Ty.v;simp only at x00 x01 x02 x10 x11 x12⊢;clear hr hat hfr hfb hco;simp only at a1 a2 a3 a4 c1 c2 c3 c4;obtain⟨pm,hpm⟩:∃p,p=am+s*bm:=⟨_,rfl⟩
 obtain⟨pd,hpd⟩:∃p,p=ad+s*bd:=⟨_,rfl⟩
 have hw1:IntKind.i64.wrap (s*bm)=s*bm:=IntWalk.i64_in _ (by rcases hs with rfl|rfl<;>omega);have hw2:IntKind.i64.wrap (s*bd)=s*bd:=IntWalk.i64_in _ (by rcases hs with rfl|rfl<;>omega);have hw3:IntKind.i64.wrap (am+s*bm)=pm:=by rw[hpm];exact IntWalk.i64_in _ (by rcases hs with rfl|rfl<;>omega)
 have hw4:IntKind.i64.wrap (ad+s*bd)=pd:=by rw[hpd];exact IntWalk.i64_in _ (by rcases hs with rfl|rfl<;>omega)
 unfold prodT;simp only[←hpm,←hpd]
 have hya:∀o,Below W.heap.size W (W.alloc o):=fun o=>(Below.refl _ _).alloc (Nat.le_refl _) o
 have z00:∀o,(W.alloc o).cell? ⟨b,off,none⟩=some (.bool at_):=fun o=>((hya o).cell hlt0).trans x00
 have z10:∀o,(W.alloc o).cell? ⟨b,off+3,none⟩=some (.bool bt):=fun o=>((hya o).cell hlt0).trans x10
 have z01:∀o,(W.alloc o).cell? ⟨b,off+1,none⟩=some (.int .i64 am):=fun o=>((hya o).cell hlt0).trans x01
 have z02:∀o,(W.alloc o).cell? ⟨b,off+2,none⟩=some (.int .i64 ad):=fun o=>((hya o).cell hlt0).trans x02
 have z11:∀o,(W.alloc o).cell? ⟨b,off+3+1,none⟩=some (.int .i64 bm):=fun o=>((hya o).cell hlt0).trans x11
 have z12:∀o,(W.alloc o).cell? ⟨b,off+3+2,none⟩=some (.int .i64 bd):=fun o=>((hya o).cell hlt0).trans x12
 have zf:∀o,(W.alloc o).cell? ⟨fb,0,none⟩=some (.int .i64 s):=fun o=>((hya o).cell hltf).trans (hfc 0)
 clear hs a1 a2 a3 a4 c1 c2 c3 c4 hpm hpd hya;have HSZ:Hid (W.heap.size=B+2):=by show _=_;rw[hW,World.size_alloc,World.size_alloc,hB]
 go_enter Tryz.func188,Tryz.ntmps188
 go_upto_region 1 with fail
 simp only[←hW,←hB]
 clear hW hB;refine wp_region_noPanic ?_;refine wp_region_held_drew (S:=fun w'=>w'.cell? ⟨b,off,none⟩=some (.bool at_)∧w'.cell? ⟨b,off+1,none⟩=some (.int .i64 am)∧w'.cell? ⟨b,off+2,none⟩=some (.int .i64 ad)∧w'.cell? ⟨b,off+3,none⟩=some (.bool bt)∧w'.cell? ⟨b,off+3+1,none⟩=some (.int .i64 bm)∧w'.cell? ⟨b,off+3+2,none⟩=some (.int .i64 bd)∧w'.cell? ⟨fb,0,none⟩=some (.int .i64 s)) (by kernel_rfl) ⟨x00,x01,x02,x10,x11,x12,hfc 0⟩ (fun hHeld=>?_);refine tkY 0 ?_ rfl ?_ ?_;rotate_left
 ·intro w hSw;(try dsimp only at hSw);go_simp
  all_goals with_reducible rfl
 try simp only[Act.put,tk1,tk2,tk3,tk4,tk5,tk6]
 refine tkY 1 ?_ rfl ?_ ?_;rotate_left
 ·intro w hSw;(try dsimp only at hSw);go_simp
  all_goals with_reducible rfl
 try simp only[Act.put,tk1,tk2,tk3,tk4,tk5,tk6]
 refine tkY 2 ?_ rfl ?_ ?_;rotate_left
 ·intro w hSw;(try dsimp only at hSw);go_simp
  all_goals with_reducible rfl
 try simp only[Act.put,tk1,tk2,tk3,tk4,tk5,tk6]
 refine tkY 3 ?_ rfl ?_ ?_;rotate_left
 ·intro w hSw;(try dsimp only at hSw);go_simp
  all_goals with_reducible rfl
 try simp only[Act.put,tk1,tk2,tk3,tk4,tk5,tk6]
 refine tkY 4 ?_ rfl ?_ ?_;rotate_left
 ·intro w hSw;(try dsimp only at hSw);go_simp
  all_goals with_reducible rfl
 try simp only[Act.put,tk1,tk2,tk3,tk4,tk5,tk6]
 refine tkY 5 ?_ rfl ?_ ?_;rotate_left
 ·intro w hSw;(try dsimp only at hSw);go_simp
  all_goals with_reducible rfl
 try simp only[Act.put,tk1,tk2,tk3,tk4,tk5,tk6]
 refine tkY 6 ?_ rfl ?_ ?_;rotate_left
 ·intro w hSw;(try dsimp only at hSw);go_simp
  all_goals with_reducible rfl
 try simp only[Act.put,tk1,tk2,tk3,tk4,tk5,tk6]
 refine tkY 7 ?_ rfl ?_ ?_;rotate_left
 ·intro w hSw;(try dsimp only at hSw);go_simp
  all_goals with_reducible rfl
 try simp only[Act.put,tk1,tk2,tk3,tk4,tk5,tk6]
 refine tkY 8 ?_ rfl ?_ ?_;rotate_left
 ·intro w hSw;(try dsimp only at hSw);go_simp
  all_goals with_reducible rfl
 try simp only[Act.put,tk1,tk2,tk3,tk4,tk5,tk6]
 refine tkY 9 ?_ rfl ?_ ?_;rotate_left
 ·intro w hSw;(try dsimp only at hSw);go_simp
  all_goals with_reducible rfl
 try simp only[Act.put,tk1,tk2,tk3,tk4,tk5,tk6]
 refine tkY 10 ?_ rfl ?_ ?_;rotate_left
 ·intro w hSw;(try dsimp only at hSw);go_simp
  all_goals with_reducible rfl
 try simp only[Act.put,tk1,tk2,tk3,tk4,tk5,tk6]
 refine tkY 11 ?_ rfl ?_ ?_;rotate_left
 ·intro w hSw;(try dsimp only at hSw);go_simp
  all_goals with_reducible rfl
 try simp only[Act.put,tk1,tk2,tk3,tk4,tk5,tk6]
 refine tkY 12 ?_ rfl ?_ ?_;rotate_left
 ·intro w hSw;(try dsimp only at hSw);go_simp
  all_goals with_reducible rfl
 try simp only[Act.put,tk1,tk2,tk3,tk4,tk5,tk6]
 refine tkY 13 ?_ rfl ?_ ?_;rotate_left
 ·intro w hSw;(try dsimp only at hSw);go_simp
  all_goals with_reducible rfl
 try simp only[Act.put,tk1,tk2,tk3,tk4,tk5,tk6]
 refine tkY 14 ?_ rfl ?_ ?_;rotate_left
 ·intro w hSw;(try dsimp only at hSw);go_simp
  all_goals with_reducible rfl
 try simp only[Act.put,tk1,tk2,tk3,tk4,tk5,tk6]
 refine tkY 15 ?_ rfl ?_ ?_;rotate_left
 ·intro w hSw;(try dsimp only at hSw);go_simp
  all_goals with_reducible rfl
 try simp only[Act.put,tk1,tk2,tk3,tk4,tk5,tk6]
 refine tkY 16 ?_ rfl ?_ ?_;rotate_left
 ·intro w hSw;(try dsimp only at hSw);go_simp
  all_goals with_reducible rfl
 try simp only[Act.put,tk1,tk2,tk3,tk4,tk5,tk6]
 refine tkY 17 ?_ rfl ?_ ?_;rotate_left
 ·intro w hSw;(try dsimp only at hSw);go_simp
  all_goals with_reducible rfl
 try simp only[Act.put,tk1,tk2,tk3,tk4,tk5,tk6]
 refine tkY 18 ?_ rfl ?_ ?_;rotate_left
 ·intro w hSw;(try dsimp only at hSw);go_simp
  all_goals with_reducible rfl
 try simp only[Act.put,tk1,tk2,tk3,tk4,tk5,tk6]
 refine tkY 19 ?_ rfl ?_ ?_;rotate_left
 ·intro w hSw;(try dsimp only at hSw);go_simp
  all_goals with_reducible rfl
 try simp only[Act.put,tk1,tk2,tk3,tk4,tk5,tk6]
 refine tkY 20 ?_ rfl ?_ ?_;rotate_left
 ·intro w hSw;(try dsimp only at hSw);go_simp
  all_goals with_reducible rfl
 try simp only[Act.put,tk1,tk2,tk3,tk4,tk5,tk6]
 refine tkY 21 ?_ rfl ?_ ?_;rotate_left
 ·intro w hSw;(try dsimp only at hSw);go_simp
  all_goals with_reducible rfl
 try simp only[Act.put,tk1,tk2,tk3,tk4,tk5,tk6]
 refine tkY 22 ?_ rfl ?_ ?_;rotate_left
 ·intro w hSw;(try dsimp only at hSw);go_simp
  all_goals with_reducible rfl
 try simp only[Act.put,tk1,tk2,tk3,tk4,tk5,tk6]
 refine tkY 23 ?_ rfl ?_ ?_;rotate_left
 ·intro w hSw;(try dsimp only at hSw);go_simp
  all_goals with_reducible rfl
 try simp only[Act.put,tk1,tk2,tk3,tk4,tk5,tk6]
 refine tkY 24 ?_ rfl ?_ ?_;rotate_left
 ·intro w hSw;(try dsimp only at hSw);go_simp
  all_goals with_reducible rfl
 try simp only[Act.put,tk1,tk2,tk3,tk4,tk5,tk6]
 refine tkY 25 ?_ rfl ?_ ?_;rotate_left
 ·intro w hSw;(try dsimp only at hSw);go_simp
  all_goals with_reducible rfl
 try simp only[Act.put,tk1,tk2,tk3,tk4,tk5,tk6]
 refine tkY 26 ?_ rfl ?_ ?_;rotate_left
 ·intro w hSw;(try dsimp only at hSw);go_simp
  all_goals with_reducible rfl
 try simp only[Act.put,tk1,tk2,tk3,tk4,tk5,tk6]
 refine tkY 27 ?_ rfl ?_ ?_;rotate_left
 ·intro w hSw;(try dsimp only at hSw);go_simp
  all_goals with_reducible rfl
 try simp only[Act.put,tk1,tk2,tk3,tk4,tk5,tk6]
 refine wpAnyH_ready (rs:=[28]) (by kernel_rfl) (by simp) ?_;refine AllReadyH.cons rfl (fun K hK=>?_) AllReadyH.nil;go_simp
 skip
 go_wp2_with fail;refine hK.out _ _ ?_ (fun hHeld=>?_)
 ·exact⟨z00 _,z01 _,z02 _,z10 _,z11 _,z12 _,zf _⟩
 clear hK K
 try simp only[Act.put,tk1,tk2,tk3,tk4,tk5,tk6]
 refine wpAnyH_ready (rs:=[29]) (by kernel_rfl) (by simp) ?_;refine AllReadyH.cons rfl (fun K hK=>?_) AllReadyH.nil;go_simp
 skip
 go_wp2_with fail;refine hK.out _ _ ?_ (fun hHeld=>?_)
 ·exact⟨z00 _,z01 _,z02 _,z10 _,z11 _,z12 _,zf _⟩
 clear hK K
 try simp only[Act.put,tk1,tk2,tk3,tk4,tk5,tk6]
 refine wpAnyH_done (by kernel_rfl) ?_ _;refine NoPanic.normal ?_
 go_upto_region 2 with fail
 obtain⟨W3,hW3⟩:∃W3,W3=W.alloc (.cells #[.bool false,.int .i64 pm,.int .i64 pd] 40):=⟨_,rfl⟩
 have HP3:Hid (Blk (W3.drewN 2) (B+2) 40 [.bool false,.int .i64 pm,.int .i64 pd]):=by show Blk _ _ _ _;rw[hW3,←HSZ.out];exact (Blk.new W _ _).drewN 2
 have HR3:Hid (Blk (W3.drewN 2) (B+1) 40 [.bool false,.int .i64 0,.int .i64 0]):=by show Blk _ _ _ _;rw[hW3];exact (HF.out.r.alloc _).drewN 2
 have HBW:Hid (Below w.heap.size w (W3.drewN 2)):=by show Below _ _ _;rw[hW3];exact below_drewN (bstep HF.out.w ((Below.refl _ _).alloc (Nat.le_refl _) _)) 2
 have y00:W3.cell? ⟨b,off,none⟩=some (.bool at_):=by rw[hW3];exact z00 _
 have y10:W3.cell? ⟨b,off+3,none⟩=some (.bool bt):=by rw[hW3];exact z10 _
 have HLT:Hid (b<W3.heap.size):=by show _<_;rw[hW3,World.size_alloc];exact Nat.lt_succ_of_lt hlt0
 simp only[←hW3,HSZ.out]
 clear hW3 z01 z02 z11 z12 z00 z10 zf hw1 hw2 hw3 hw4 x00 x01 x02 x10 x11 x12 hcr hfR hfc;have hcr:∀i,W3.cell? ⟨B+1,i,none⟩=_:=HR3.out.cells;have hfR:∀i,W3.frozen? ⟨B+1,i,none⟩=_:=HR3.out.froz;have hpc:∀i,W3.cell? ⟨B+2,i,none⟩=_:=HP3.out.cells;have hnp:¬(B+1=B+2):=by omega
 cases at_
 ·cases bt
  ·skip
   refine wp_region_noPanic ?_;refine wp_region_held_drew (S:=fun w'=>w'.cell? ⟨b,off,none⟩=some (.bool false)∧w'.cell? ⟨b,off+3,none⟩=some (.bool false)∧w'.cell? ⟨B+2,0,none⟩=some (.bool false)∧w'.cell? ⟨B+2,1,none⟩=some (.int .i64 pm)∧w'.cell? ⟨B+2,2,none⟩=some (.int .i64 pd)) (by kernel_rfl) ⟨y00,y10,hpc 0,hpc 1,hpc 2⟩ (fun hHeld=>?_);refine tkY 0 ?_ rfl ?_ ?_;rotate_left
   ·intro w hSw;(try dsimp only at hSw);go_simp
    all_goals with_reducible rfl
   try simp only[Act.put,tk1,tk2,tk3,tk4,tk5,tk6]
   refine tkY 1 ?_ rfl ?_ ?_;rotate_left
   ·intro w hSw;(try dsimp only at hSw);go_simp
    all_goals with_reducible rfl
   try simp only[Act.put,tk1,tk2,tk3,tk4,tk5,tk6]
   refine tkY 2 ?_ rfl ?_ ?_;rotate_left
   ·intro w hSw;(try dsimp only at hSw);go_simp
    all_goals with_reducible rfl
   try simp only[Act.put,tk1,tk2,tk3,tk4,tk5,tk6]
   refine tkY 3 ?_ rfl ?_ ?_;rotate_left
   ·intro w hSw;(try dsimp only at hSw);go_simp
    all_goals with_reducible rfl
   try simp only[Act.put,tk1,tk2,tk3,tk4,tk5,tk6]
   refine tkY 4 ?_ rfl ?_ ?_;rotate_left
   ·intro w hSw;(try dsimp only at hSw);go_simp
    all_goals with_reducible rfl
   try simp only[Act.put,tk1,tk2,tk3,tk4,tk5,tk6]
   refine tkY 5 ?_ rfl ?_ ?_;rotate_left
   ·intro w hSw;(try dsimp only at hSw);go_simp
    all_goals with_reducible rfl
   try simp only[Act.put,tk1,tk2,tk3,tk4,tk5,tk6]
   refine tkY 6 ?_ rfl ?_ ?_;rotate_left
   ·intro w hSw;(try dsimp only at hSw);go_simp
    all_goals with_reducible rfl
   try simp only[Act.put,tk1,tk2,tk3,tk4,tk5,tk6]
   refine tkY 7 ?_ rfl ?_ ?_;rotate_left
   ·intro w hSw;(try dsimp only at hSw);go_simp
    all_goals with_reducible rfl
   try simp only[Act.put,tk1,tk2,tk3,tk4,tk5,tk6]
   refine tkY 8 ?_ rfl ?_ ?_;rotate_left
   ·intro w hSw;(try dsimp only at hSw);go_simp
    all_goals with_reducible rfl
   try simp only[Act.put,tk1,tk2,tk3,tk4,tk5,tk6]
   refine tkY 9 ?_ rfl ?_ ?_;rotate_left
   ·intro w hSw;(try dsimp only at hSw);go_simp
    all_goals with_reducible rfl
   try simp only[Act.put,tk1,tk2,tk3,tk4,tk5,tk6]
   refine tkY 10 ?_ rfl ?_ ?_;rotate_left
   ·intro w hSw;(try dsimp only at hSw);go_simp
    all_goals with_reducible rfl
   try simp only[Act.put,tk1,tk2,tk3,tk4,tk5,tk6]
   refine tkY 11 ?_ rfl ?_ ?_;rotate_left
   ·intro w hSw;(try dsimp only at hSw);go_simp
    all_goals with_reducible rfl
   try simp only[Act.put,tk1,tk2,tk3,tk4,tk5,tk6]
   refine tkY 12 ?_ rfl ?_ ?_;rotate_left
   ·intro w hSw;(try dsimp only at hSw);go_simp
    all_goals with_reducible rfl
   try simp only[Act.put,tk1,tk2,tk3,tk4,tk5,tk6]
   refine tkY 13 ?_ rfl ?_ ?_;rotate_left
   ·intro w hSw;(try dsimp only at hSw);go_simp
    all_goals with_reducible rfl
   try simp only[Act.put,tk1,tk2,tk3,tk4,tk5,tk6]
   refine tkY 14 ?_ rfl ?_ ?_;rotate_left
   ·intro w hSw;(try dsimp only at hSw);go_simp
    all_goals with_reducible rfl
   try simp only[Act.put,tk1,tk2,tk3,tk4,tk5,tk6]
   refine tkY 15 ?_ rfl ?_ ?_;rotate_left
   ·intro w hSw;(try dsimp only at hSw);go_simp
    all_goals with_reducible rfl
   try simp only[Act.put,tk1,tk2,tk3,tk4,tk5,tk6]
   refine wpAnyH_ready (rs:=[16]) (by kernel_rfl) (by simp) ?_;refine AllReadyH.cons rfl (fun K hK=>?_) AllReadyH.nil;go_simp
   go_at_call 55
   refine (kUnit_any pm pd _).mono ?_;rintro e w5 ⟨rfl,hb5⟩;have hkr:=HR3.out.below hb5 HR3.out.lt;have hcr:=hkr.cells;have hfR:=hkr.froz;have HBE:=Lib.hid (bstep HBW.out hb5);have hy0:=(hb5.cell HLT.out).trans y00;have hy1:=(hb5.cell HLT.out).trans y10;have hp5:=HP3.out.below hb5 HP3.out.lt;go_wp2_with fail;refine hK.out _ _ ?_ (fun hHeld=>?_)
   ·exact⟨hy0,hy1,hp5.cells 0,hp5.cells 1,hp5.cells 2⟩
   clear hK K
   try simp only[Act.put,tk1,tk2,tk3,tk4,tk5,tk6]
   refine tkY 17 ?_ rfl ?_ ?_;rotate_left
   ·intro w hSw;(try dsimp only at hSw);go_simp
    all_goals with_reducible rfl
   try simp only[Act.put,tk1,tk2,tk3,tk4,tk5,tk6]
   refine wpAnyH_ready (rs:=[18]) (by kernel_rfl) (by simp) ?_;refine AllReadyH.cons rfl (fun K hK=>?_) AllReadyH.nil;go_simp;obtain⟨k0,k1,k2,k3,k4⟩:=hHeld;go_wp2_with fail;refine hK.out _ _ ?_ (fun hHeld=>?_)
   ·refine⟨?_,?_,?_,?_,?_⟩<;>(try rw[drew2_cell])<;>(rw[World.cell?_setCell_far _ _ _ _ ?_,World.cell?_setCell_far _ _ _ _ ?_,World.cell?_setCell_far _ _ _ _ ?_]<;>first|assumption|exact hne2|exact hnp)
   clear hK K
   try simp only[Act.put,tk1,tk2,tk3,tk4,tk5,tk6]
   refine tkY 19 ?_ rfl ?_ ?_;rotate_left
   ·intro w hSw;(try dsimp only at hSw);go_simp
    all_goals with_reducible rfl
   try simp only[Act.put,tk1,tk2,tk3,tk4,tk5,tk6]
   refine wpAnyH_done (by kernel_rfl) ?_ _;refine NoPanic.normal ?_;go_wp2;refine bodyPost_ret (v:=.tuple #[.agg #[.bool false,.int .i64 pm,.int .i64 pd],.bool (unitB pm pd)]) (by simp[results,Tryz.results188,go_sem,hcr]) rfl ⟨rfl,?_⟩;exact (below_st3 (B:=B+1) HBE.out (by have:=HBB.out;omega) _ _ _)

  ·skip
   refine wp_region_noPanic ?_;refine wp_region_held_drew (S:=fun w'=>w'.cell? ⟨b,off,none⟩=some (.bool false)∧w'.cell? ⟨b,off+3,none⟩=some (.bool true)∧w'.cell? ⟨B+2,0,none⟩=some (.bool false)∧w'.cell? ⟨B+2,1,none⟩=some (.int .i64 pm)∧w'.cell? ⟨B+2,2,none⟩=some (.int .i64 pd)) (by kernel_rfl) ⟨y00,y10,hpc 0,hpc 1,hpc 2⟩ (fun hHeld=>?_);refine tkY 0 ?_ rfl ?_ ?_;rotate_left
   ·intro w hSw;(try dsimp only at hSw);go_simp
    all_goals with_reducible rfl
   try simp only[Act.put,tk1,tk2,tk3,tk4,tk5,tk6]
   refine tkY 1 ?_ rfl ?_ ?_;rotate_left
   ·intro w hSw;(try dsimp only at hSw);go_simp
    all_goals with_reducible rfl
   try simp only[Act.put,tk1,tk2,tk3,tk4,tk5,tk6]
   refine tkY 2 ?_ rfl ?_ ?_;rotate_left
   ·intro w hSw;(try dsimp only at hSw);go_simp
    all_goals with_reducible rfl
   try simp only[Act.put,tk1,tk2,tk3,tk4,tk5,tk6]
   refine tkY 3 ?_ rfl ?_ ?_;rotate_left
   ·intro w hSw;(try dsimp only at hSw);go_simp
    all_goals with_reducible rfl
   try simp only[Act.put,tk1,tk2,tk3,tk4,tk5,tk6]
   refine tkY 4 ?_ rfl ?_ ?_;rotate_left
   ·intro w hSw;(try dsimp only at hSw);go_simp
    all_goals with_reducible rfl
   try simp only[Act.put,tk1,tk2,tk3,tk4,tk5,tk6]
   refine tkY 5 ?_ rfl ?_ ?_;rotate_left
   ·intro w hSw;(try dsimp only at hSw);go_simp
    all_goals with_reducible rfl
   try simp only[Act.put,tk1,tk2,tk3,tk4,tk5,tk6]
   refine tkY 6 ?_ rfl ?_ ?_;rotate_left
   ·intro w hSw;(try dsimp only at hSw);go_simp
    all_goals with_reducible rfl
   try simp only[Act.put,tk1,tk2,tk3,tk4,tk5,tk6]
   refine tkY 7 ?_ rfl ?_ ?_;rotate_left
   ·intro w hSw;(try dsimp only at hSw);go_simp
    all_goals with_reducible rfl
   try simp only[Act.put,tk1,tk2,tk3,tk4,tk5,tk6]
   refine tkY 8 ?_ rfl ?_ ?_;rotate_left
   ·intro w hSw;(try dsimp only at hSw);go_simp
    all_goals with_reducible rfl
   try simp only[Act.put,tk1,tk2,tk3,tk4,tk5,tk6]
   refine tkY 9 ?_ rfl ?_ ?_;rotate_left
   ·intro w hSw;(try dsimp only at hSw);go_simp
    all_goals with_reducible rfl
   try simp only[Act.put,tk1,tk2,tk3,tk4,tk5,tk6]
   refine tkY 10 ?_ rfl ?_ ?_;rotate_left
   ·intro w hSw;(try dsimp only at hSw);go_simp
    all_goals with_reducible rfl
   try simp only[Act.put,tk1,tk2,tk3,tk4,tk5,tk6]
   refine tkY 11 ?_ rfl ?_ ?_;rotate_left
   ·intro w hSw;(try dsimp only at hSw);go_simp
    all_goals with_reducible rfl
   try simp only[Act.put,tk1,tk2,tk3,tk4,tk5,tk6]
   refine tkY 12 ?_ rfl ?_ ?_;rotate_left
   ·intro w hSw;(try dsimp only at hSw);go_simp
    all_goals with_reducible rfl
   try simp only[Act.put,tk1,tk2,tk3,tk4,tk5,tk6]
   refine tkY 13 ?_ rfl ?_ ?_;rotate_left
   ·intro w hSw;(try dsimp only at hSw);go_simp
    all_goals with_reducible rfl
   try simp only[Act.put,tk1,tk2,tk3,tk4,tk5,tk6]
   refine tkN 14 rfl ?_
   try simp only[Act.put,tk1,tk2,tk3,tk4,tk5,tk6]
   refine tkN 15 rfl ?_
   try simp only[Act.put,tk1,tk2,tk3,tk4,tk5,tk6]
   refine tkN 16 rfl ?_
   try simp only[Act.put,tk1,tk2,tk3,tk4,tk5,tk6]
   refine tkY 17 ?_ rfl ?_ ?_;rotate_left
   ·intro w hSw;(try dsimp only at hSw);go_simp
    all_goals with_reducible rfl
   try simp only[Act.put,tk1,tk2,tk3,tk4,tk5,tk6]
   refine wpAnyH_ready (rs:=[18]) (by kernel_rfl) (by simp) ?_;refine AllReadyH.cons rfl (fun K hK=>?_) AllReadyH.nil;go_simp;obtain⟨k0,k1,k2,k3,k4⟩:=hHeld;go_wp2_with fail;refine hK.out _ _ ?_ (fun hHeld=>?_)
   ·refine⟨?_,?_,?_,?_,?_⟩<;>(try rw[drew2_cell])<;>(rw[World.cell?_setCell_far _ _ _ _ ?_,World.cell?_setCell_far _ _ _ _ ?_,World.cell?_setCell_far _ _ _ _ ?_]<;>first|assumption|exact hne2|exact hnp)
   clear hK K
   try simp only[Act.put,tk1,tk2,tk3,tk4,tk5,tk6]
   refine tkY 19 ?_ rfl ?_ ?_;rotate_left
   ·intro w hSw;(try dsimp only at hSw);go_simp
    all_goals with_reducible rfl
   try simp only[Act.put,tk1,tk2,tk3,tk4,tk5,tk6]
   refine wpAnyH_done (by kernel_rfl) ?_ _;refine NoPanic.normal ?_;go_wp2;refine bodyPost_ret (v:=.tuple #[.agg #[.bool false,.int .i64 pm,.int .i64 pd],.bool (false)]) (by simp[results,Tryz.results188,go_sem,hcr]) rfl ⟨rfl,?_⟩;exact (below_st3 (B:=B+1) HBW.out (by have:=HBB.out;omega) _ _ _)

 ·cases bt
  ·skip
   refine wp_region_noPanic ?_;refine wp_region_held_drew (S:=fun w'=>w'.cell? ⟨b,off,none⟩=some (.bool true)∧w'.cell? ⟨b,off+3,none⟩=some (.bool false)∧w'.cell? ⟨B+2,0,none⟩=some (.bool false)∧w'.cell? ⟨B+2,1,none⟩=some (.int .i64 pm)∧w'.cell? ⟨B+2,2,none⟩=some (.int .i64 pd)) (by kernel_rfl) ⟨y00,y10,hpc 0,hpc 1,hpc 2⟩ (fun hHeld=>?_);refine tkY 0 ?_ rfl ?_ ?_;rotate_left
   ·intro w hSw;(try dsimp only at hSw);go_simp
    all_goals with_reducible rfl
   try simp only[Act.put,tk1,tk2,tk3,tk4,tk5,tk6]
   refine tkY 1 ?_ rfl ?_ ?_;rotate_left
   ·intro w hSw;(try dsimp only at hSw);go_simp
    all_goals with_reducible rfl
   try simp only[Act.put,tk1,tk2,tk3,tk4,tk5,tk6]
   refine tkY 2 ?_ rfl ?_ ?_;rotate_left
   ·intro w hSw;(try dsimp only at hSw);go_simp
    all_goals with_reducible rfl
   try simp only[Act.put,tk1,tk2,tk3,tk4,tk5,tk6]
   refine tkY 3 ?_ rfl ?_ ?_;rotate_left
   ·intro w hSw;(try dsimp only at hSw);go_simp
    all_goals with_reducible rfl
   try simp only[Act.put,tk1,tk2,tk3,tk4,tk5,tk6]
   refine tkY 4 ?_ rfl ?_ ?_;rotate_left
   ·intro w hSw;(try dsimp only at hSw);go_simp
    all_goals with_reducible rfl
   try simp only[Act.put,tk1,tk2,tk3,tk4,tk5,tk6]
   refine tkY 5 ?_ rfl ?_ ?_;rotate_left
   ·intro w hSw;(try dsimp only at hSw);go_simp
    all_goals with_reducible rfl
   try simp only[Act.put,tk1,tk2,tk3,tk4,tk5,tk6]
   refine tkY 6 ?_ rfl ?_ ?_;rotate_left
   ·intro w hSw;(try dsimp only at hSw);go_simp
    all_goals with_reducible rfl
   try simp only[Act.put,tk1,tk2,tk3,tk4,tk5,tk6]
   refine tkN 7 rfl ?_
   try simp only[Act.put,tk1,tk2,tk3,tk4,tk5,tk6]
   refine tkN 8 rfl ?_
   try simp only[Act.put,tk1,tk2,tk3,tk4,tk5,tk6]
   refine tkN 9 rfl ?_
   try simp only[Act.put,tk1,tk2,tk3,tk4,tk5,tk6]
   refine tkN 10 rfl ?_
   try simp only[Act.put,tk1,tk2,tk3,tk4,tk5,tk6]
   refine tkN 11 rfl ?_
   try simp only[Act.put,tk1,tk2,tk3,tk4,tk5,tk6]
   refine tkY 12 ?_ rfl ?_ ?_;rotate_left
   ·intro w hSw;(try dsimp only at hSw);go_simp
    all_goals with_reducible rfl
   try simp only[Act.put,tk1,tk2,tk3,tk4,tk5,tk6]
   refine tkY 13 ?_ rfl ?_ ?_;rotate_left
   ·intro w hSw;(try dsimp only at hSw);go_simp
    all_goals with_reducible rfl
   try simp only[Act.put,tk1,tk2,tk3,tk4,tk5,tk6]
   refine tkN 14 rfl ?_
   try simp only[Act.put,tk1,tk2,tk3,tk4,tk5,tk6]
   refine tkN 15 rfl ?_
   try simp only[Act.put,tk1,tk2,tk3,tk4,tk5,tk6]
   refine tkN 16 rfl ?_
   try simp only[Act.put,tk1,tk2,tk3,tk4,tk5,tk6]
   refine tkY 17 ?_ rfl ?_ ?_;rotate_left
   ·intro w hSw;(try dsimp only at hSw);go_simp
    all_goals with_reducible rfl
   try simp only[Act.put,tk1,tk2,tk3,tk4,tk5,tk6]
   refine wpAnyH_ready (rs:=[18]) (by kernel_rfl) (by simp) ?_;refine AllReadyH.cons rfl (fun K hK=>?_) AllReadyH.nil;go_simp;obtain⟨k0,k1,k2,k3,k4⟩:=hHeld;go_wp2_with fail;refine hK.out _ _ ?_ (fun hHeld=>?_)
   ·refine⟨?_,?_,?_,?_,?_⟩<;>(try rw[drew2_cell])<;>(rw[World.cell?_setCell_far _ _ _ _ ?_,World.cell?_setCell_far _ _ _ _ ?_,World.cell?_setCell_far _ _ _ _ ?_]<;>first|assumption|exact hne2|exact hnp)
   clear hK K
   try simp only[Act.put,tk1,tk2,tk3,tk4,tk5,tk6]
   refine tkY 19 ?_ rfl ?_ ?_;rotate_left
   ·intro w hSw;(try dsimp only at hSw);go_simp
    all_goals with_reducible rfl
   try simp only[Act.put,tk1,tk2,tk3,tk4,tk5,tk6]
   refine wpAnyH_done (by kernel_rfl) ?_ _;refine NoPanic.normal ?_;go_wp2;refine bodyPost_ret (v:=.tuple #[.agg #[.bool false,.int .i64 pm,.int .i64 pd],.bool (false)]) (by simp[results,Tryz.results188,go_sem,hcr]) rfl ⟨rfl,?_⟩;exact (below_st3 (B:=B+1) HBW.out (by have:=HBB.out;omega) _ _ _)

  ·skip
   refine wp_region_noPanic ?_;refine wp_region_held_drew (S:=fun w'=>w'.cell? ⟨b,off,none⟩=some (.bool true)∧w'.cell? ⟨b,off+3,none⟩=some (.bool true)∧w'.cell? ⟨B+2,0,none⟩=some (.bool false)∧w'.cell? ⟨B+2,1,none⟩=some (.int .i64 pm)∧w'.cell? ⟨B+2,2,none⟩=some (.int .i64 pd)) (by kernel_rfl) ⟨y00,y10,hpc 0,hpc 1,hpc 2⟩ (fun hHeld=>?_);refine tkY 0 ?_ rfl ?_ ?_;rotate_left
   ·intro w hSw;(try dsimp only at hSw);go_simp
    all_goals with_reducible rfl
   try simp only[Act.put,tk1,tk2,tk3,tk4,tk5,tk6]
   refine tkY 1 ?_ rfl ?_ ?_;rotate_left
   ·intro w hSw;(try dsimp only at hSw);go_simp
    all_goals with_reducible rfl
   try simp only[Act.put,tk1,tk2,tk3,tk4,tk5,tk6]
   refine tkY 2 ?_ rfl ?_ ?_;rotate_left
   ·intro w hSw;(try dsimp only at hSw);go_simp
    all_goals with_reducible rfl
   try simp only[Act.put,tk1,tk2,tk3,tk4,tk5,tk6]
   refine tkY 3 ?_ rfl ?_ ?_;rotate_left
   ·intro w hSw;(try dsimp only at hSw);go_simp
    all_goals with_reducible rfl
   try simp only[Act.put,tk1,tk2,tk3,tk4,tk5,tk6]
   refine tkY 4 ?_ rfl ?_ ?_;rotate_left
   ·intro w hSw;(try dsimp only at hSw);go_simp
    all_goals with_reducible rfl
   try simp only[Act.put,tk1,tk2,tk3,tk4,tk5,tk6]
   refine tkY 5 ?_ rfl ?_ ?_;rotate_left
   ·intro w hSw;(try dsimp only at hSw);go_simp
    all_goals with_reducible rfl
   try simp only[Act.put,tk1,tk2,tk3,tk4,tk5,tk6]
   refine tkY 6 ?_ rfl ?_ ?_;rotate_left
   ·intro w hSw;(try dsimp only at hSw);go_simp
    all_goals with_reducible rfl
   try simp only[Act.put,tk1,tk2,tk3,tk4,tk5,tk6]
   refine tkN 7 rfl ?_
   try simp only[Act.put,tk1,tk2,tk3,tk4,tk5,tk6]
   refine tkN 8 rfl ?_
   try simp only[Act.put,tk1,tk2,tk3,tk4,tk5,tk6]
   refine tkN 9 rfl ?_
   try simp only[Act.put,tk1,tk2,tk3,tk4,tk5,tk6]
   refine tkN 10 rfl ?_
   try simp only[Act.put,tk1,tk2,tk3,tk4,tk5,tk6]
   refine tkN 11 rfl ?_
   try simp only[Act.put,tk1,tk2,tk3,tk4,tk5,tk6]
   refine tkY 12 ?_ rfl ?_ ?_;rotate_left
   ·intro w hSw;(try dsimp only at hSw);go_simp
    all_goals with_reducible rfl
   try simp only[Act.put,tk1,tk2,tk3,tk4,tk5,tk6]
   refine tkY 13 ?_ rfl ?_ ?_;rotate_left
   ·intro w hSw;(try dsimp only at hSw);go_simp
    all_goals with_reducible rfl
   try simp only[Act.put,tk1,tk2,tk3,tk4,tk5,tk6]
   refine tkN 14 rfl ?_
   try simp only[Act.put,tk1,tk2,tk3,tk4,tk5,tk6]
   refine tkN 15 rfl ?_
   try simp only[Act.put,tk1,tk2,tk3,tk4,tk5,tk6]
   refine tkN 16 rfl ?_
   try simp only[Act.put,tk1,tk2,tk3,tk4,tk5,tk6]
   refine tkY 17 ?_ rfl ?_ ?_;rotate_left
   ·intro w hSw;(try dsimp only at hSw);go_simp
    all_goals with_reducible rfl
   try simp only[Act.put,tk1,tk2,tk3,tk4,tk5,tk6]
   refine wpAnyH_ready (rs:=[18]) (by kernel_rfl) (by simp) ?_;refine AllReadyH.cons rfl (fun K hK=>?_) AllReadyH.nil;go_simp;obtain⟨k0,k1,k2,k3,k4⟩:=hHeld;go_wp2_with fail;refine hK.out _ _ ?_ (fun hHeld=>?_)
   ·refine⟨?_,?_,?_,?_,?_⟩<;>(try rw[drew2_cell])<;>(rw[World.cell?_setCell_far _ _ _ _ ?_,World.cell?_setCell_far _ _ _ _ ?_,World.cell?_setCell_far _ _ _ _ ?_]<;>first|assumption|exact hne2|exact hnp)
   clear hK K
   try simp only[Act.put,tk1,tk2,tk3,tk4,tk5,tk6]
   refine tkY 19 ?_ rfl ?_ ?_;rotate_left
   ·intro w hSw;(try dsimp only at hSw);go_simp
    all_goals with_reducible rfl
   try simp only[Act.put,tk1,tk2,tk3,tk4,tk5,tk6]
   refine wpAnyH_done (by kernel_rfl) ?_ _;refine NoPanic.normal ?_;go_wp2;refine bodyPost_ret (v:=.tuple #[.agg #[.bool false,.int .i64 pm,.int .i64 pd],.bool (false)]) (by simp[results,Tryz.results188,go_sem,hcr]) rfl ⟨rfl,?_⟩;exact (below_st3 (B:=B+1) HBW.out (by have:=HBB.out;omega) _ _ _)
def Keeps (lo:Nat) (w W:World):Prop:=w.heap.size≤W.heap.size∧∀b,lo≤b→b<w.heap.size→W.heap[b]?=w.heap[b]?
theorem Keeps.of {w W:World} (h:Below w.heap.size w W) (lo:Nat):Keeps lo w W:=⟨h.size,fun b _ hb=>h.block b hb⟩
theorem Keeps.trans {lo:Nat} {w W W':World} (h:Keeps lo w W) (h':Keeps lo W W'):Keeps lo w W':=
 ⟨Nat.le_trans h.1 h'.1,fun b h1 h2=>(h'.2 b h1 (Nat.lt_of_lt_of_le h2 h.1)).trans (h.2 b h1 h2)⟩
theorem Keeps.blk {lo b:Nat} {w W:World} {t:TypeId} {cs:List Value} (h:Keeps lo w W) (hb:Blk w b t cs) (hl:lo≤b):Blk W b t cs:=(h.2 b hl hb.lt).trans hb
theorem Keeps.cell {lo b:Nat} {w W:World} (h:Keeps lo w W) (hl:lo≤b) (hb:b<w.heap.size) (j:Nat):W.cell? ⟨b,j,none⟩=w.cell? ⟨b,j,none⟩:=World.cell?_of_block (h.2 b hl hb)
def RuleV (lo:Nat) (w:World) (k:Int) (f:Value):Prop:=∃g lb,f=.func (.func g) #[] lb∧(∀args w,(callFunc g args).run Tryz.prog w=.ok (.enter g args) w)∧
 ∀(own:Ty) (l:List Ty) (A:Option Addr) (n c:Nat) (W:World),Keeps lo w W→LaidK W→n=l.length→n≤c→n≤maxLen→Rd W A (tys l)→(∀t∈l,rightB t=true)→l.length=(shp k).ops→
  Calls Tryz.prog g (#[own.v,.slice A n c]++lb) W fun e w'=>e=.returned (.tuple #[(ruleT k own l).1.v,.bool (ruleT k own l).2])∧Below W.heap.size W w'
theorem RuleV.keeps {lo:Nat} {w w':World} {k:Int} {f:Value} (h:RuleV lo w k f) (hb:Keeps lo w w'):RuleV lo w' k f:=by
 obtain⟨g,lb,rfl,hg,hc⟩:=h;exact⟨g,lb,rfl,hg,fun own l A n c W hW=>hc own l A n c W (hb.trans hW)⟩
def RV (lo:Nat) (k:Int) (v:Value) (w:World):Prop:=∃f,v=.agg #[.bool (sigB k),f]∧RuleV lo w k f
theorem len1 {l:List Ty} (h:l.length=1):∃a,l=[a]:=List.length_eq_one_iff.1 h
theorem len2 {l:List Ty} (h:l.length=2):∃a b,l=[a,b]:=match l,h with|[a,b],_=>⟨a,b,rfl⟩
theorem len3 {l:List Ty} (h:l.length=3):∃a b c,l=[a,b,c]:=match l,h with|[a,b,c],_=>⟨a,b,c,rfl⟩
theorem rv1 (lo:Nat) (w:World) (b:Nat) (h:Blk w b 40 tCash.cells) (hlo:lo≤b):RuleV lo w 1 (.func (.func 185) #[] #[.pointer (some ⟨b,0,none⟩)]):=by
 refine⟨185,_,rfl,enters_of Tryz.func185 (by kernel_rfl) rfl,fun own l A n c W hW hLW hn hc hm hr hg hl=>?_⟩;exact kAlways1_any tCash own _ b W (hW.blk h hlo)
theorem rv2 (lo:Nat) (w:World) (b:Nat) (h:Blk w b 40 tDays.cells) (hlo:lo≤b):RuleV lo w 2 (.func (.func 185) #[] #[.pointer (some ⟨b,0,none⟩)]):=by
 refine⟨185,_,rfl,enters_of Tryz.func185 (by kernel_rfl) rfl,fun own l A n c W hW hLW hn hc hm hr hg hl=>?_⟩;exact kAlways1_any tDays own _ b W (hW.blk h hlo)
theorem rv3 (lo:Nat) (w:World) (b:Nat) (h:Blk w b 40 tPlain.cells) (hlo:lo≤b):RuleV lo w 3 (.func (.func 185) #[] #[.pointer (some ⟨b,0,none⟩)]):=by
 refine⟨185,_,rfl,enters_of Tryz.func185 (by kernel_rfl) rfl,fun own l A n c W hW hLW hn hc hm hr hg hl=>?_⟩;exact kAlways1_any tPlain own _ b W (hW.blk h hlo)
theorem rv4 (lo:Nat) (w:World) (b:Nat) (h:Blk w b 40 tTruth.cells) (hlo:lo≤b):RuleV lo w 4 (.func (.func 185) #[] #[.pointer (some ⟨b,0,none⟩)]):=by
 refine⟨185,_,rfl,enters_of Tryz.func185 (by kernel_rfl) rfl,fun own l A n c W hW hLW hn hc hm hr hg hl=>?_⟩;exact kAlways1_any tTruth own _ b W (hW.blk h hlo)
theorem rv5 (lo:Nat) (w:World) (k:Int) (h:k=5∨k=6∨k=7∨k=8):RuleV lo w k (.func (.func 186) #[] #[]):=by
 refine⟨186,_,rfl,enters_of Tryz.func186 (by kernel_rfl) rfl,fun own l A n c W hW hLW hn hc hm hr hg hl=>?_⟩;have e:ruleT k own l=(own,true):=by rcases h with rfl|rfl|rfl|rfl<;>rfl
 rw[e];exact kNamed1_any own _ W
theorem rv9 (lo:Nat) (w:World) (k:Int) (b:Nat) (h:k=9∨k=10∨k=13∨k=14) (hb:Blk w b 243 [.func (.func 156) #[] #[]]) (hlo:lo≤b):RuleV lo w k (.func (.func 187) #[] #[.pointer (some ⟨b,0,none⟩)]):=by
 refine⟨187,_,rfl,enters_of Tryz.func187 (by kernel_rfl) rfl,fun own l A n c W hW hLW hn hc hm hr hg hl=>?_⟩;obtain⟨x,y,rfl⟩:=len2 (hl.trans (by rcases h with rfl|rfl|rfl|rfl<;>rfl));have e:ruleT k own [x,y]=(x,decide (x=y)&& !x.truth):=by rcases h with rfl|rfl|rfl|rfl<;>rfl
 obtain rfl:n=2:=hn;rw[e];exact kAlikeI_any own x y A c b W hr hc (hW.blk hb hlo)
theorem rv11 (lo:Nat) (w:World) (b:Nat) (hb:Blk w b 3 [.int .i64 1]) (hlo:lo≤b):RuleV lo w 11 (.func (.func 188) #[] #[.pointer (some ⟨b,0,none⟩)]):=by
 refine⟨188,_,rfl,enters_of Tryz.func188 (by kernel_rfl) rfl,fun own l A n c W hW hLW hn hc hm hr hg hl=>?_⟩;obtain⟨x,y,rfl⟩:=len2 hl;obtain rfl:n=2:=hn
 have e:ruleT 11 own [x,y]=(prodT 1 x y, !x.truth&&(!y.truth&&unitB (prodT 1 x y).money (prodT 1 x y).days)):=by
  show ((⟨false,x.money+y.money,x.days+y.days⟩:Ty),_)=_
  have e1:prodT 1 x y=⟨false,x.money+y.money,x.days+y.days⟩:=by
   unfold prodT;simp only[Ty.mk.injEq,true_and];constructor<;>omega
  rw[e1];rfl
 rw[e];exact kProd_any own x y 1 A c b W (by omega) (hg x (by simp)) (hg y (by simp)) hr hc (hW.blk hb hlo)
theorem rv12 (lo:Nat) (w:World) (b:Nat) (hb:Blk w b 3 [.int .i64 (-1)]) (hlo:lo≤b):RuleV lo w 12 (.func (.func 188) #[] #[.pointer (some ⟨b,0,none⟩)]):=by
 refine⟨188,_,rfl,enters_of Tryz.func188 (by kernel_rfl) rfl,fun own l A n c W hW hLW hn hc hm hr hg hl=>?_⟩;obtain⟨x,y,rfl⟩:=len2 hl;obtain rfl:n=2:=hn
 have e:ruleT 12 own [x,y]=(prodT (-1) x y, !x.truth&&(!y.truth&&unitB (prodT (-1) x y).money (prodT (-1) x y).days)):=by
  show ((⟨false,x.money-y.money,x.days-y.days⟩:Ty),_)=_
  have e1:prodT (-1) x y=⟨false,x.money-y.money,x.days-y.days⟩:=by
   unfold prodT;simp only[Ty.mk.injEq,true_and];constructor<;>omega
  rw[e1];rfl
 rw[e];exact kProd_any own x y (-1) A c b W (by omega) (hg x (by simp)) (hg y (by simp)) hr hc (hW.blk hb hlo)
theorem rv15 (lo:Nat) (w:World):RuleV lo w 15 (.func (.func 158) #[] #[]):=by
 refine⟨158,_,rfl,enters_of Tryz.func158 (by kernel_rfl) rfl,fun own l A n c W hW hLW hn hc hm hr hg hl=>?_⟩;obtain⟨x,y,z,rfl⟩:=len3 hl;obtain rfl:n=3:=hn;exact kIf_any own x y z A c W hLW hr hc
theorem rv16 (lo:Nat) (w:World) (b:Nat) (hb:Blk w b 243 [.func (.func 159) #[] #[]]) (hlo:lo≤b):RuleV lo w 16 (.func (.func 187) #[] #[.pointer (some ⟨b,0,none⟩)]):=by
 refine⟨187,_,rfl,enters_of Tryz.func187 (by kernel_rfl) rfl,fun own l A n c W hW hLW hn hc hm hr hg hl=>?_⟩;obtain⟨x,y,rfl⟩:=len2 hl;obtain rfl:n=2:=hn;exact kAlikeD_any own x y A c b W hLW hr hc (hW.blk hb hlo)
theorem rv17 (lo:Nat) (w:World):RuleV lo w 17 (.func (.func 160) #[] #[]):=by
 refine⟨160,_,rfl,enters_of Tryz.func160 (by kernel_rfl) rfl,fun own l A n c W hW hLW hn hc hm hr hg hl=>?_⟩;obtain⟨x,y,rfl⟩:=len2 hl;obtain rfl:n=2:=hn;exact kEqual_any own x y A c W hLW hr hc
theorem rv18 (lo:Nat) (w:World) (k:Int) (h:k=18∨k=19∨k=20):RuleV lo w k (.func (.func 189) #[] #[]):=by
 refine⟨189,_,rfl,enters_of Tryz.func189 (by kernel_rfl) rfl,fun own l A n c W hW hLW hn hc hm hr hg hl=>?_⟩;have e:ruleT k own l=(tTruth,l.all fun t=>decide (t=tTruth)):=by rcases h with rfl|rfl|rfl<;>rfl
 rw[e];exact kTruths1_any own l A n c W hLW hn hm hr
theorem rv21 (lo:Nat) (w:World) (k:Int) (h:k=21∨k=22∨k=23):RuleV lo w k (.func (.func 190) #[] #[]):=by
 refine⟨190,_,rfl,enters_of Tryz.func190 (by kernel_rfl) rfl,fun own l A n c W hW hLW hn hc hm hr hg hl=>?_⟩;obtain⟨x,rfl⟩:=len1 (hl.trans (by rcases h with rfl|rfl|rfl<;>rfl));have e:ruleT k own [x]=(x, !x.truth):=by rcases h with rfl|rfl|rfl<;>rfl
 obtain rfl:n=1:=hn;rw[e];exact kRounded1_any own x A c W hr hc
theorem rv24 (lo:Nat) (w:World):RuleV lo w 24 (.func (.func 163) #[] #[]):=by
 refine⟨163,_,rfl,enters_of Tryz.func163 (by kernel_rfl) rfl,fun own l A n c W hW hLW hn hc hm hr hg hl=>?_⟩;obtain⟨x,rfl⟩:=len1 hl;obtain rfl:n=1:=hn;exact kRate1_any own x A c W hr hc
def RulesAt (lo:Nat) (w:World) (b:Nat):Prop:=lo≤b∧b<w.heap.size∧∀k:Nat,1≤k→k≤24→∃f,w.cell? ⟨b,2*k,none⟩=some (.bool (sigB k))∧w.cell? ⟨b,2*k+1,none⟩=some f∧RuleV lo w k f
theorem RulesAt.keeps {lo:Nat} {w w':World} {b:Nat} (h:RulesAt lo w b) (hb:Keeps lo w w'):RulesAt lo w' b:=
 ⟨h.1,Nat.lt_of_lt_of_le h.2.1 hb.1,fun k h1 h2=>by
   obtain⟨f,c0,c1,hv⟩:=h.2.2 k h1 h2;exact⟨f,(hb.cell h.1 h.2.1 _).trans c0,(hb.cell h.1 h.2.1 _).trans c1,hv.keeps hb⟩⟩
def ruleR (lo i:Nat) (v:Value) (w:World):Prop:=match i with
 |0=>v=tCash.v
 |1=>RV lo 1 v w
 |2=>v=tDays.v
 |3=>RV lo 2 v w
 |4=>v=tPlain.v
 |5=>RV lo 3 v w
 |6=>v=tTruth.v
 |7=>RV lo 4 v w
 |8=>RV lo 5 v w
 |9=>RV lo 6 v w
 |10=>RV lo 7 v w
 |11=>RV lo 8 v w
 |12=>RV lo 9 v w
 |13=>RV lo 10 v w
 |14=>RV lo 13 v w
 |15=>RV lo 14 v w
 |16=>RV lo 11 v w
 |17=>RV lo 12 v w
 |18=>RV lo 15 v w
 |19=>RV lo 16 v w
 |20=>RV lo 17 v w
 |21=>RV lo 18 v w
 |22=>RV lo 19 v w
 |23=>RV lo 20 v w
 |24=>RV lo 21 v w
 |25=>RV lo 22 v w
 |26=>RV lo 23 v w
 |27=>RV lo 24 v w
 |_=>∃b,v=.slice (some ⟨b,0,none⟩) 25 25∧RulesAt lo w b
theorem ruleR_mono (lo i:Nat) (v:Value) (w w':World) (h:ruleR lo i v w) (hb:Below w.heap.size w w'):ruleR lo i v w':=by
 have hV:∀k,RV lo k v w→RV lo k v w':=fun k ⟨f,e,hf⟩=>⟨f,e,hf.keeps (Keeps.of hb lo)⟩
 have hS:(∃b,v=.slice (some ⟨b,0,none⟩) 25 25∧RulesAt lo w b)→∃b,v=.slice (some ⟨b,0,none⟩) 25 25∧RulesAt lo w' b:=fun⟨b,e,hr⟩=>⟨b,e,hr.keeps (Keeps.of hb lo)⟩
 unfold ruleR at h⊢;split at h<;>first|exact h|exact hV _ h|exact hS h
set_option maxRecDepth 100000 in
set_option maxHeartbeats 3200000 in
theorem kRules_any (w:World) (hL:LaidK w):Calls Tryz.prog 120 #[] w fun e w'=>(∃b,e=.returned (.slice (some ⟨b,0,none⟩) 25 25)∧RulesAt w.heap.size w' b)∧Below w.heap.size w w':=by
 have HL:=Lib.hid hL;clear hL;go_enter Tryz.func120,Tryz.ntmps120
 go_upto_region 1 with fail
 refine region_each (n:=30) (by kernel_rfl) (by kernel_rfl) rfl (ruleR w.heap.size) (ruleR_mono _) ?_ ?_
 ·intro i o ho a1 W hb hdep;have HLW:=Lib.hid (HL.out.below hb);have HSW:Hid (w.heap.size≤W.heap.size):=hb.size;clear hb
  match i,ho with
  |0,ho=>
   injection ho with ho;subst ho;refine wpOp_step rfl (fun K hK=>?_);rw[if_pos (by rfl)];have HK:=Lib.hid hK;clear hK;have g0:=HLW.out.cash 0 _ rfl;have g1:=HLW.out.cash 1 _ rfl;have g2:=HLW.out.cash 2 _ rfl;unfold tCash at g0 g1 g2;simp only at g0 g1 g2;clear hdep;go_simp;exact HK.out _ _ ⟨_,rfl,rfl,Below.refl _ _⟩
  |1,ho=>
   injection ho with ho;subst ho;refine wpOp_step rfl (fun K hK=>?_);rw[if_pos (by rfl)];have HK:=Lib.hid hK;clear hK;have h:(a1.tmps[1]?).getD undef=tCash.v:=hdep ⟨0,.data⟩ (by simp) rfl;clear hdep;go_simp
   go_at_call 153
   refine (kAlways_any tCash W).mono ?_;rintro e w' ⟨b,rfl,hb,hlo,hbw⟩;exact HK.out _ _ ⟨_,rfl,⟨_,rfl,rv1 _ _ b hb (Nat.le_trans HSW.out hlo)⟩,hbw⟩
  |2,ho=>
   injection ho with ho;subst ho;refine wpOp_step rfl (fun K hK=>?_);rw[if_pos (by rfl)];have HK:=Lib.hid hK;clear hK;have g0:=HLW.out.days 0 _ rfl;have g1:=HLW.out.days 1 _ rfl;have g2:=HLW.out.days 2 _ rfl;unfold tDays at g0 g1 g2;simp only at g0 g1 g2;clear hdep;go_simp;exact HK.out _ _ ⟨_,rfl,rfl,Below.refl _ _⟩
  |3,ho=>
   injection ho with ho;subst ho;refine wpOp_step rfl (fun K hK=>?_);rw[if_pos (by rfl)];have HK:=Lib.hid hK;clear hK;have h:(a1.tmps[3]?).getD undef=tDays.v:=hdep ⟨2,.data⟩ (by simp) rfl;clear hdep;go_simp
   go_at_call 153
   refine (kAlways_any tDays W).mono ?_;rintro e w' ⟨b,rfl,hb,hlo,hbw⟩;exact HK.out _ _ ⟨_,rfl,⟨_,rfl,rv2 _ _ b hb (Nat.le_trans HSW.out hlo)⟩,hbw⟩
  |4,ho=>
   injection ho with ho;subst ho;refine wpOp_step rfl (fun K hK=>?_);rw[if_pos (by rfl)];have HK:=Lib.hid hK;clear hK;have g0:=HLW.out.plain 0 _ rfl;have g1:=HLW.out.plain 1 _ rfl;have g2:=HLW.out.plain 2 _ rfl;unfold tPlain at g0 g1 g2;simp only at g0 g1 g2;clear hdep;go_simp;exact HK.out _ _ ⟨_,rfl,rfl,Below.refl _ _⟩
  |5,ho=>
   injection ho with ho;subst ho;refine wpOp_step rfl (fun K hK=>?_);rw[if_pos (by rfl)];have HK:=Lib.hid hK;clear hK;have h:(a1.tmps[5]?).getD undef=tPlain.v:=hdep ⟨4,.data⟩ (by simp) rfl;clear hdep;go_simp
   go_at_call 153
   refine (kAlways_any tPlain W).mono ?_;rintro e w' ⟨b,rfl,hb,hlo,hbw⟩;exact HK.out _ _ ⟨_,rfl,⟨_,rfl,rv3 _ _ b hb (Nat.le_trans HSW.out hlo)⟩,hbw⟩
  |6,ho=>
   injection ho with ho;subst ho;refine wpOp_step rfl (fun K hK=>?_);rw[if_pos (by rfl)];have HK:=Lib.hid hK;clear hK;have g0:=HLW.out.truth 0 _ rfl;have g1:=HLW.out.truth 1 _ rfl;have g2:=HLW.out.truth 2 _ rfl;unfold tTruth at g0 g1 g2;simp only at g0 g1 g2;clear hdep;go_simp;exact HK.out _ _ ⟨_,rfl,rfl,Below.refl _ _⟩
  |7,ho=>
   injection ho with ho;subst ho;refine wpOp_step rfl (fun K hK=>?_);rw[if_pos (by rfl)];have HK:=Lib.hid hK;clear hK;have h:(a1.tmps[7]?).getD undef=tTruth.v:=hdep ⟨6,.data⟩ (by simp) rfl;clear hdep;go_simp
   go_at_call 153
   refine (kAlways_any tTruth W).mono ?_;rintro e w' ⟨b,rfl,hb,hlo,hbw⟩;exact HK.out _ _ ⟨_,rfl,⟨_,rfl,rv4 _ _ b hb (Nat.le_trans HSW.out hlo)⟩,hbw⟩
  |8,ho=>
   injection ho with ho;subst ho;refine wpOp_step rfl (fun K hK=>?_);rw[if_pos (by rfl)];have HK:=Lib.hid hK;clear hK;clear hdep;go_simp
   go_at_call 154
   refine (kNamed_any W).mono ?_;rintro e w' ⟨rfl,hbw⟩;exact HK.out _ _ ⟨_,rfl,⟨_,rfl,rv5 _ _ _ (by omega)⟩,hbw⟩
  |9,ho=>
   injection ho with ho;subst ho;refine wpOp_step rfl (fun K hK=>?_);rw[if_pos (by rfl)];have HK:=Lib.hid hK;clear hK;clear hdep;go_simp
   go_at_call 154
   refine (kNamed_any W).mono ?_;rintro e w' ⟨rfl,hbw⟩;exact HK.out _ _ ⟨_,rfl,⟨_,rfl,rv5 _ _ _ (by omega)⟩,hbw⟩
  |10,ho=>
   injection ho with ho;subst ho;refine wpOp_step rfl (fun K hK=>?_);rw[if_pos (by rfl)];have HK:=Lib.hid hK;clear hK;clear hdep;go_simp
   go_at_call 154
   refine (kNamed_any W).mono ?_;rintro e w' ⟨rfl,hbw⟩;exact HK.out _ _ ⟨_,rfl,⟨_,rfl,rv5 _ _ _ (by omega)⟩,hbw⟩
  |11,ho=>
   injection ho with ho;subst ho;refine wpOp_step rfl (fun K hK=>?_);rw[if_pos (by rfl)];have HK:=Lib.hid hK;clear hK;clear hdep;go_simp
   go_at_call 154
   refine (kNamed_any W).mono ?_;rintro e w' ⟨rfl,hbw⟩;exact HK.out _ _ ⟨_,rfl,⟨_,rfl,rv5 _ _ _ (by omega)⟩,hbw⟩
  |12,ho=>
   injection ho with ho;subst ho;refine wpOp_step rfl (fun K hK=>?_);rw[if_pos (by rfl)];have HK:=Lib.hid hK;clear hK;clear hdep;go_simp
   go_at_call 155
   refine (kAlike_any _ W).mono ?_;rintro e w' ⟨b,rfl,hb,hlo,hbw⟩;exact HK.out _ _ ⟨_,rfl,⟨_,rfl,rv9 _ _ _ b (by omega) hb (Nat.le_trans HSW.out hlo)⟩,hbw⟩
  |13,ho=>
   injection ho with ho;subst ho;refine wpOp_step rfl (fun K hK=>?_);rw[if_pos (by rfl)];have HK:=Lib.hid hK;clear hK;clear hdep;go_simp
   go_at_call 155
   refine (kAlike_any _ W).mono ?_;rintro e w' ⟨b,rfl,hb,hlo,hbw⟩;exact HK.out _ _ ⟨_,rfl,⟨_,rfl,rv9 _ _ _ b (by omega) hb (Nat.le_trans HSW.out hlo)⟩,hbw⟩
  |14,ho=>
   injection ho with ho;subst ho;refine wpOp_step rfl (fun K hK=>?_);rw[if_pos (by rfl)];have HK:=Lib.hid hK;clear hK;clear hdep;go_simp
   go_at_call 155
   refine (kAlike_any _ W).mono ?_;rintro e w' ⟨b,rfl,hb,hlo,hbw⟩;exact HK.out _ _ ⟨_,rfl,⟨_,rfl,rv9 _ _ _ b (by omega) hb (Nat.le_trans HSW.out hlo)⟩,hbw⟩
  |15,ho=>
   injection ho with ho;subst ho;refine wpOp_step rfl (fun K hK=>?_);rw[if_pos (by rfl)];have HK:=Lib.hid hK;clear hK;clear hdep;go_simp
   go_at_call 155
   refine (kAlike_any _ W).mono ?_;rintro e w' ⟨b,rfl,hb,hlo,hbw⟩;exact HK.out _ _ ⟨_,rfl,⟨_,rfl,rv9 _ _ _ b (by omega) hb (Nat.le_trans HSW.out hlo)⟩,hbw⟩
  |16,ho=>
   injection ho with ho;subst ho;refine wpOp_step rfl (fun K hK=>?_);rw[if_pos (by rfl)];have HK:=Lib.hid hK;clear hK;clear hdep;go_simp
   go_at_call 157
   refine (kProduct_any _ W).mono ?_;rintro e w' ⟨b,rfl,hb,hlo,hbw⟩;exact HK.out _ _ ⟨_,rfl,⟨_,rfl,rv11 _ _ b hb (Nat.le_trans HSW.out hlo)⟩,hbw⟩
  |17,ho=>
   injection ho with ho;subst ho;refine wpOp_step rfl (fun K hK=>?_);rw[if_pos (by rfl)];have HK:=Lib.hid hK;clear hK;clear hdep;go_simp
   go_at_call 157
   refine (kProduct_any _ W).mono ?_;rintro e w' ⟨b,rfl,hb,hlo,hbw⟩;exact HK.out _ _ ⟨_,rfl,⟨_,rfl,rv12 _ _ b hb (Nat.le_trans HSW.out hlo)⟩,hbw⟩
  |18,ho=>
   injection ho with ho;subst ho;refine wpOp_step rfl (fun K hK=>?_);rw[if_pos (by rfl)];have HK:=Lib.hid hK;clear hK;clear hdep;go_simp;exact HK.out _ _ ⟨_,rfl,⟨_,rfl,rv15 _ _⟩,Below.refl _ _⟩
  |19,ho=>
   injection ho with ho;subst ho;refine wpOp_step rfl (fun K hK=>?_);rw[if_pos (by rfl)];have HK:=Lib.hid hK;clear hK;clear hdep;go_simp
   go_at_call 155
   refine (kAlike_any _ W).mono ?_;rintro e w' ⟨b,rfl,hb,hlo,hbw⟩;exact HK.out _ _ ⟨_,rfl,⟨_,rfl,rv16 _ _ b hb (Nat.le_trans HSW.out hlo)⟩,hbw⟩
  |20,ho=>
   injection ho with ho;subst ho;refine wpOp_step rfl (fun K hK=>?_);rw[if_pos (by rfl)];have HK:=Lib.hid hK;clear hK;clear hdep;go_simp;exact HK.out _ _ ⟨_,rfl,⟨_,rfl,rv17 _ _⟩,Below.refl _ _⟩
  |21,ho=>
   injection ho with ho;subst ho;refine wpOp_step rfl (fun K hK=>?_);rw[if_pos (by rfl)];have HK:=Lib.hid hK;clear hK;clear hdep;go_simp
   go_at_call 161
   refine (kTruths_any W).mono ?_;rintro e w' ⟨rfl,hbw⟩;exact HK.out _ _ ⟨_,rfl,⟨_,rfl,rv18 _ _ _ (by omega)⟩,hbw⟩
  |22,ho=>
   injection ho with ho;subst ho;refine wpOp_step rfl (fun K hK=>?_);rw[if_pos (by rfl)];have HK:=Lib.hid hK;clear hK;clear hdep;go_simp
   go_at_call 161
   refine (kTruths_any W).mono ?_;rintro e w' ⟨rfl,hbw⟩;exact HK.out _ _ ⟨_,rfl,⟨_,rfl,rv18 _ _ _ (by omega)⟩,hbw⟩
  |23,ho=>
   injection ho with ho;subst ho;refine wpOp_step rfl (fun K hK=>?_);rw[if_pos (by rfl)];have HK:=Lib.hid hK;clear hK;clear hdep;go_simp
   go_at_call 161
   refine (kTruths_any W).mono ?_;rintro e w' ⟨rfl,hbw⟩;exact HK.out _ _ ⟨_,rfl,⟨_,rfl,rv18 _ _ _ (by omega)⟩,hbw⟩
  |24,ho=>
   injection ho with ho;subst ho;refine wpOp_step rfl (fun K hK=>?_);rw[if_pos (by rfl)];have HK:=Lib.hid hK;clear hK;clear hdep;go_simp
   go_at_call 162
   refine (kRounded_any W).mono ?_;rintro e w' ⟨rfl,hbw⟩;exact HK.out _ _ ⟨_,rfl,⟨_,rfl,rv21 _ _ _ (by omega)⟩,hbw⟩
  |25,ho=>
   injection ho with ho;subst ho;refine wpOp_step rfl (fun K hK=>?_);rw[if_pos (by rfl)];have HK:=Lib.hid hK;clear hK;clear hdep;go_simp
   go_at_call 162
   refine (kRounded_any W).mono ?_;rintro e w' ⟨rfl,hbw⟩;exact HK.out _ _ ⟨_,rfl,⟨_,rfl,rv21 _ _ _ (by omega)⟩,hbw⟩
  |26,ho=>
   injection ho with ho;subst ho;refine wpOp_step rfl (fun K hK=>?_);rw[if_pos (by rfl)];have HK:=Lib.hid hK;clear hK;clear hdep;go_simp
   go_at_call 162
   refine (kRounded_any W).mono ?_;rintro e w' ⟨rfl,hbw⟩;exact HK.out _ _ ⟨_,rfl,⟨_,rfl,rv21 _ _ _ (by omega)⟩,hbw⟩
  |27,ho=>
   injection ho with ho;subst ho;refine wpOp_step rfl (fun K hK=>?_);rw[if_pos (by rfl)];have HK:=Lib.hid hK;clear hK;clear hdep;go_simp;exact HK.out _ _ ⟨_,rfl,⟨_,rfl,rv24 _ _⟩,Below.refl _ _⟩
  |28,ho=>
   injection ho with ho;subst ho;refine wpOp_step rfl (fun K hK=>?_);rw[if_pos (by rfl)];have HK:=Lib.hid hK;clear hK;obtain⟨f1,h1,r1⟩:RV w.heap.size 1 ((a1.tmps[2]?).getD undef) W:=hdep ⟨1,.data⟩ (by simp) rfl;obtain⟨f2,h2,r2⟩:RV w.heap.size 2 ((a1.tmps[4]?).getD undef) W:=hdep ⟨3,.data⟩ (by simp) rfl;obtain⟨f3,h3,r3⟩:RV w.heap.size 3 ((a1.tmps[6]?).getD undef) W:=hdep ⟨5,.data⟩ (by simp) rfl;obtain⟨f4,h4,r4⟩:RV w.heap.size 4 ((a1.tmps[8]?).getD undef) W:=hdep ⟨7,.data⟩ (by simp) rfl;obtain⟨f5,h5,r5⟩:RV w.heap.size 5 ((a1.tmps[9]?).getD undef) W:=hdep ⟨8,.data⟩ (by simp) rfl;obtain⟨f6,h6,r6⟩:RV w.heap.size 6 ((a1.tmps[10]?).getD undef) W:=hdep ⟨9,.data⟩ (by simp) rfl;obtain⟨f7,h7,r7⟩:RV w.heap.size 7 ((a1.tmps[11]?).getD undef) W:=hdep ⟨10,.data⟩ (by simp) rfl;obtain⟨f8,h8,r8⟩:RV w.heap.size 8 ((a1.tmps[12]?).getD undef) W:=hdep ⟨11,.data⟩ (by simp) rfl;obtain⟨f9,h9,r9⟩:RV w.heap.size 9 ((a1.tmps[13]?).getD undef) W:=hdep ⟨12,.data⟩ (by simp) rfl;obtain⟨f10,h10,r10⟩:RV w.heap.size 10 ((a1.tmps[14]?).getD undef) W:=hdep ⟨13,.data⟩ (by simp) rfl;obtain⟨f13,h13,r13⟩:RV w.heap.size 13 ((a1.tmps[15]?).getD undef) W:=hdep ⟨14,.data⟩ (by simp) rfl;obtain⟨f14,h14,r14⟩:RV w.heap.size 14 ((a1.tmps[16]?).getD undef) W:=hdep ⟨15,.data⟩ (by simp) rfl;obtain⟨f11,h11,r11⟩:RV w.heap.size 11 ((a1.tmps[17]?).getD undef) W:=hdep ⟨16,.data⟩ (by simp) rfl;obtain⟨f12,h12,r12⟩:RV w.heap.size 12 ((a1.tmps[18]?).getD undef) W:=hdep ⟨17,.data⟩ (by simp) rfl;obtain⟨f15,h15,r15⟩:RV w.heap.size 15 ((a1.tmps[19]?).getD undef) W:=hdep ⟨18,.data⟩ (by simp) rfl;obtain⟨f16,h16,r16⟩:RV w.heap.size 16 ((a1.tmps[20]?).getD undef) W:=hdep ⟨19,.data⟩ (by simp) rfl;obtain⟨f17,h17,r17⟩:RV w.heap.size 17 ((a1.tmps[21]?).getD undef) W:=hdep ⟨20,.data⟩ (by simp) rfl;obtain⟨f18,h18,r18⟩:RV w.heap.size 18 ((a1.tmps[22]?).getD undef) W:=hdep ⟨21,.data⟩ (by simp) rfl;obtain⟨f19,h19,r19⟩:RV w.heap.size 19 ((a1.tmps[23]?).getD undef) W:=hdep ⟨22,.data⟩ (by simp) rfl;obtain⟨f20,h20,r20⟩:RV w.heap.size 20 ((a1.tmps[24]?).getD undef) W:=hdep ⟨23,.data⟩ (by simp) rfl;obtain⟨f21,h21,r21⟩:RV w.heap.size 21 ((a1.tmps[25]?).getD undef) W:=hdep ⟨24,.data⟩ (by simp) rfl;obtain⟨f22,h22,r22⟩:RV w.heap.size 22 ((a1.tmps[26]?).getD undef) W:=hdep ⟨25,.data⟩ (by simp) rfl;obtain⟨f23,h23,r23⟩:RV w.heap.size 23 ((a1.tmps[27]?).getD undef) W:=hdep ⟨26,.data⟩ (by simp) rfl;obtain⟨f24,h24,r24⟩:RV w.heap.size 24 ((a1.tmps[28]?).getD undef) W:=hdep ⟨27,.data⟩ (by simp) rfl;clear hdep;go_simp;have hbe:=fun o=>(Below.refl W.heap.size W).alloc (Nat.le_refl _) o
   refine HK.out _ _ ⟨_,rfl,⟨_,rfl,HSW.out,by rw[World.size_alloc];omega,fun k h1 h2=>?_⟩,hbe _⟩
   match k,h1,h2 with
   |0,h1,_=>omega
   |1,_,_=>exact⟨f1,(Blk.new W _ _).cells 2,(Blk.new W _ _).cells 3,r1.keeps (Keeps.of (hbe _) _)⟩
   |2,_,_=>exact⟨f2,(Blk.new W _ _).cells 4,(Blk.new W _ _).cells 5,r2.keeps (Keeps.of (hbe _) _)⟩
   |3,_,_=>exact⟨f3,(Blk.new W _ _).cells 6,(Blk.new W _ _).cells 7,r3.keeps (Keeps.of (hbe _) _)⟩
   |4,_,_=>exact⟨f4,(Blk.new W _ _).cells 8,(Blk.new W _ _).cells 9,r4.keeps (Keeps.of (hbe _) _)⟩
   |5,_,_=>exact⟨f5,(Blk.new W _ _).cells 10,(Blk.new W _ _).cells 11,r5.keeps (Keeps.of (hbe _) _)⟩
   |6,_,_=>exact⟨f6,(Blk.new W _ _).cells 12,(Blk.new W _ _).cells 13,r6.keeps (Keeps.of (hbe _) _)⟩
   |7,_,_=>exact⟨f7,(Blk.new W _ _).cells 14,(Blk.new W _ _).cells 15,r7.keeps (Keeps.of (hbe _) _)⟩
   |8,_,_=>exact⟨f8,(Blk.new W _ _).cells 16,(Blk.new W _ _).cells 17,r8.keeps (Keeps.of (hbe _) _)⟩
   |9,_,_=>exact⟨f9,(Blk.new W _ _).cells 18,(Blk.new W _ _).cells 19,r9.keeps (Keeps.of (hbe _) _)⟩
   |10,_,_=>exact⟨f10,(Blk.new W _ _).cells 20,(Blk.new W _ _).cells 21,r10.keeps (Keeps.of (hbe _) _)⟩
   |11,_,_=>exact⟨f11,(Blk.new W _ _).cells 22,(Blk.new W _ _).cells 23,r11.keeps (Keeps.of (hbe _) _)⟩
   |12,_,_=>exact⟨f12,(Blk.new W _ _).cells 24,(Blk.new W _ _).cells 25,r12.keeps (Keeps.of (hbe _) _)⟩
   |13,_,_=>exact⟨f13,(Blk.new W _ _).cells 26,(Blk.new W _ _).cells 27,r13.keeps (Keeps.of (hbe _) _)⟩
   |14,_,_=>exact⟨f14,(Blk.new W _ _).cells 28,(Blk.new W _ _).cells 29,r14.keeps (Keeps.of (hbe _) _)⟩
   |15,_,_=>exact⟨f15,(Blk.new W _ _).cells 30,(Blk.new W _ _).cells 31,r15.keeps (Keeps.of (hbe _) _)⟩
   |16,_,_=>exact⟨f16,(Blk.new W _ _).cells 32,(Blk.new W _ _).cells 33,r16.keeps (Keeps.of (hbe _) _)⟩
   |17,_,_=>exact⟨f17,(Blk.new W _ _).cells 34,(Blk.new W _ _).cells 35,r17.keeps (Keeps.of (hbe _) _)⟩
   |18,_,_=>exact⟨f18,(Blk.new W _ _).cells 36,(Blk.new W _ _).cells 37,r18.keeps (Keeps.of (hbe _) _)⟩
   |19,_,_=>exact⟨f19,(Blk.new W _ _).cells 38,(Blk.new W _ _).cells 39,r19.keeps (Keeps.of (hbe _) _)⟩
   |20,_,_=>exact⟨f20,(Blk.new W _ _).cells 40,(Blk.new W _ _).cells 41,r20.keeps (Keeps.of (hbe _) _)⟩
   |21,_,_=>exact⟨f21,(Blk.new W _ _).cells 42,(Blk.new W _ _).cells 43,r21.keeps (Keeps.of (hbe _) _)⟩
   |22,_,_=>exact⟨f22,(Blk.new W _ _).cells 44,(Blk.new W _ _).cells 45,r22.keeps (Keeps.of (hbe _) _)⟩
   |23,_,_=>exact⟨f23,(Blk.new W _ _).cells 46,(Blk.new W _ _).cells 47,r23.keeps (Keeps.of (hbe _) _)⟩
   |24,_,_=>exact⟨f24,(Blk.new W _ _).cells 48,(Blk.new W _ _).cells 49,r24.keeps (Keeps.of (hbe _) _)⟩
   |k+25,_,h2=>omega
  |29,ho=>
   injection ho with ho;subst ho;refine wpOp_step rfl (fun K hK=>?_);rw[if_pos (by rfl)];have HK:=Lib.hid hK;clear hK;obtain⟨b,h,hr⟩:∃b,(a1.tmps[29]?).getD undef=.slice (some ⟨b,0,none⟩) 25 25∧RulesAt w.heap.size W b:=hdep ⟨28,.data⟩ (by simp) rfl;clear hdep;go_simp;exact HK.out _ _ ⟨_,rfl,⟨b,rfl,hr⟩,Below.refl _ _⟩
  |i+30,ho=>cases ho
 ·intro a1 W hsz hdf hb hall;obtain⟨b,h,hr⟩:∃b,(a1.tmps[0]?).getD undef=.slice (some ⟨b,0,none⟩) 25 25∧RulesAt w.heap.size W b:=hall 29 (by decide);clear hall;go_wp2;exact bodyPost_ret (v:=.slice (some ⟨b,0,none⟩) 25 25) (by simp[results,Tryz.results120,go_sem,h]) hdf ⟨⟨b,rfl,hr⟩,hb⟩
end Go.Proofs.YtfajelpcfnfjkaaGreatDoor
