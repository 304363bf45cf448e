/- A part of the proof: Uz. -/
import Derived.Deep.RegionHeld3
import Derived.Test.YtfajelpcfnfjkaaGreatDoorA00
import Derived.Test.YtfajelpcfnfjkaaGreatDoorA46
set_option linter.unusedVariables false
set_option linter.unusedSimpArgs false
namespace Go.Proofs.YtfajelpcfnfjkaaGreatDoor
open Go.RowKit
theorem two_new (w0 w:World) (hb:Below w0.heap.size w0 w) (o1 o2:Array Value) (t1 t2:TypeId):Blk ((w.alloc (.cells o1 t1)).alloc (.cells o2 t2)).drew w.heap.size t1 o1.toList∧Blk ((w.alloc (.cells o1 t1)).alloc (.cells o2 t2)).drew (w.heap.size+1) t2 o2.toList∧Below w0.heap.size w0 ((w.alloc (.cells o1 t1)).alloc (.cells o2 t2)).drew:=
 ⟨((Blk.new w t1 o1).alloc _).drew,(Blk.newAt (by rw[World.size_alloc]) t2 o2).drew,((hb.alloc hb.size _).alloc (by rw[World.size_alloc];exact Nat.le_succ_of_le hb.size) _).drew⟩
theorem one_new (w0 w:World) (hb:Below w0.heap.size w0 w) (o1:Array Value) (t1:TypeId):Blk (w.alloc (.cells o1 t1)).drew w.heap.size t1 o1.toList∧Below w0.heap.size w0 (w.alloc (.cells o1 t1)).drew:=⟨(Blk.new w t1 o1).drew,(hb.alloc hb.size _).drew⟩
theorem row_blk {α:Type} {W:World} {g:Nat} {t:TypeId} {cs:List Value} (hb:Blk W g t cs) (enc:α→List Value) (xs:List α) (hx:xs.flatMap enc=cs) (n:Nat) (hn:n=xs.length) (hm:n≤maxLen):RowAt W enc xs ⟨some ⟨g,0,none⟩,n,n⟩:=
 ⟨hn,Nat.le_refl _,hm,.inr ⟨g,0,rfl,hb.lt,fun i h=>by rw[Nat.zero_add,hb.cells i,←hx];exact List.getElem?_eq_getElem h⟩⟩
theorem law_p {w W:World} {x y1 y2:Hd} {f s p:Hd} (h:LawAt w sanL [(sanS,x)] [(sanP1,y1),(sanP2,y2)] f s p) (hb:Below w.heap.size w W) (ps:List (Pv × Hd)) (pr:List Pv) (p':Hd) (hr:RowAt W pvCells ps p') (hpl:ps.map Prod.fst=pr) (hpb:∀z∈ps,(z.1.body=sanB1∧z.2=y1)∨(z.1.body=sanB2∧z.2=y2)):LawAt W ⟨[sanF1,sanF2],[sanS],pr⟩ [(sanS,x)] ps f s p':=by
 have k:=h.below hb;refine⟨k.f,k.s,hr,rfl,hpl,k.sb,fun z hz=>?_⟩;rcases hpb z hz with⟨e1,e2⟩|⟨e1,e2⟩
 ·rw[e1,e2];exact k.pb (sanP1,y1) (by simp)
 ·rw[e1,e2];exact k.pb (sanP2,y2) (by simp)
theorem law_f {w W:World} {x y1 y2:Hd} {f s p:Hd} (h:LawAt w sanL [(sanS,x)] [(sanP1,y1),(sanP2,y2)] f s p) (hb:Below w.heap.size w W) (fs:List Dc) (f':Hd) (hr:RowAt W Dc.cells fs f'):LawAt W ⟨fs,[sanS],[sanP1,sanP2]⟩ [(sanS,x)] [(sanP1,y1),(sanP2,y2)] f' s p:=by
 have k:=h.below hb;exact⟨hr,k.s,k.p,rfl,rfl,k.sb,k.pb⟩
theorem chk_law {W:World} {l:Lw} {ss:List (Sc × Hd)} {ps:List (Pv × Hd)} {f s p:Hd} (h:LawAt W l ss ps f s p) (hL:LaidK W) (hf:FineL l) {c:Int} (hc:checkL l=c):Calls Tryz.prog 12 #[.agg #[.slice f.a f.n f.c,.slice s.a s.n s.c,.slice p.a p.n p.c]] W fun e w'=>e=.returned (.int .i64 c)∧Below W.heap.size W w':=by
 have k:=uCheck_any l ss ps f s p W hL h hf;rw[hc] at k;exact k
set_option maxRecDepth 100000 in
set_option maxHeartbeats 40000000 in
theorem sanity_any (w:World) (hL:LaidK w):Calls Tryz.prog 4 #[] w fun e w'=>e=.returned (.bool true)∧Below w.heap.size w w':=by
 have HP1:=Lib.hid (parse_yes w hL);have HLK:Hid (∀W,Below w.heap.size w W→LaidK W):=fun W hb=>hL.below hb
 clear hL;go_enter Tryz.func4,Tryz.ntmps4;go_wp2_with fail;refine HP1.out.mono ?_;rintro e w1 ⟨fa,sa,pa,fc,sc,pc,x,y1,y2,rfl,hlaw,hb1⟩;obtain⟨W1,hW1⟩:∃W1,W1=w1.alloc (.cells #[.slice fa 2 fc,.slice sa 1 sc,.slice pa 2 pc] 29):=⟨_,rfl⟩
 obtain⟨T1,hT1⟩:∃T1,T1=w1.heap.size:=⟨_,rfl⟩
 have HT1:Hid (Blk W1 T1 29 [.slice fa 2 fc,.slice sa 1 sc,.slice pa 2 pc]):=by show Blk _ _ _ _;rw[hW1,hT1];exact Blk.new w1 _ _
 have HA1:Below w1.heap.size w1 W1:=by rw[hW1];exact (Below.refl _ _).alloc (Nat.le_refl _) _
 have HB1:Hid (Below w.heap.size w W1):=bstep hb1 HA1;have HLW:=Lib.hid (hlaw.below HA1)
 have HTX:Hid (∀W,Below W1.heap.size W1 W→Calls Tryz.prog 8 #[.agg #[.slice fa 2 fc,.slice sa 1 sc,.slice pa 2 pc]] W fun e w'=>e=.returned (.tuple #[.string sanT,.int .i64 0])∧Below W.heap.size W w'):=fun W hb=>by
  have k:=uText_any _ _ _ _ _ _ W (HLK.out _ (bstep HB1.out hb)) (HLW.out.below hb) san_fineL (fun _=>⟨san_fineT,san_txt0⟩);unfold textR0 at k;rw[san_chk,if_pos rfl,san_txt] at k;exact k
 have HSG:Hid (∀W,Below W1.heap.size W1 W→Calls Tryz.prog 9 #[.agg #[.slice fa 2 fc,.slice sa 1 sc,.slice pa 2 pc]] W fun e w'=>∃(a:Option Addr) (c:Nat),e=.returned (.slice a 9 c)∧Below W.heap.size W w'):=fun W hb=>by
  refine (uSigs_any _ _ _ _ _ _ W (HLW.out.below hb) san_fineL).mono ?_;rintro e w' ⟨h,rfl,hr,hb'⟩;obtain⟨ha,hn,hc⟩:=h;obtain rfl:hn=9:=hr.len.trans san_sigs;exact⟨ha,hc,rfl,hb'⟩
 clear hb1 HA1 hlaw HP1
 go_upto_region 2 with fail
 simp only[←hW1,←hT1]
 clear hW1 hT1;have hkc:=HT1.out.cells;go_wp2_with fail;refine (HTX.out W1 (Below.refl _ _)).mono ?_;rintro e w2 ⟨rfl,hb2⟩;have hkc:=(HT1.out.below hb2 HT1.out.lt).cells;have HB2:=Lib.hid hb2;clear hb2 HTX
 go_upto_region 3 with fail
 have hst:sanT.toList=[102,97,99,116,32,105,110,99,111,109,101,32,109,49,100,48,10,102,97,99,116,32,115,105,110,103,108,101,32,116,114,117,116,104,10,115,99,104,101,100,117,108,101,32,115,99,97,108,101,32,109,49,100,48,58,32,48,32,49,47,49,48,44,32,49,48,48,48,32,49,47,53,10,112,114,111,118,105,115,105,111,110,32,97,105,100,32,109,49,100,48,32,115,116,101,112,32,49,48,32,99,97,112,32,53,48,48,58,32,105,102,40,102,97,99,116,46,115,105,110,103,108,101,44,32,36,49,48,48,44,32,100,105,118,40,111,119,110,46,116,97,120,44,32,52,41,41,10,112,114,111,118,105,115,105,111,110,32,116,97,120,32,109,49,100,48,32,99,104,97,114,103,101,58,32,114,97,116,101,46,115,99,97,108,101,40,115,117,98,40,102,97,99,116,46,105,110,99,111,109,101,44,32,111,119,110,46,97,105,100,41,41,10]:=by rw[ByteArray.toList_eq];rfl
 go_wp2_with fail;refine (HSG.out w2 HB2.out).mono ?_;rintro e w3 ⟨a9,c9,rfl,hb3⟩;have HB3:=Lib.hid (bstep HB2.out hb3);clear hb3 hkc hst HSG;obtain⟨bf,qf,rfl,hbf,hcf⟩:=rd_get HLW.out.f.rd (by decide);obtain⟨bp,qp,rfl,hbp,hcp⟩:=rd_get HLW.out.p.rd (Nat.zero_lt_succ 23);have HCF:Hid (∀W,Below W1.heap.size W1 W→∀i v,([.string ⟨#[105,110,99,111,109,101]⟩,.bool false,.int .i64 1,.int .i64 0,.string ⟨#[115,105,110,103,108,101]⟩,.bool true,.int .i64 0,.int .i64 0]:List Value)[i]?=some v→W.cell? ⟨bf,qf+i,none⟩=some v):=fun W hb i v hv=>(hb.cell (p:=⟨bf,qf+i,none⟩) hbf).trans (hcf i v hv)
 have HCP:Hid (∀W,Below W1.heap.size W1 W→∀i v,([.string ⟨#[97,105,100]⟩,.bool false,.int .i64 1,.int .i64 0,.slice y1.a y1.n y1.c,.bool false,.bool false,.string ⟨#[10]⟩,.string ⟨#[1]⟩,.bool false,.string ⟨#[1,244]⟩,.string ⟨#[1]⟩,.string ⟨#[116,97,120]⟩,.bool false,.int .i64 1,.int .i64 0,.slice y2.a y2.n y2.c,.bool true,.bool false,.string ⟨#[]⟩,.string ⟨#[]⟩,.bool false,.string ⟨#[]⟩,.string ⟨#[]⟩]:List Value)[i]?=some v→W.cell? ⟨bp,qp+i,none⟩=some v):=fun W hb i v hv=>(hb.cell (p:=⟨bp,qp+i,none⟩) hbp).trans (hcp i v hv)
 clear hbf hcf hbp hcp;have HC1:Hid (∀W,Below W1.heap.size W1 W→Blk W T1 29 [.slice (some ⟨bf,qf,none⟩) 2 fc,.slice sa 1 sc,.slice (some ⟨bp,qp,none⟩) 2 pc]):=fun W hb=>HT1.out.below hb HT1.out.lt
 go_upto_region 5 with fail
 go_cut [6] from 76 to 91 (fun v wc=>∃(T g:Nat),v=.pointer (some ⟨T,0,none⟩)∧Hid (Blk wc T 29 [.slice (some ⟨g,0,none⟩) 2 2,.slice sa 1 sc,.slice (some ⟨bp,qp,none⟩) 2 pc])∧Hid (Blk wc g 42 [.string ⟨#[97,105,100]⟩,.bool false,.int .i64 1,.int .i64 0,.string ⟨#[115,105,110,103,108,101]⟩,.bool true,.int .i64 0,.int .i64 0])∧Hid (Below W1.heap.size W1 wc))
 case first=>
  have HS5:Hid (∀W',Below w3.heap.size w3 W'→W'.cell? ⟨T1,0,none⟩=some (.slice (some ⟨bf,qf,none⟩) 2 fc)∧W'.cell? ⟨T1,1,none⟩=some (.slice sa 1 sc)∧W'.cell? ⟨T1,2,none⟩=some (.slice (some ⟨bp,qp,none⟩) 2 pc)∧W'.cell? ⟨bf,qf+1,none⟩=some (.bool false)∧W'.cell? ⟨bf,qf+2,none⟩=some (.int .i64 1)∧W'.cell? ⟨bf,qf+3,none⟩=some (.int .i64 0)∧W'.cell? ⟨bf,qf+4,none⟩=some (.string ⟨#[115,105,110,103,108,101]⟩)∧W'.cell? ⟨bf,qf+5,none⟩=some (.bool true)∧W'.cell? ⟨bf,qf+6,none⟩=some (.int .i64 0)∧W'.cell? ⟨bf,qf+7,none⟩=some (.int .i64 0)):=fun W' hb=>by
   have a1:=(HC1.out W' (bstep HB3.out hb)).cells;have a2:=HCF.out W' (bstep HB3.out hb);have a3:=HCP.out W' (bstep HB3.out hb);exact⟨a1 0,a1 1,a1 2,a2 1 _ rfl,a2 2 _ rfl,a2 3 _ rfl,a2 4 _ rfl,a2 5 _ rfl,a2 6 _ rfl,a2 7 _ rfl⟩
  refine wp_region_noPanic ?_;refine wp_region_held_drew (S:=(fun w'=>w'.cell? ⟨T1,0,none⟩=some (.slice (some ⟨bf,qf,none⟩) 2 fc)∧w'.cell? ⟨T1,1,none⟩=some (.slice sa 1 sc)∧w'.cell? ⟨T1,2,none⟩=some (.slice (some ⟨bp,qp,none⟩) 2 pc)∧w'.cell? ⟨bf,qf+1,none⟩=some (.bool false)∧w'.cell? ⟨bf,qf+2,none⟩=some (.int .i64 1)∧w'.cell? ⟨bf,qf+3,none⟩=some (.int .i64 0)∧w'.cell? ⟨bf,qf+4,none⟩=some (.string ⟨#[115,105,110,103,108,101]⟩)∧w'.cell? ⟨bf,qf+5,none⟩=some (.bool true)∧w'.cell? ⟨bf,qf+6,none⟩=some (.int .i64 0)∧w'.cell? ⟨bf,qf+7,none⟩=some (.int .i64 0))) (by kernel_rfl) (HS5.out _ (drewN_below w3.heap.size w3 1)) (fun hHeld=>?_);refine tkY 0 ?_ rfl ?_ ?_;rotate_left
  ·intro w hSw;(try dsimp only at hSw);go_simp
   all_goals with_reducible rfl
  try simp only[Act.put,tk1,tk2,tk3,tk4,tk5,tk6]
  refine tkY 1 ?_ rfl ?_ ?_;rotate_left
  ·intro w hSw;(try dsimp only at hSw);go_simp
   all_goals with_reducible rfl
  try simp only[Act.put,tk1,tk2,tk3,tk4,tk5,tk6]
  refine tkY 2 ?_ rfl ?_ ?_;rotate_left
  ·intro w hSw;(try dsimp only at hSw);go_simp
   all_goals with_reducible rfl
  try simp only[Act.put,tk1,tk2,tk3,tk4,tk5,tk6]
  refine tkY 3 ?_ rfl ?_ ?_;rotate_left
  ·intro w hSw;(try dsimp only at hSw);go_simp
   all_goals with_reducible rfl
  try simp only[Act.put,tk1,tk2,tk3,tk4,tk5,tk6]
  refine tkY 4 ?_ rfl ?_ ?_;rotate_left
  ·intro w hSw;(try dsimp only at hSw);go_simp
   all_goals with_reducible rfl
  try simp only[Act.put,tk1,tk2,tk3,tk4,tk5,tk6]
  refine tkY 5 ?_ rfl ?_ ?_;rotate_left
  ·intro w hSw;(try dsimp only at hSw);go_simp
   all_goals with_reducible rfl
  try simp only[Act.put,tk1,tk2,tk3,tk4,tk5,tk6]
  refine tkY 6 ?_ rfl ?_ ?_;rotate_left
  ·intro w hSw;(try dsimp only at hSw);go_simp
   all_goals with_reducible rfl
  try simp only[Act.put,tk1,tk2,tk3,tk4,tk5,tk6]
  refine tkY 7 ?_ rfl ?_ ?_;rotate_left
  ·intro w hSw;(try dsimp only at hSw);go_simp
   all_goals with_reducible rfl
  try simp only[Act.put,tk1,tk2,tk3,tk4,tk5,tk6]
  refine tkY 8 ?_ rfl ?_ ?_;rotate_left
  ·intro w hSw;(try dsimp only at hSw);go_simp
   all_goals with_reducible rfl
  try simp only[Act.put,tk1,tk2,tk3,tk4,tk5,tk6]
  refine tkY 9 ?_ rfl ?_ ?_;rotate_left
  ·intro w hSw;(try dsimp only at hSw);go_simp
   all_goals with_reducible rfl
  try simp only[Act.put,tk1,tk2,tk3,tk4,tk5,tk6]
  refine tkY 11 ?_ rfl ?_ ?_;rotate_left
  ·intro w hSw;(try dsimp only at hSw);go_simp
   all_goals with_reducible rfl
  try simp only[Act.put,tk1,tk2,tk3,tk4,tk5,tk6]
  refine tkY 12 ?_ rfl ?_ ?_;rotate_left
  ·intro w hSw;(try dsimp only at hSw);go_simp
   all_goals with_reducible rfl
  try simp only[Act.put,tk1,tk2,tk3,tk4,tk5,tk6]
  refine tkY 13 ?_ rfl ?_ ?_;rotate_left
  ·intro w hSw;(try dsimp only at hSw);go_simp
   all_goals with_reducible rfl
  try simp only[Act.put,tk1,tk2,tk3,tk4,tk5,tk6]
  refine tkY 14 ?_ rfl ?_ ?_;rotate_left
  ·intro w hSw;(try dsimp only at hSw);go_simp
   all_goals with_reducible rfl
  try simp only[Act.put,tk1,tk2,tk3,tk4,tk5,tk6]
  refine wpAnyH_ready (rs:=[10,16]) (by kernel_rfl) (by simp) ?_;refine AllReadyH.cons rfl (fun K hK=>?_) (AllReadyH.cons rfl (fun K hK=>?_) AllReadyH.nil)
  ·go_simp
   skip
   go_wp2_with fail;refine hK.out _ _ ?_ (fun hHeld=>?_)
   ·exact HS5.out _ ((drewN_below w3.heap.size w3 1).alloc (drewN_below w3.heap.size w3 1).size _)
   clear hK K
   try simp only[Act.put,tk1,tk2,tk3,tk4,tk5,tk6]
   refine tkY 15 ?_ rfl ?_ ?_;rotate_left
   ·intro w hSw;(try dsimp only at hSw);go_simp
    all_goals with_reducible rfl
   try simp only[Act.put,tk1,tk2,tk3,tk4,tk5,tk6]
   refine wpAnyH_ready (rs:=[16]) (by kernel_rfl) (by simp) ?_;refine AllReadyH.cons rfl (fun K hK=>?_) AllReadyH.nil;go_simp
   skip
   go_wp2_with fail;refine hK.out _ _ ?_ (fun hHeld=>?_)
   ·exact HS5.out _ (two_new w3 w3 (Below.refl _ _) _ _ _ _).2.2
   clear hK K
   try simp only[Act.put,tk1,tk2,tk3,tk4,tk5,tk6]
   refine wpAnyH_ready (rs:=[17]) (by kernel_rfl) (by simp) ?_;refine AllReadyH.cons rfl (fun K hK=>?_) AllReadyH.nil;go_simp
   skip
   go_wp2_with fail;refine hK.out _ _ ?_ (fun hHeld=>?_)
   ·exact HS5.out _ (two_new w3 w3 (Below.refl _ _) _ _ _ _).2.2
   clear hK K
   try simp only[Act.put,tk1,tk2,tk3,tk4,tk5,tk6]
   refine wpAnyH_done (by kernel_rfl) ?_ _;refine NoPanic.normal ?_;go_wp2
   go_meet
   case rel=>first|exact (have h:=two_new W1 w3 HB3.out _ _ _ _;⟨_,_,rfl,h.1,h.2.1,h.2.2⟩)|exact (have h:=two_new W1 w3 HB3.out _ _ _ _;⟨_,_,rfl,h.2.1,h.1,h.2.2⟩)
  ·go_simp
   skip
   go_wp2_with fail;refine hK.out _ _ ?_ (fun hHeld=>?_)
   ·exact HS5.out _ ((drewN_below w3.heap.size w3 1).alloc (drewN_below w3.heap.size w3 1).size _)
   clear hK K
   try simp only[Act.put,tk1,tk2,tk3,tk4,tk5,tk6]
   refine wpAnyH_ready (rs:=[10]) (by kernel_rfl) (by simp) ?_;refine AllReadyH.cons rfl (fun K hK=>?_) AllReadyH.nil;go_simp
   skip
   go_wp2_with fail;refine hK.out _ _ ?_ (fun hHeld=>?_)
   ·exact HS5.out _ (two_new w3 w3 (Below.refl _ _) _ _ _ _).2.2
   clear hK K
   try simp only[Act.put,tk1,tk2,tk3,tk4,tk5,tk6]
   refine tkY 15 ?_ rfl ?_ ?_;rotate_left
   ·intro w hSw;(try dsimp only at hSw);go_simp
    all_goals with_reducible rfl
   try simp only[Act.put,tk1,tk2,tk3,tk4,tk5,tk6]
   refine wpAnyH_ready (rs:=[17]) (by kernel_rfl) (by simp) ?_;refine AllReadyH.cons rfl (fun K hK=>?_) AllReadyH.nil;go_simp
   skip
   go_wp2_with fail;refine hK.out _ _ ?_ (fun hHeld=>?_)
   ·exact HS5.out _ (two_new w3 w3 (Below.refl _ _) _ _ _ _).2.2
   clear hK K
   try simp only[Act.put,tk1,tk2,tk3,tk4,tk5,tk6]
   refine wpAnyH_done (by kernel_rfl) ?_ _;refine NoPanic.normal ?_;go_wp2
   go_meet
   case rel=>first|exact (have h:=two_new W1 w3 HB3.out _ _ _ _;⟨_,_,rfl,h.1,h.2.1,h.2.2⟩)|exact (have h:=two_new W1 w3 HB3.out _ _ _ _;⟨_,_,rfl,h.2.1,h.1,h.2.2⟩)
 case rest=>
  obtain⟨T6,g6,rfl,HT6,HG6,HB5⟩:=hcut;obtain⟨c5,rfl⟩:∃c5,c5=wc:=⟨_,rfl⟩
  have hpc1:¬pc=1:=by have:2≤pc:=HLW.out.p.cap;omega
  go_upto_region 6 with fail
  go_cut [7] from 92 to 99 (fun v wc=>∃(T:Nat),v=.pointer (some ⟨T,0,none⟩)∧Hid (Blk wc T 29 [.slice (some ⟨bf,qf,none⟩) 2 fc,.slice sa 1 sc,.slice (some ⟨bp,qp+12,none⟩) 1 (pc-1)])∧Hid (Below c5.heap.size c5 wc))
  case first=>
   have k0:=(HC1.out c5 HB5.out).cells;have ka:∀o,Blk (c5.alloc o) T1 29 [.slice (some ⟨bf,qf,none⟩) 2 fc,.slice sa 1 sc,.slice (some ⟨bp,qp,none⟩) 2 pc]:=fun o=>HC1.out _ (HB5.out.alloc HB5.out.size o)
   have ka0:∀o,(c5.alloc o).cell? ⟨T1,0,none⟩=some (.slice (some ⟨bf,qf,none⟩) 2 fc):=fun o=>(ka o).cells 0
   have ka1:∀o,(c5.alloc o).cell? ⟨T1,1,none⟩=some (.slice sa 1 sc):=fun o=>(ka o).cells 1
   have ka2:∀o,(c5.alloc o).cell? ⟨T1,2,none⟩=some (.slice (some ⟨bp,qp,none⟩) 2 pc):=fun o=>(ka o).cells 2
   clear ka;go_region
   all_goals
    go_wp2_with fail
    go_meet
    case rel=>exact (have h:=one_new c5 c5 (Below.refl _ _) _ _;⟨_,rfl,h.1,h.2⟩)
  case rest=>
   obtain⟨T7,rfl,HT7,HB65⟩:=hcut;obtain⟨c6,rfl⟩:∃c6,c6=wc:=⟨_,rfl⟩
   have HB6:=Lib.hid (bstep HB5.out HB65.out)
   go_upto_region 7 with fail
   go_cut [8] from 100 to 113 (fun v wc=>∃(T g:Nat),v=.pointer (some ⟨T,0,none⟩)∧Hid (Blk wc T 29 [.slice (some ⟨bf,qf,none⟩) 2 fc,.slice sa 1 sc,.slice (some ⟨g,0,none⟩) 2 2])∧Hid (Blk wc g 48 [.string ⟨#[116,97,120]⟩,.bool false,.int .i64 1,.int .i64 0,.slice y2.a y2.n y2.c,.bool true,.bool false,.string ⟨#[]⟩,.string ⟨#[]⟩,.bool false,.string ⟨#[]⟩,.string ⟨#[]⟩,.string ⟨#[97,105,100]⟩,.bool false,.int .i64 1,.int .i64 0,.slice y1.a y1.n y1.c,.bool false,.bool false,.string ⟨#[10]⟩,.string ⟨#[1]⟩,.bool false,.string ⟨#[1,244]⟩,.string ⟨#[1]⟩])∧Hid (Below c6.heap.size c6 wc))
   case first=>
    have HS7:Hid (∀W',Below c6.heap.size c6 W'→W'.cell? ⟨T1,0,none⟩=some (.slice (some ⟨bf,qf,none⟩) 2 fc)∧W'.cell? ⟨T1,1,none⟩=some (.slice sa 1 sc)∧W'.cell? ⟨T1,2,none⟩=some (.slice (some ⟨bp,qp,none⟩) 2 pc)∧W'.cell? ⟨bp,qp,none⟩=some (.string ⟨#[97,105,100]⟩)∧W'.cell? ⟨bp,qp+1,none⟩=some (.bool false)∧W'.cell? ⟨bp,qp+2,none⟩=some (.int .i64 1)∧W'.cell? ⟨bp,qp+3,none⟩=some (.int .i64 0)∧W'.cell? ⟨bp,qp+4,none⟩=some (.slice y1.a y1.n y1.c)∧W'.cell? ⟨bp,qp+5,none⟩=some (.bool false)∧W'.cell? ⟨bp,qp+6,none⟩=some (.bool false)∧W'.cell? ⟨bp,qp+7,none⟩=some (.string ⟨#[10]⟩)∧W'.cell? ⟨bp,qp+8,none⟩=some (.string ⟨#[1]⟩)∧W'.cell? ⟨bp,qp+9,none⟩=some (.bool false)∧W'.cell? ⟨bp,qp+10,none⟩=some (.string ⟨#[1,244]⟩)∧W'.cell? ⟨bp,qp+11,none⟩=some (.string ⟨#[1]⟩)∧W'.cell? ⟨bp,qp+12,none⟩=some (.string ⟨#[116,97,120]⟩)∧W'.cell? ⟨bp,qp+13,none⟩=some (.bool false)∧W'.cell? ⟨bp,qp+14,none⟩=some (.int .i64 1)∧W'.cell? ⟨bp,qp+15,none⟩=some (.int .i64 0)∧W'.cell? ⟨bp,qp+16,none⟩=some (.slice y2.a y2.n y2.c)∧W'.cell? ⟨bp,qp+17,none⟩=some (.bool true)∧W'.cell? ⟨bp,qp+18,none⟩=some (.bool false)∧W'.cell? ⟨bp,qp+19,none⟩=some (.string ⟨#[]⟩)∧W'.cell? ⟨bp,qp+20,none⟩=some (.string ⟨#[]⟩)∧W'.cell? ⟨bp,qp+21,none⟩=some (.bool false)∧W'.cell? ⟨bp,qp+22,none⟩=some (.string ⟨#[]⟩)∧W'.cell? ⟨bp,qp+23,none⟩=some (.string ⟨#[]⟩)):=fun W' hb=>by
     have a1:=(HC1.out W' (bstep HB6.out hb)).cells;have a2:=HCF.out W' (bstep HB6.out hb);have a3:=HCP.out W' (bstep HB6.out hb);exact⟨a1 0,a1 1,a1 2,a3 0 _ rfl,a3 1 _ rfl,a3 2 _ rfl,a3 3 _ rfl,a3 4 _ rfl,a3 5 _ rfl,a3 6 _ rfl,a3 7 _ rfl,a3 8 _ rfl,a3 9 _ rfl,a3 10 _ rfl,a3 11 _ rfl,a3 12 _ rfl,a3 13 _ rfl,a3 14 _ rfl,a3 15 _ rfl,a3 16 _ rfl,a3 17 _ rfl,a3 18 _ rfl,a3 19 _ rfl,a3 20 _ rfl,a3 21 _ rfl,a3 22 _ rfl,a3 23 _ rfl⟩
    refine wp_region_noPanic ?_;refine wp_region_held_drew (S:=(fun w'=>w'.cell? ⟨T1,0,none⟩=some (.slice (some ⟨bf,qf,none⟩) 2 fc)∧w'.cell? ⟨T1,1,none⟩=some (.slice sa 1 sc)∧w'.cell? ⟨T1,2,none⟩=some (.slice (some ⟨bp,qp,none⟩) 2 pc)∧w'.cell? ⟨bp,qp,none⟩=some (.string ⟨#[97,105,100]⟩)∧w'.cell? ⟨bp,qp+1,none⟩=some (.bool false)∧w'.cell? ⟨bp,qp+2,none⟩=some (.int .i64 1)∧w'.cell? ⟨bp,qp+3,none⟩=some (.int .i64 0)∧w'.cell? ⟨bp,qp+4,none⟩=some (.slice y1.a y1.n y1.c)∧w'.cell? ⟨bp,qp+5,none⟩=some (.bool false)∧w'.cell? ⟨bp,qp+6,none⟩=some (.bool false)∧w'.cell? ⟨bp,qp+7,none⟩=some (.string ⟨#[10]⟩)∧w'.cell? ⟨bp,qp+8,none⟩=some (.string ⟨#[1]⟩)∧w'.cell? ⟨bp,qp+9,none⟩=some (.bool false)∧w'.cell? ⟨bp,qp+10,none⟩=some (.string ⟨#[1,244]⟩)∧w'.cell? ⟨bp,qp+11,none⟩=some (.string ⟨#[1]⟩)∧w'.cell? ⟨bp,qp+12,none⟩=some (.string ⟨#[116,97,120]⟩)∧w'.cell? ⟨bp,qp+13,none⟩=some (.bool false)∧w'.cell? ⟨bp,qp+14,none⟩=some (.int .i64 1)∧w'.cell? ⟨bp,qp+15,none⟩=some (.int .i64 0)∧w'.cell? ⟨bp,qp+16,none⟩=some (.slice y2.a y2.n y2.c)∧w'.cell? ⟨bp,qp+17,none⟩=some (.bool true)∧w'.cell? ⟨bp,qp+18,none⟩=some (.bool false)∧w'.cell? ⟨bp,qp+19,none⟩=some (.string ⟨#[]⟩)∧w'.cell? ⟨bp,qp+20,none⟩=some (.string ⟨#[]⟩)∧w'.cell? ⟨bp,qp+21,none⟩=some (.bool false)∧w'.cell? ⟨bp,qp+22,none⟩=some (.string ⟨#[]⟩)∧w'.cell? ⟨bp,qp+23,none⟩=some (.string ⟨#[]⟩))) (by kernel_rfl) (HS7.out _ (drewN_below c6.heap.size c6 1)) (fun hHeld=>?_);refine tkY 0 ?_ rfl ?_ ?_;rotate_left
    ·intro w hSw;(try dsimp only at hSw);go_simp
     all_goals with_reducible rfl
    try simp only[Act.put,tk1,tk2,tk3,tk4,tk5,tk6]
    refine tkY 1 ?_ rfl ?_ ?_;rotate_left
    ·intro w hSw;(try dsimp only at hSw);go_simp
     all_goals with_reducible rfl
    try simp only[Act.put,tk1,tk2,tk3,tk4,tk5,tk6]
    refine tkY 2 ?_ rfl ?_ ?_;rotate_left
    ·intro w hSw;(try dsimp only at hSw);go_simp
     all_goals with_reducible rfl
    try simp only[Act.put,tk1,tk2,tk3,tk4,tk5,tk6]
    refine tkY 3 ?_ rfl ?_ ?_;rotate_left
    ·intro w hSw;(try dsimp only at hSw);go_simp
     all_goals with_reducible rfl
    try simp only[Act.put,tk1,tk2,tk3,tk4,tk5,tk6]
    refine tkY 4 ?_ rfl ?_ ?_;rotate_left
    ·intro w hSw;(try dsimp only at hSw);go_simp
     all_goals with_reducible rfl
    try simp only[Act.put,tk1,tk2,tk3,tk4,tk5,tk6]
    refine tkY 5 ?_ rfl ?_ ?_;rotate_left
    ·intro w hSw;(try dsimp only at hSw);go_simp
     all_goals with_reducible rfl
    try simp only[Act.put,tk1,tk2,tk3,tk4,tk5,tk6]
    refine tkY 6 ?_ rfl ?_ ?_;rotate_left
    ·intro w hSw;(try dsimp only at hSw);go_simp
     all_goals with_reducible rfl
    try simp only[Act.put,tk1,tk2,tk3,tk4,tk5,tk6]
    refine tkY 7 ?_ rfl ?_ ?_;rotate_left
    ·intro w hSw;(try dsimp only at hSw);go_simp
     all_goals with_reducible rfl
    try simp only[Act.put,tk1,tk2,tk3,tk4,tk5,tk6]
    refine tkY 8 ?_ rfl ?_ ?_;rotate_left
    ·intro w hSw;(try dsimp only at hSw);go_simp
     all_goals with_reducible rfl
    try simp only[Act.put,tk1,tk2,tk3,tk4,tk5,tk6]
    refine tkY 9 ?_ rfl ?_ ?_;rotate_left
    ·intro w hSw;(try dsimp only at hSw);go_simp
     all_goals with_reducible rfl
    try simp only[Act.put,tk1,tk2,tk3,tk4,tk5,tk6]
    refine tkY 10 ?_ rfl ?_ ?_;rotate_left
    ·intro w hSw;(try dsimp only at hSw);go_simp
     all_goals with_reducible rfl
    try simp only[Act.put,tk1,tk2,tk3,tk4,tk5,tk6]
    refine tkY 11 ?_ rfl ?_ ?_;rotate_left
    ·intro w hSw;(try dsimp only at hSw);go_simp
     all_goals with_reducible rfl
    try simp only[Act.put,tk1,tk2,tk3,tk4,tk5,tk6]
    refine wpAnyH_ready (rs:=[12,14]) (by kernel_rfl) (by simp) ?_;refine AllReadyH.cons rfl (fun K hK=>?_) (AllReadyH.cons rfl (fun K hK=>?_) AllReadyH.nil)
    ·go_simp
     skip
     go_wp2_with fail;refine hK.out _ _ ?_ (fun hHeld=>?_)
     ·exact HS7.out _ ((drewN_below c6.heap.size c6 1).alloc (drewN_below c6.heap.size c6 1).size _)
     clear hK K
     try simp only[Act.put,tk1,tk2,tk3,tk4,tk5,tk6]
     refine tkY 13 ?_ rfl ?_ ?_;rotate_left
     ·intro w hSw;(try dsimp only at hSw);go_simp
      all_goals with_reducible rfl
     try simp only[Act.put,tk1,tk2,tk3,tk4,tk5,tk6]
     refine wpAnyH_ready (rs:=[14]) (by kernel_rfl) (by simp) ?_;refine AllReadyH.cons rfl (fun K hK=>?_) AllReadyH.nil;go_simp
     skip
     go_wp2_with fail;refine hK.out _ _ ?_ (fun hHeld=>?_)
     ·exact HS7.out _ (two_new c6 c6 (Below.refl _ _) _ _ _ _).2.2
     clear hK K
     try simp only[Act.put,tk1,tk2,tk3,tk4,tk5,tk6]
     refine wpAnyH_ready (rs:=[15]) (by kernel_rfl) (by simp) ?_;refine AllReadyH.cons rfl (fun K hK=>?_) AllReadyH.nil;go_simp
     skip
     go_wp2_with fail;refine hK.out _ _ ?_ (fun hHeld=>?_)
     ·exact HS7.out _ (two_new c6 c6 (Below.refl _ _) _ _ _ _).2.2
     clear hK K
     try simp only[Act.put,tk1,tk2,tk3,tk4,tk5,tk6]
     refine wpAnyH_done (by kernel_rfl) ?_ _;refine NoPanic.normal ?_;go_wp2
     go_meet
     case rel=>first|exact (have h:=two_new c6 c6 (Below.refl _ _) _ _ _ _;⟨_,_,rfl,h.1,h.2.1,h.2.2⟩)|exact (have h:=two_new c6 c6 (Below.refl _ _) _ _ _ _;⟨_,_,rfl,h.2.1,h.1,h.2.2⟩)
    ·go_simp
     skip
     go_wp2_with fail;refine hK.out _ _ ?_ (fun hHeld=>?_)
     ·exact HS7.out _ ((drewN_below c6.heap.size c6 1).alloc (drewN_below c6.heap.size c6 1).size _)
     clear hK K
     try simp only[Act.put,tk1,tk2,tk3,tk4,tk5,tk6]
     refine wpAnyH_ready (rs:=[12]) (by kernel_rfl) (by simp) ?_;refine AllReadyH.cons rfl (fun K hK=>?_) AllReadyH.nil;go_simp
     skip
     go_wp2_with fail;refine hK.out _ _ ?_ (fun hHeld=>?_)
     ·exact HS7.out _ (two_new c6 c6 (Below.refl _ _) _ _ _ _).2.2
     clear hK K
     try simp only[Act.put,tk1,tk2,tk3,tk4,tk5,tk6]
     refine tkY 13 ?_ rfl ?_ ?_;rotate_left
     ·intro w hSw;(try dsimp only at hSw);go_simp
      all_goals with_reducible rfl
     try simp only[Act.put,tk1,tk2,tk3,tk4,tk5,tk6]
     refine wpAnyH_ready (rs:=[15]) (by kernel_rfl) (by simp) ?_;refine AllReadyH.cons rfl (fun K hK=>?_) AllReadyH.nil;go_simp
     skip
     go_wp2_with fail;refine hK.out _ _ ?_ (fun hHeld=>?_)
     ·exact HS7.out _ (two_new c6 c6 (Below.refl _ _) _ _ _ _).2.2
     clear hK K
     try simp only[Act.put,tk1,tk2,tk3,tk4,tk5,tk6]
     refine wpAnyH_done (by kernel_rfl) ?_ _;refine NoPanic.normal ?_;go_wp2
     go_meet
     case rel=>first|exact (have h:=two_new c6 c6 (Below.refl _ _) _ _ _ _;⟨_,_,rfl,h.1,h.2.1,h.2.2⟩)|exact (have h:=two_new c6 c6 (Below.refl _ _) _ _ _ _;⟨_,_,rfl,h.2.1,h.1,h.2.2⟩)
   case rest=>
    obtain⟨T8,g8,rfl,HT8,HG8,HB76⟩:=hcut;obtain⟨c7,rfl⟩:∃c7,c7=wc:=⟨_,rfl⟩
    have HB7:=Lib.hid (bstep HB6.out HB76.out)
    have HO5:Hid (∀W,Calls Tryz.prog 10 #[.int .i64 505] W fun e w'=>e=.returned (.agg #[.bool false,.string ⟨#[1,249]⟩,.string ⟨#[1]⟩])∧Below W.heap.size W w'):=fun W=>by
     have k:=tOf_any 505 W (by decide) (by decide);rw[show nbs (505:Int).toNat=⟨#[1,249]⟩ by decide+kernel,show nbs 1=⟨#[1]⟩ by decide+kernel] at k;exact k
    have HO0:Hid (∀W,Calls Tryz.prog 10 #[.int .i64 0] W fun e w'=>e=.returned (.agg #[.bool false,.string ⟨#[]⟩,.string ⟨#[1]⟩])∧Below W.heap.size W w'):=fun W=>by
     have k:=tOf_any 0 W (by decide) (by decide);rw[show nbs (0:Int).toNat=⟨#[]⟩ by decide+kernel,show nbs 1=⟨#[1]⟩ by decide+kernel] at k;exact k
    have HKN:Hid (∀W,Calls Tryz.prog 11 #[.int .i64 0,.int .i64 0] W fun e w'=>e=.returned (.agg #[.bool false,.int .i64 0,.int .i64 0])∧Below W.heap.size W w'):=fun W=>kindN_any 0 0 W
    have hk8:=(HC1.out c7 HB7.out).cells;have p8x0:c7.cell? ⟨bp,qp,none⟩=some (.string ⟨#[97,105,100]⟩):=HCP.out c7 HB7.out 0 _ rfl;have p8x1:c7.cell? ⟨bp,qp+1,none⟩=some (.bool false):=HCP.out c7 HB7.out 1 _ rfl;have p8x2:c7.cell? ⟨bp,qp+2,none⟩=some (.int .i64 1):=HCP.out c7 HB7.out 2 _ rfl;have p8x3:c7.cell? ⟨bp,qp+3,none⟩=some (.int .i64 0):=HCP.out c7 HB7.out 3 _ rfl;have p8x4:c7.cell? ⟨bp,qp+4,none⟩=some (.slice y1.a y1.n y1.c):=HCP.out c7 HB7.out 4 _ rfl;have p8x5:c7.cell? ⟨bp,qp+5,none⟩=some (.bool false):=HCP.out c7 HB7.out 5 _ rfl;have p8x6:c7.cell? ⟨bp,qp+6,none⟩=some (.bool false):=HCP.out c7 HB7.out 6 _ rfl;have p8x7:c7.cell? ⟨bp,qp+7,none⟩=some (.string ⟨#[10]⟩):=HCP.out c7 HB7.out 7 _ rfl;have p8x8:c7.cell? ⟨bp,qp+8,none⟩=some (.string ⟨#[1]⟩):=HCP.out c7 HB7.out 8 _ rfl;have p8x9:c7.cell? ⟨bp,qp+9,none⟩=some (.bool false):=HCP.out c7 HB7.out 9 _ rfl;have p8x10:c7.cell? ⟨bp,qp+10,none⟩=some (.string ⟨#[1,244]⟩):=HCP.out c7 HB7.out 10 _ rfl;have p8x11:c7.cell? ⟨bp,qp+11,none⟩=some (.string ⟨#[1]⟩):=HCP.out c7 HB7.out 11 _ rfl
    go_upto_region 9 with fail
    obtain⟨c8,hc8⟩:∃c8,c8=c7.alloc (.cells #[.string ⟨#[97,105,100]⟩,.bool false,.int .i64 1,.int .i64 0,.slice y1.a y1.n y1.c,.bool false,.bool false,.string ⟨#[10]⟩,.string ⟨#[1]⟩,.bool false,.string ⟨#[1,244]⟩,.string ⟨#[1]⟩] 48):=⟨_,rfl⟩
    obtain⟨T9,hT9⟩:∃T9,T9=c7.heap.size:=⟨_,rfl⟩
    have HT9:Hid (Blk c8 T9 48 [.string ⟨#[97,105,100]⟩,.bool false,.int .i64 1,.int .i64 0,.slice y1.a y1.n y1.c,.bool false,.bool false,.string ⟨#[10]⟩,.string ⟨#[1]⟩,.bool false,.string ⟨#[1,244]⟩,.string ⟨#[1]⟩]):=by show Blk _ _ _ _;rw[hc8,hT9];exact Blk.new c7 _ _
    have HBc8:Hid (Below c7.heap.size c7 c8):=by show Below _ _ _;rw[hc8];exact (Below.refl _ _).alloc (Nat.le_refl _) _
    have HZT9:Hid (T9=c7.heap.size):=hT9;simp only[←hc8,←hT9]
    clear hc8 hT9 hk8 p8x0 p8x1 p8x2 p8x3 p8x4 p8x5 p8x6 p8x7 p8x8 p8x9 p8x10 p8x11;have HWT9:Hid (c7.heap.size≤c7.heap.size):=Nat.le_refl _;go_wp2_with fail;refine (HO5.out c8).mono ?_;rintro e c9a ⟨rfl,hba⟩;have HQT9:=Lib.hid (HT9.out.below hba HT9.out.lt);have hqT9c:=HQT9.out.cells;have hqT9f:=HQT9.out.froz;have HAc9:=Lib.hid (bstep HBc8.out hba);clear hba
    go_upto_region 10 with fail
    obtain⟨c9,hc9⟩:∃c9,c9=(((c9a.setCell ⟨T9,9,none⟩ (.bool false)).setCell ⟨T9,10,none⟩ (.string ⟨#[1,249]⟩)).setCell ⟨T9,11,none⟩ (.string ⟨#[1]⟩)):=⟨_,rfl⟩
    have HNT9:Hid (Blk c9 T9 48 [.string ⟨#[97,105,100]⟩,.bool false,.int .i64 1,.int .i64 0,.slice y1.a y1.n y1.c,.bool false,.bool false,.string ⟨#[10]⟩,.string ⟨#[1]⟩,.bool false,.string ⟨#[1,249]⟩,.string ⟨#[1]⟩]):=by show Blk _ _ _ _;rw[hc9];exact (((HQT9.out.set 9 (.bool false)).set 10 (.string ⟨#[1,249]⟩)).set 11 (.string ⟨#[1]⟩))
    have HBc9:Hid (Below c7.heap.size c7 c9):=by show Below _ _ _;rw[hc9];exact (((HAc9.out.setCell (p:=⟨T9,9,none⟩) (by show _≤T9;rw[HZT9.out];exact HWT9.out) _).setCell (p:=⟨T9,10,none⟩) (by show _≤T9;rw[HZT9.out];exact HWT9.out) _).setCell (p:=⟨T9,11,none⟩) (by show _≤T9;rw[HZT9.out];exact HWT9.out) _)
    simp only[←hc9]
    clear hc9 hqT9c hqT9f HQT9 HT9;have HB9:=Lib.hid (bstep HB7.out HBc9.out);have hk10:=(HC1.out c9 HB9.out).cells;have p10x0:c9.cell? ⟨bp,qp,none⟩=some (.string ⟨#[97,105,100]⟩):=HCP.out c9 HB9.out 0 _ rfl;have p10x1:c9.cell? ⟨bp,qp+1,none⟩=some (.bool false):=HCP.out c9 HB9.out 1 _ rfl;have p10x2:c9.cell? ⟨bp,qp+2,none⟩=some (.int .i64 1):=HCP.out c9 HB9.out 2 _ rfl;have p10x3:c9.cell? ⟨bp,qp+3,none⟩=some (.int .i64 0):=HCP.out c9 HB9.out 3 _ rfl;have p10x4:c9.cell? ⟨bp,qp+4,none⟩=some (.slice y1.a y1.n y1.c):=HCP.out c9 HB9.out 4 _ rfl;have p10x5:c9.cell? ⟨bp,qp+5,none⟩=some (.bool false):=HCP.out c9 HB9.out 5 _ rfl;have p10x6:c9.cell? ⟨bp,qp+6,none⟩=some (.bool false):=HCP.out c9 HB9.out 6 _ rfl;have p10x7:c9.cell? ⟨bp,qp+7,none⟩=some (.string ⟨#[10]⟩):=HCP.out c9 HB9.out 7 _ rfl;have p10x8:c9.cell? ⟨bp,qp+8,none⟩=some (.string ⟨#[1]⟩):=HCP.out c9 HB9.out 8 _ rfl;have p10x9:c9.cell? ⟨bp,qp+9,none⟩=some (.bool false):=HCP.out c9 HB9.out 9 _ rfl;have p10x10:c9.cell? ⟨bp,qp+10,none⟩=some (.string ⟨#[1,244]⟩):=HCP.out c9 HB9.out 10 _ rfl;have p10x11:c9.cell? ⟨bp,qp+11,none⟩=some (.string ⟨#[1]⟩):=HCP.out c9 HB9.out 11 _ rfl
    go_upto_region 11 with fail
    obtain⟨ca,hca⟩:∃ca,ca=c9.alloc (.cells #[.string ⟨#[97,105,100]⟩,.bool false,.int .i64 1,.int .i64 0,.slice y1.a y1.n y1.c,.bool false,.bool false,.string ⟨#[10]⟩,.string ⟨#[1]⟩,.bool false,.string ⟨#[1,244]⟩,.string ⟨#[1]⟩] 48):=⟨_,rfl⟩
    obtain⟨Ta,hTa⟩:∃Ta,Ta=c9.heap.size:=⟨_,rfl⟩
    have HTa:Hid (Blk ca Ta 48 [.string ⟨#[97,105,100]⟩,.bool false,.int .i64 1,.int .i64 0,.slice y1.a y1.n y1.c,.bool false,.bool false,.string ⟨#[10]⟩,.string ⟨#[1]⟩,.bool false,.string ⟨#[1,244]⟩,.string ⟨#[1]⟩]):=by show Blk _ _ _ _;rw[hca,hTa];exact Blk.new c9 _ _
    have HBca:Hid (Below c9.heap.size c9 ca):=by show Below _ _ _;rw[hca];exact (Below.refl _ _).alloc (Nat.le_refl _) _
    have HZTa:Hid (Ta=c9.heap.size):=hTa;simp only[←hca,←hTa]
    clear hca hTa hk10 p10x0 p10x1 p10x2 p10x3 p10x4 p10x5 p10x6 p10x7 p10x8 p10x9 p10x10 p10x11;have HWTa:Hid (c9.heap.size≤c9.heap.size):=Nat.le_refl _;go_wp2_with fail;refine (HO0.out ca).mono ?_;rintro e cba ⟨rfl,hba⟩;have HQTa:=Lib.hid (HTa.out.below hba HTa.out.lt);have hqTac:=HQTa.out.cells;have hqTaf:=HQTa.out.froz;have HAcb:=Lib.hid (bstep HBca.out hba);clear hba
    go_upto_region 12 with fail
    obtain⟨cb,hcb⟩:∃cb,cb=(((cba.setCell ⟨Ta,6,none⟩ (.bool false)).setCell ⟨Ta,7,none⟩ (.string ⟨#[]⟩)).setCell ⟨Ta,8,none⟩ (.string ⟨#[1]⟩)):=⟨_,rfl⟩
    have HNTa:Hid (Blk cb Ta 48 [.string ⟨#[97,105,100]⟩,.bool false,.int .i64 1,.int .i64 0,.slice y1.a y1.n y1.c,.bool false,.bool false,.string ⟨#[]⟩,.string ⟨#[1]⟩,.bool false,.string ⟨#[1,244]⟩,.string ⟨#[1]⟩]):=by show Blk _ _ _ _;rw[hcb];exact (((HQTa.out.set 6 (.bool false)).set 7 (.string ⟨#[]⟩)).set 8 (.string ⟨#[1]⟩))
    have HBcb:Hid (Below c9.heap.size c9 cb):=by show Below _ _ _;rw[hcb];exact (((HAcb.out.setCell (p:=⟨Ta,6,none⟩) (by show _≤Ta;rw[HZTa.out];exact HWTa.out) _).setCell (p:=⟨Ta,7,none⟩) (by show _≤Ta;rw[HZTa.out];exact HWTa.out) _).setCell (p:=⟨Ta,8,none⟩) (by show _≤Ta;rw[HZTa.out];exact HWTa.out) _)
    simp only[←hcb]
    clear hcb hqTac hqTaf HQTa HTa;have HBb:=Lib.hid (bstep HB9.out HBcb.out);have HN9b:=Lib.hid (HNT9.out.below HBcb.out HNT9.out.lt);have hk12:=(HC1.out cb HBb.out).cells;have p12x0:cb.cell? ⟨bp,qp+12,none⟩=some (.string ⟨#[116,97,120]⟩):=HCP.out cb HBb.out 12 _ rfl;have p12x1:cb.cell? ⟨bp,qp+13,none⟩=some (.bool false):=HCP.out cb HBb.out 13 _ rfl;have p12x2:cb.cell? ⟨bp,qp+14,none⟩=some (.int .i64 1):=HCP.out cb HBb.out 14 _ rfl;have p12x3:cb.cell? ⟨bp,qp+15,none⟩=some (.int .i64 0):=HCP.out cb HBb.out 15 _ rfl;have p12x4:cb.cell? ⟨bp,qp+16,none⟩=some (.slice y2.a y2.n y2.c):=HCP.out cb HBb.out 16 _ rfl;have p12x5:cb.cell? ⟨bp,qp+17,none⟩=some (.bool true):=HCP.out cb HBb.out 17 _ rfl;have p12x6:cb.cell? ⟨bp,qp+18,none⟩=some (.bool false):=HCP.out cb HBb.out 18 _ rfl;have p12x7:cb.cell? ⟨bp,qp+19,none⟩=some (.string ⟨#[]⟩):=HCP.out cb HBb.out 19 _ rfl;have p12x8:cb.cell? ⟨bp,qp+20,none⟩=some (.string ⟨#[]⟩):=HCP.out cb HBb.out 20 _ rfl;have p12x9:cb.cell? ⟨bp,qp+21,none⟩=some (.bool false):=HCP.out cb HBb.out 21 _ rfl;have p12x10:cb.cell? ⟨bp,qp+22,none⟩=some (.string ⟨#[]⟩):=HCP.out cb HBb.out 22 _ rfl;have p12x11:cb.cell? ⟨bp,qp+23,none⟩=some (.string ⟨#[]⟩):=HCP.out cb HBb.out 23 _ rfl
    go_upto_region 13 with fail
    obtain⟨cc,hcc⟩:∃cc,cc=cb.alloc (.cells #[.string ⟨#[116,97,120]⟩,.bool false,.int .i64 1,.int .i64 0,.slice y2.a y2.n y2.c,.bool true,.bool false,.string ⟨#[]⟩,.string ⟨#[]⟩,.bool false,.string ⟨#[]⟩,.string ⟨#[]⟩] 48):=⟨_,rfl⟩
    obtain⟨Tb,hTb⟩:∃Tb,Tb=cb.heap.size:=⟨_,rfl⟩
    have HTb:Hid (Blk cc Tb 48 [.string ⟨#[116,97,120]⟩,.bool false,.int .i64 1,.int .i64 0,.slice y2.a y2.n y2.c,.bool true,.bool false,.string ⟨#[]⟩,.string ⟨#[]⟩,.bool false,.string ⟨#[]⟩,.string ⟨#[]⟩]):=by show Blk _ _ _ _;rw[hcc,hTb];exact Blk.new cb _ _
    have HBcc:Hid (Below cb.heap.size cb cc):=by show Below _ _ _;rw[hcc];exact (Below.refl _ _).alloc (Nat.le_refl _) _
    have HZTb:Hid (Tb=cb.heap.size):=hTb;simp only[←hcc,←hTb]
    clear hcc hTb hk12 p12x0 p12x1 p12x2 p12x3 p12x4 p12x5 p12x6 p12x7 p12x8 p12x9 p12x10 p12x11;have HWTb:Hid (cb.heap.size≤cb.heap.size):=Nat.le_refl _;go_wp2_with fail;refine (HKN.out cc).mono ?_;rintro e cda ⟨rfl,hba⟩;have HQTb:=Lib.hid (HTb.out.below hba HTb.out.lt);have hqTbc:=HQTb.out.cells;have hqTbf:=HQTb.out.froz;have HAcd:=Lib.hid (bstep HBcc.out hba);clear hba
    go_upto_region 14 with fail
    obtain⟨cd,hcd⟩:∃cd,cd=(((cda.setCell ⟨Tb,1,none⟩ (.bool false)).setCell ⟨Tb,2,none⟩ (.int .i64 0)).setCell ⟨Tb,3,none⟩ (.int .i64 0)):=⟨_,rfl⟩
    have HNTb:Hid (Blk cd Tb 48 [.string ⟨#[116,97,120]⟩,.bool false,.int .i64 0,.int .i64 0,.slice y2.a y2.n y2.c,.bool true,.bool false,.string ⟨#[]⟩,.string ⟨#[]⟩,.bool false,.string ⟨#[]⟩,.string ⟨#[]⟩]):=by show Blk _ _ _ _;rw[hcd];exact (((HQTb.out.set 1 (.bool false)).set 2 (.int .i64 0)).set 3 (.int .i64 0))
    have HBcd:Hid (Below cb.heap.size cb cd):=by show Below _ _ _;rw[hcd];exact (((HAcd.out.setCell (p:=⟨Tb,1,none⟩) (by show _≤Tb;rw[HZTb.out];exact HWTb.out) _).setCell (p:=⟨Tb,2,none⟩) (by show _≤Tb;rw[HZTb.out];exact HWTb.out) _).setCell (p:=⟨Tb,3,none⟩) (by show _≤Tb;rw[HZTb.out];exact HWTb.out) _)
    simp only[←hcd]
    clear hcd hqTbc hqTbf HQTb HTb;have HBd:=Lib.hid (bstep HBb.out HBcd.out);have HN9d:=Lib.hid (HN9b.out.below HBcd.out HN9b.out.lt);have HNad:=Lib.hid (HNTa.out.below HBcd.out HNTa.out.lt);have HD7:=Lib.hid (bstep HBc9.out (bstep HBcb.out HBcd.out));clear HO5 HO0 HKN HN9b HNTa HNT9;have HT9cd:=HN9d;have HTacd:=HNad;have HTbcd:=HNTb;clear HN9d HNad HNTb
    have HC14:Hid (∀W',Blk W' cd.heap.size 48 [.string ⟨#[97,105,100]⟩,.bool false,.int .i64 1,.int .i64 0,.slice y1.a y1.n y1.c,.bool false,.bool false,.string ⟨#[10]⟩,.string ⟨#[1]⟩,.bool false,.string ⟨#[1,249]⟩,.string ⟨#[1]⟩,.string ⟨#[116,97,120]⟩,.bool false,.int .i64 1,.int .i64 0,.slice y2.a y2.n y2.c,.bool true,.bool false,.string ⟨#[]⟩,.string ⟨#[]⟩,.bool false,.string ⟨#[]⟩,.string ⟨#[]⟩]→Below cd.heap.size cd W'→Calls Tryz.prog 12 #[.agg #[.slice (some ⟨bf,qf,none⟩) 2 fc,.slice sa 1 sc,.slice (some ⟨cd.heap.size,0,none⟩) 2 2]] W' fun e w'=>e=.returned (.int .i64 1)∧Below cd.heap.size cd w'):=fun W' hbk hbw=>by
     have hr:=row_blk hbk pvCells [(sanP1h,y1),(sanP2,y2)] rfl 2 rfl (by decide);have hl:=law_p HLW.out (bstep HBd.out hbw) _ _ _ hr rfl (fun z hz=>by rcases List.mem_cons.1 hz with rfl|hz;exact .inl ⟨rfl,rfl⟩;obtain rfl:=List.mem_singleton.1 hz;exact .inr ⟨rfl,rfl⟩);exact (chk_law hl (HLK.out _ (bstep HB1.out (bstep HBd.out hbw))) (san_fine _ _ _ (by decide) (fun s h=>List.mem_singleton.1 h) (by decide) (fun p h=>by rcases List.mem_cons.1 h with rfl|h;simp;obtain rfl:=List.mem_singleton.1 h;simp) (by show (2:Nat)≤1000;decide)) san_high).mono fun e w' ⟨h1,h2⟩=>⟨h1,bstep hbw h2⟩
    go_upto_region 14 with fail
    go_cut [12] from 132 to 143 (fun v wc=>v=.int .i64 1∧Hid (Below cd.heap.size cd wc))
    case first=>
     have HS14:Hid (∀W',Below cd.heap.size cd W'→W'.cell? ⟨T1,0,none⟩=some (.slice (some ⟨bf,qf,none⟩) 2 fc)∧W'.cell? ⟨T1,1,none⟩=some (.slice sa 1 sc)∧W'.cell? ⟨T1,2,none⟩=some (.slice (some ⟨bp,qp,none⟩) 2 pc)∧W'.cell? ⟨T9,0,none⟩=some (.string ⟨#[97,105,100]⟩)∧W'.cell? ⟨T9,1,none⟩=some (.bool false)∧W'.cell? ⟨T9,2,none⟩=some (.int .i64 1)∧W'.cell? ⟨T9,3,none⟩=some (.int .i64 0)∧W'.cell? ⟨T9,4,none⟩=some (.slice y1.a y1.n y1.c)∧W'.cell? ⟨T9,5,none⟩=some (.bool false)∧W'.cell? ⟨T9,6,none⟩=some (.bool false)∧W'.cell? ⟨T9,7,none⟩=some (.string ⟨#[10]⟩)∧W'.cell? ⟨T9,8,none⟩=some (.string ⟨#[1]⟩)∧W'.cell? ⟨T9,9,none⟩=some (.bool false)∧W'.cell? ⟨T9,10,none⟩=some (.string ⟨#[1,249]⟩)∧W'.cell? ⟨T9,11,none⟩=some (.string ⟨#[1]⟩)∧W'.cell? ⟨bp,qp+12,none⟩=some (.string ⟨#[116,97,120]⟩)∧W'.cell? ⟨bp,qp+13,none⟩=some (.bool false)∧W'.cell? ⟨bp,qp+14,none⟩=some (.int .i64 1)∧W'.cell? ⟨bp,qp+15,none⟩=some (.int .i64 0)∧W'.cell? ⟨bp,qp+16,none⟩=some (.slice y2.a y2.n y2.c)∧W'.cell? ⟨bp,qp+17,none⟩=some (.bool true)∧W'.cell? ⟨bp,qp+18,none⟩=some (.bool false)∧W'.cell? ⟨bp,qp+19,none⟩=some (.string ⟨#[]⟩)∧W'.cell? ⟨bp,qp+20,none⟩=some (.string ⟨#[]⟩)∧W'.cell? ⟨bp,qp+21,none⟩=some (.bool false)∧W'.cell? ⟨bp,qp+22,none⟩=some (.string ⟨#[]⟩)∧W'.cell? ⟨bp,qp+23,none⟩=some (.string ⟨#[]⟩)):=fun W' hb=>by
      have a1:=(HC1.out W' (bstep HBd.out hb)).cells;have a2:=(HT9cd.out.below hb HT9cd.out.lt).cells;have a3:=HCP.out W' (bstep HBd.out hb);exact⟨a1 0,a1 1,a1 2,a2 0,a2 1,a2 2,a2 3,a2 4,a2 5,a2 6,a2 7,a2 8,a2 9,a2 10,a2 11,a3 12 _ rfl,a3 13 _ rfl,a3 14 _ rfl,a3 15 _ rfl,a3 16 _ rfl,a3 17 _ rfl,a3 18 _ rfl,a3 19 _ rfl,a3 20 _ rfl,a3 21 _ rfl,a3 22 _ rfl,a3 23 _ rfl⟩
     refine wp_region_noPanic ?_;refine wp_region_held_drew (S:=(fun w'=>w'.cell? ⟨T1,0,none⟩=some (.slice (some ⟨bf,qf,none⟩) 2 fc)∧w'.cell? ⟨T1,1,none⟩=some (.slice sa 1 sc)∧w'.cell? ⟨T1,2,none⟩=some (.slice (some ⟨bp,qp,none⟩) 2 pc)∧w'.cell? ⟨T9,0,none⟩=some (.string ⟨#[97,105,100]⟩)∧w'.cell? ⟨T9,1,none⟩=some (.bool false)∧w'.cell? ⟨T9,2,none⟩=some (.int .i64 1)∧w'.cell? ⟨T9,3,none⟩=some (.int .i64 0)∧w'.cell? ⟨T9,4,none⟩=some (.slice y1.a y1.n y1.c)∧w'.cell? ⟨T9,5,none⟩=some (.bool false)∧w'.cell? ⟨T9,6,none⟩=some (.bool false)∧w'.cell? ⟨T9,7,none⟩=some (.string ⟨#[10]⟩)∧w'.cell? ⟨T9,8,none⟩=some (.string ⟨#[1]⟩)∧w'.cell? ⟨T9,9,none⟩=some (.bool false)∧w'.cell? ⟨T9,10,none⟩=some (.string ⟨#[1,249]⟩)∧w'.cell? ⟨T9,11,none⟩=some (.string ⟨#[1]⟩)∧w'.cell? ⟨bp,qp+12,none⟩=some (.string ⟨#[116,97,120]⟩)∧w'.cell? ⟨bp,qp+13,none⟩=some (.bool false)∧w'.cell? ⟨bp,qp+14,none⟩=some (.int .i64 1)∧w'.cell? ⟨bp,qp+15,none⟩=some (.int .i64 0)∧w'.cell? ⟨bp,qp+16,none⟩=some (.slice y2.a y2.n y2.c)∧w'.cell? ⟨bp,qp+17,none⟩=some (.bool true)∧w'.cell? ⟨bp,qp+18,none⟩=some (.bool false)∧w'.cell? ⟨bp,qp+19,none⟩=some (.string ⟨#[]⟩)∧w'.cell? ⟨bp,qp+20,none⟩=some (.string ⟨#[]⟩)∧w'.cell? ⟨bp,qp+21,none⟩=some (.bool false)∧w'.cell? ⟨bp,qp+22,none⟩=some (.string ⟨#[]⟩)∧w'.cell? ⟨bp,qp+23,none⟩=some (.string ⟨#[]⟩))) (by kernel_rfl) (HS14.out _ (drewN_below cd.heap.size cd 1)) (fun hHeld=>?_);refine tkY 0 ?_ rfl ?_ ?_;rotate_left
     ·intro w hSw;(try dsimp only at hSw);go_simp
      all_goals with_reducible rfl
     try simp only[Act.put,tk1,tk2,tk3,tk4,tk5,tk6]
     refine tkY 1 ?_ rfl ?_ ?_;rotate_left
     ·intro w hSw;(try dsimp only at hSw);go_simp
      all_goals with_reducible rfl
     try simp only[Act.put,tk1,tk2,tk3,tk4,tk5,tk6]
     refine tkY 2 ?_ rfl ?_ ?_;rotate_left
     ·intro w hSw;(try dsimp only at hSw);go_simp
      all_goals with_reducible rfl
     try simp only[Act.put,tk1,tk2,tk3,tk4,tk5,tk6]
     refine tkY 3 ?_ rfl ?_ ?_;rotate_left
     ·intro w hSw;(try dsimp only at hSw);go_simp
      all_goals with_reducible rfl
     try simp only[Act.put,tk1,tk2,tk3,tk4,tk5,tk6]
     refine tkY 4 ?_ rfl ?_ ?_;rotate_left
     ·intro w hSw;(try dsimp only at hSw);go_simp
      all_goals with_reducible rfl
     try simp only[Act.put,tk1,tk2,tk3,tk4,tk5,tk6]
     refine tkY 5 ?_ rfl ?_ ?_;rotate_left
     ·intro w hSw;(try dsimp only at hSw);go_simp
      all_goals with_reducible rfl
     try simp only[Act.put,tk1,tk2,tk3,tk4,tk5,tk6]
     refine tkY 6 ?_ rfl ?_ ?_;rotate_left
     ·intro w hSw;(try dsimp only at hSw);go_simp
      all_goals with_reducible rfl
     try simp only[Act.put,tk1,tk2,tk3,tk4,tk5,tk6]
     refine tkY 7 ?_ rfl ?_ ?_;rotate_left
     ·intro w hSw;(try dsimp only at hSw);go_simp
      all_goals with_reducible rfl
     try simp only[Act.put,tk1,tk2,tk3,tk4,tk5,tk6]
     refine tkY 8 ?_ rfl ?_ ?_;rotate_left
     ·intro w hSw;(try dsimp only at hSw);go_simp
      all_goals with_reducible rfl
     try simp only[Act.put,tk1,tk2,tk3,tk4,tk5,tk6]
     refine wpAnyH_ready (rs:=[9]) (by kernel_rfl) (by simp) ?_;refine AllReadyH.cons rfl (fun K hK=>?_) AllReadyH.nil;go_simp
     skip
     go_wp2_with fail;refine hK.out _ _ ?_ (fun hHeld=>?_)
     ·exact HS14.out _ ((drewN_below cd.heap.size cd 1).alloc (drewN_below cd.heap.size cd 1).size _)
     clear hK K
     try simp only[Act.put,tk1,tk2,tk3,tk4,tk5,tk6]
     refine tkY 10 ?_ rfl ?_ ?_;rotate_left
     ·intro w hSw;(try dsimp only at hSw);go_simp
      all_goals with_reducible rfl
     try simp only[Act.put,tk1,tk2,tk3,tk4,tk5,tk6]
     refine wpAnyH_ready (rs:=[11]) (by kernel_rfl) (by simp) ?_;refine AllReadyH.cons rfl (fun K hK=>?_) AllReadyH.nil;go_simp;refine (HC14.out _ (Blk.new (cd.drewN 1) 48 #[.string ⟨#[97,105,100]⟩,.bool false,.int .i64 1,.int .i64 0,.slice y1.a y1.n y1.c,.bool false,.bool false,.string ⟨#[10]⟩,.string ⟨#[1]⟩,.bool false,.string ⟨#[1,249]⟩,.string ⟨#[1]⟩,.string ⟨#[116,97,120]⟩,.bool false,.int .i64 1,.int .i64 0,.slice y2.a y2.n y2.c,.bool true,.bool false,.string ⟨#[]⟩,.string ⟨#[]⟩,.bool false,.string ⟨#[]⟩,.string ⟨#[]⟩]) ((drewN_below cd.heap.size cd 1).alloc (drewN_below cd.heap.size cd 1).size _)).mono ?_;rintro e wz ⟨rfl,hbz⟩;go_wp2_with fail;refine hK.out _ _ ?_ (fun hHeld=>?_)
     ·exact HS14.out _ hbz
     clear hK K
     try simp only[Act.put,tk1,tk2,tk3,tk4,tk5,tk6]
     refine tkY 12 ?_ rfl ?_ ?_;rotate_left
     ·intro w hSw;(try dsimp only at hSw);go_simp
      all_goals with_reducible rfl
     try simp only[Act.put,tk1,tk2,tk3,tk4,tk5,tk6]
     refine wpAnyH_done (by kernel_rfl) ?_ _;refine NoPanic.normal ?_;go_wp2
     go_meet
     case rel=>exact⟨rfl,hbz⟩
    case rest=>
     obtain⟨rfl,HBx⟩:=hcut;obtain⟨ce,rfl⟩:∃ce,ce=wc:=⟨_,rfl⟩
     have HBce:=Lib.hid HBx.out;clear HBx HC14;have HBe:=Lib.hid (bstep HBd.out HBce.out);have HTace:=Lib.hid (HTacd.out.below HBce.out HTacd.out.lt);have HTbce:=Lib.hid (HTbcd.out.below HBce.out HTbcd.out.lt);have HD7e:=Lib.hid (bstep HD7.out HBce.out);clear HT9cd HTacd HTbcd HD7
     have HC15:Hid (∀W',Blk W' ce.heap.size 48 [.string ⟨#[97,105,100]⟩,.bool false,.int .i64 1,.int .i64 0,.slice y1.a y1.n y1.c,.bool false,.bool false,.string ⟨#[]⟩,.string ⟨#[1]⟩,.bool false,.string ⟨#[1,244]⟩,.string ⟨#[1]⟩,.string ⟨#[116,97,120]⟩,.bool false,.int .i64 1,.int .i64 0,.slice y2.a y2.n y2.c,.bool true,.bool false,.string ⟨#[]⟩,.string ⟨#[]⟩,.bool false,.string ⟨#[]⟩,.string ⟨#[]⟩]→Below ce.heap.size ce W'→Calls Tryz.prog 12 #[.agg #[.slice (some ⟨bf,qf,none⟩) 2 fc,.slice sa 1 sc,.slice (some ⟨ce.heap.size,0,none⟩) 2 2]] W' fun e w'=>e=.returned (.int .i64 1)∧Below ce.heap.size ce w'):=fun W' hbk hbw=>by
      have hr:=row_blk hbk pvCells [(sanP1z,y1),(sanP2,y2)] rfl 2 rfl (by decide);have hl:=law_p HLW.out (bstep HBe.out hbw) _ _ _ hr rfl (fun z hz=>by rcases List.mem_cons.1 hz with rfl|hz;exact .inl ⟨rfl,rfl⟩;obtain rfl:=List.mem_singleton.1 hz;exact .inr ⟨rfl,rfl⟩);exact (chk_law hl (HLK.out _ (bstep HB1.out (bstep HBe.out hbw))) (san_fine _ _ _ (by decide) (fun s h=>List.mem_singleton.1 h) (by decide) (fun p h=>by rcases List.mem_cons.1 h with rfl|h;simp;obtain rfl:=List.mem_singleton.1 h;simp) (by show (2:Nat)≤1000;decide)) san_zero).mono fun e w' ⟨h1,h2⟩=>⟨h1,bstep hbw h2⟩
     go_upto_region 15 with fail
     go_cut [13] from 144 to 155 (fun v wc=>v=.int .i64 1∧Hid (Below ce.heap.size ce wc))
     case first=>
      have HS15:Hid (∀W',Below ce.heap.size ce W'→W'.cell? ⟨T1,0,none⟩=some (.slice (some ⟨bf,qf,none⟩) 2 fc)∧W'.cell? ⟨T1,1,none⟩=some (.slice sa 1 sc)∧W'.cell? ⟨T1,2,none⟩=some (.slice (some ⟨bp,qp,none⟩) 2 pc)∧W'.cell? ⟨Ta,0,none⟩=some (.string ⟨#[97,105,100]⟩)∧W'.cell? ⟨Ta,1,none⟩=some (.bool false)∧W'.cell? ⟨Ta,2,none⟩=some (.int .i64 1)∧W'.cell? ⟨Ta,3,none⟩=some (.int .i64 0)∧W'.cell? ⟨Ta,4,none⟩=some (.slice y1.a y1.n y1.c)∧W'.cell? ⟨Ta,5,none⟩=some (.bool false)∧W'.cell? ⟨Ta,6,none⟩=some (.bool false)∧W'.cell? ⟨Ta,7,none⟩=some (.string ⟨#[]⟩)∧W'.cell? ⟨Ta,8,none⟩=some (.string ⟨#[1]⟩)∧W'.cell? ⟨Ta,9,none⟩=some (.bool false)∧W'.cell? ⟨Ta,10,none⟩=some (.string ⟨#[1,244]⟩)∧W'.cell? ⟨Ta,11,none⟩=some (.string ⟨#[1]⟩)∧W'.cell? ⟨bp,qp+12,none⟩=some (.string ⟨#[116,97,120]⟩)∧W'.cell? ⟨bp,qp+13,none⟩=some (.bool false)∧W'.cell? ⟨bp,qp+14,none⟩=some (.int .i64 1)∧W'.cell? ⟨bp,qp+15,none⟩=some (.int .i64 0)∧W'.cell? ⟨bp,qp+16,none⟩=some (.slice y2.a y2.n y2.c)∧W'.cell? ⟨bp,qp+17,none⟩=some (.bool true)∧W'.cell? ⟨bp,qp+18,none⟩=some (.bool false)∧W'.cell? ⟨bp,qp+19,none⟩=some (.string ⟨#[]⟩)∧W'.cell? ⟨bp,qp+20,none⟩=some (.string ⟨#[]⟩)∧W'.cell? ⟨bp,qp+21,none⟩=some (.bool false)∧W'.cell? ⟨bp,qp+22,none⟩=some (.string ⟨#[]⟩)∧W'.cell? ⟨bp,qp+23,none⟩=some (.string ⟨#[]⟩)):=fun W' hb=>by
       have a1:=(HC1.out W' (bstep HBe.out hb)).cells;have a2:=(HTace.out.below hb HTace.out.lt).cells;have a3:=HCP.out W' (bstep HBe.out hb);exact⟨a1 0,a1 1,a1 2,a2 0,a2 1,a2 2,a2 3,a2 4,a2 5,a2 6,a2 7,a2 8,a2 9,a2 10,a2 11,a3 12 _ rfl,a3 13 _ rfl,a3 14 _ rfl,a3 15 _ rfl,a3 16 _ rfl,a3 17 _ rfl,a3 18 _ rfl,a3 19 _ rfl,a3 20 _ rfl,a3 21 _ rfl,a3 22 _ rfl,a3 23 _ rfl⟩
      refine wp_region_noPanic ?_;refine wp_region_held_drew (S:=(fun w'=>w'.cell? ⟨T1,0,none⟩=some (.slice (some ⟨bf,qf,none⟩) 2 fc)∧w'.cell? ⟨T1,1,none⟩=some (.slice sa 1 sc)∧w'.cell? ⟨T1,2,none⟩=some (.slice (some ⟨bp,qp,none⟩) 2 pc)∧w'.cell? ⟨Ta,0,none⟩=some (.string ⟨#[97,105,100]⟩)∧w'.cell? ⟨Ta,1,none⟩=some (.bool false)∧w'.cell? ⟨Ta,2,none⟩=some (.int .i64 1)∧w'.cell? ⟨Ta,3,none⟩=some (.int .i64 0)∧w'.cell? ⟨Ta,4,none⟩=some (.slice y1.a y1.n y1.c)∧w'.cell? ⟨Ta,5,none⟩=some (.bool false)∧w'.cell? ⟨Ta,6,none⟩=some (.bool false)∧w'.cell? ⟨Ta,7,none⟩=some (.string ⟨#[]⟩)∧w'.cell? ⟨Ta,8,none⟩=some (.string ⟨#[1]⟩)∧w'.cell? ⟨Ta,9,none⟩=some (.bool false)∧w'.cell? ⟨Ta,10,none⟩=some (.string ⟨#[1,244]⟩)∧w'.cell? ⟨Ta,11,none⟩=some (.string ⟨#[1]⟩)∧w'.cell? ⟨bp,qp+12,none⟩=some (.string ⟨#[116,97,120]⟩)∧w'.cell? ⟨bp,qp+13,none⟩=some (.bool false)∧w'.cell? ⟨bp,qp+14,none⟩=some (.int .i64 1)∧w'.cell? ⟨bp,qp+15,none⟩=some (.int .i64 0)∧w'.cell? ⟨bp,qp+16,none⟩=some (.slice y2.a y2.n y2.c)∧w'.cell? ⟨bp,qp+17,none⟩=some (.bool true)∧w'.cell? ⟨bp,qp+18,none⟩=some (.bool false)∧w'.cell? ⟨bp,qp+19,none⟩=some (.string ⟨#[]⟩)∧w'.cell? ⟨bp,qp+20,none⟩=some (.string ⟨#[]⟩)∧w'.cell? ⟨bp,qp+21,none⟩=some (.bool false)∧w'.cell? ⟨bp,qp+22,none⟩=some (.string ⟨#[]⟩)∧w'.cell? ⟨bp,qp+23,none⟩=some (.string ⟨#[]⟩))) (by kernel_rfl) (HS15.out _ (drewN_below ce.heap.size ce 1)) (fun hHeld=>?_);refine tkY 0 ?_ rfl ?_ ?_;rotate_left
      ·intro w hSw;(try dsimp only at hSw);go_simp
       all_goals with_reducible rfl
      try simp only[Act.put,tk1,tk2,tk3,tk4,tk5,tk6]
      refine tkY 1 ?_ rfl ?_ ?_;rotate_left
      ·intro w hSw;(try dsimp only at hSw);go_simp
       all_goals with_reducible rfl
      try simp only[Act.put,tk1,tk2,tk3,tk4,tk5,tk6]
      refine tkY 2 ?_ rfl ?_ ?_;rotate_left
      ·intro w hSw;(try dsimp only at hSw);go_simp
       all_goals with_reducible rfl
      try simp only[Act.put,tk1,tk2,tk3,tk4,tk5,tk6]
      refine tkY 3 ?_ rfl ?_ ?_;rotate_left
      ·intro w hSw;(try dsimp only at hSw);go_simp
       all_goals with_reducible rfl
      try simp only[Act.put,tk1,tk2,tk3,tk4,tk5,tk6]
      refine tkY 4 ?_ rfl ?_ ?_;rotate_left
      ·intro w hSw;(try dsimp only at hSw);go_simp
       all_goals with_reducible rfl
      try simp only[Act.put,tk1,tk2,tk3,tk4,tk5,tk6]
      refine tkY 5 ?_ rfl ?_ ?_;rotate_left
      ·intro w hSw;(try dsimp only at hSw);go_simp
       all_goals with_reducible rfl
      try simp only[Act.put,tk1,tk2,tk3,tk4,tk5,tk6]
      refine tkY 6 ?_ rfl ?_ ?_;rotate_left
      ·intro w hSw;(try dsimp only at hSw);go_simp
       all_goals with_reducible rfl
      try simp only[Act.put,tk1,tk2,tk3,tk4,tk5,tk6]
      refine tkY 7 ?_ rfl ?_ ?_;rotate_left
      ·intro w hSw;(try dsimp only at hSw);go_simp
       all_goals with_reducible rfl
      try simp only[Act.put,tk1,tk2,tk3,tk4,tk5,tk6]
      refine tkY 8 ?_ rfl ?_ ?_;rotate_left
      ·intro w hSw;(try dsimp only at hSw);go_simp
       all_goals with_reducible rfl
      try simp only[Act.put,tk1,tk2,tk3,tk4,tk5,tk6]
      refine wpAnyH_ready (rs:=[9]) (by kernel_rfl) (by simp) ?_;refine AllReadyH.cons rfl (fun K hK=>?_) AllReadyH.nil;go_simp
      skip
      go_wp2_with fail;refine hK.out _ _ ?_ (fun hHeld=>?_)
      ·exact HS15.out _ ((drewN_below ce.heap.size ce 1).alloc (drewN_below ce.heap.size ce 1).size _)
      clear hK K
      try simp only[Act.put,tk1,tk2,tk3,tk4,tk5,tk6]
      refine tkY 10 ?_ rfl ?_ ?_;rotate_left
      ·intro w hSw;(try dsimp only at hSw);go_simp
       all_goals with_reducible rfl
      try simp only[Act.put,tk1,tk2,tk3,tk4,tk5,tk6]
      refine wpAnyH_ready (rs:=[11]) (by kernel_rfl) (by simp) ?_;refine AllReadyH.cons rfl (fun K hK=>?_) AllReadyH.nil;go_simp;refine (HC15.out _ (Blk.new (ce.drewN 1) 48 #[.string ⟨#[97,105,100]⟩,.bool false,.int .i64 1,.int .i64 0,.slice y1.a y1.n y1.c,.bool false,.bool false,.string ⟨#[]⟩,.string ⟨#[1]⟩,.bool false,.string ⟨#[1,244]⟩,.string ⟨#[1]⟩,.string ⟨#[116,97,120]⟩,.bool false,.int .i64 1,.int .i64 0,.slice y2.a y2.n y2.c,.bool true,.bool false,.string ⟨#[]⟩,.string ⟨#[]⟩,.bool false,.string ⟨#[]⟩,.string ⟨#[]⟩]) ((drewN_below ce.heap.size ce 1).alloc (drewN_below ce.heap.size ce 1).size _)).mono ?_;rintro e wz ⟨rfl,hbz⟩;go_wp2_with fail;refine hK.out _ _ ?_ (fun hHeld=>?_)
      ·exact HS15.out _ hbz
      clear hK K
      try simp only[Act.put,tk1,tk2,tk3,tk4,tk5,tk6]
      refine tkY 12 ?_ rfl ?_ ?_;rotate_left
      ·intro w hSw;(try dsimp only at hSw);go_simp
       all_goals with_reducible rfl
      try simp only[Act.put,tk1,tk2,tk3,tk4,tk5,tk6]
      refine wpAnyH_done (by kernel_rfl) ?_ _;refine NoPanic.normal ?_;go_wp2
      go_meet
      case rel=>exact⟨rfl,hbz⟩
     case rest=>
      obtain⟨rfl,HBx⟩:=hcut;obtain⟨cf,rfl⟩:∃cf,cf=wc:=⟨_,rfl⟩
      have HBcf:=Lib.hid HBx.out;clear HBx HC15;have HBf:=Lib.hid (bstep HBe.out HBcf.out);have HTbcf:=Lib.hid (HTbce.out.below HBcf.out HTbce.out.lt);have HD7f:=Lib.hid (bstep HD7e.out HBcf.out);clear HTace HTbce HD7e
      have HC16:Hid (∀W',Blk W' cf.heap.size 48 [.string ⟨#[97,105,100]⟩,.bool false,.int .i64 1,.int .i64 0,.slice y1.a y1.n y1.c,.bool false,.bool false,.string ⟨#[10]⟩,.string ⟨#[1]⟩,.bool false,.string ⟨#[1,244]⟩,.string ⟨#[1]⟩,.string ⟨#[116,97,120]⟩,.bool false,.int .i64 0,.int .i64 0,.slice y2.a y2.n y2.c,.bool true,.bool false,.string ⟨#[]⟩,.string ⟨#[]⟩,.bool false,.string ⟨#[]⟩,.string ⟨#[]⟩]→Below cf.heap.size cf W'→Calls Tryz.prog 12 #[.agg #[.slice (some ⟨bf,qf,none⟩) 2 fc,.slice sa 1 sc,.slice (some ⟨cf.heap.size,0,none⟩) 2 2]] W' fun e w'=>e=.returned (.int .i64 13)∧Below cf.heap.size cf w'):=fun W' hbk hbw=>by
       have hr:=row_blk hbk pvCells [(sanP1,y1),(sanP2p,y2)] rfl 2 rfl (by decide);have hl:=law_p HLW.out (bstep HBf.out hbw) _ _ _ hr rfl (fun z hz=>by rcases List.mem_cons.1 hz with rfl|hz;exact .inl ⟨rfl,rfl⟩;obtain rfl:=List.mem_singleton.1 hz;exact .inr ⟨rfl,rfl⟩);exact (chk_law hl (HLK.out _ (bstep HB1.out (bstep HBf.out hbw))) (san_fine _ _ _ (by decide) (fun s h=>List.mem_singleton.1 h) (by decide) (fun p h=>by rcases List.mem_cons.1 h with rfl|h;simp;obtain rfl:=List.mem_singleton.1 h;simp) (by show (2:Nat)≤1000;decide)) san_plain).mono fun e w' ⟨h1,h2⟩=>⟨h1,bstep hbw h2⟩
      go_upto_region 16 with fail
      go_cut [14] from 156 to 167 (fun v wc=>v=.int .i64 13∧Hid (Below cf.heap.size cf wc))
      case first=>
       have HS16:Hid (∀W',Below cf.heap.size cf W'→W'.cell? ⟨T1,0,none⟩=some (.slice (some ⟨bf,qf,none⟩) 2 fc)∧W'.cell? ⟨T1,1,none⟩=some (.slice sa 1 sc)∧W'.cell? ⟨T1,2,none⟩=some (.slice (some ⟨bp,qp,none⟩) 2 pc)∧W'.cell? ⟨Tb,0,none⟩=some (.string ⟨#[116,97,120]⟩)∧W'.cell? ⟨Tb,1,none⟩=some (.bool false)∧W'.cell? ⟨Tb,2,none⟩=some (.int .i64 0)∧W'.cell? ⟨Tb,3,none⟩=some (.int .i64 0)∧W'.cell? ⟨Tb,4,none⟩=some (.slice y2.a y2.n y2.c)∧W'.cell? ⟨Tb,5,none⟩=some (.bool true)∧W'.cell? ⟨Tb,6,none⟩=some (.bool false)∧W'.cell? ⟨Tb,7,none⟩=some (.string ⟨#[]⟩)∧W'.cell? ⟨Tb,8,none⟩=some (.string ⟨#[]⟩)∧W'.cell? ⟨Tb,9,none⟩=some (.bool false)∧W'.cell? ⟨Tb,10,none⟩=some (.string ⟨#[]⟩)∧W'.cell? ⟨Tb,11,none⟩=some (.string ⟨#[]⟩)∧W'.cell? ⟨bp,qp,none⟩=some (.string ⟨#[97,105,100]⟩)∧W'.cell? ⟨bp,qp+1,none⟩=some (.bool false)∧W'.cell? ⟨bp,qp+2,none⟩=some (.int .i64 1)∧W'.cell? ⟨bp,qp+3,none⟩=some (.int .i64 0)∧W'.cell? ⟨bp,qp+4,none⟩=some (.slice y1.a y1.n y1.c)∧W'.cell? ⟨bp,qp+5,none⟩=some (.bool false)∧W'.cell? ⟨bp,qp+6,none⟩=some (.bool false)∧W'.cell? ⟨bp,qp+7,none⟩=some (.string ⟨#[10]⟩)∧W'.cell? ⟨bp,qp+8,none⟩=some (.string ⟨#[1]⟩)∧W'.cell? ⟨bp,qp+9,none⟩=some (.bool false)∧W'.cell? ⟨bp,qp+10,none⟩=some (.string ⟨#[1,244]⟩)∧W'.cell? ⟨bp,qp+11,none⟩=some (.string ⟨#[1]⟩)):=fun W' hb=>by
        have a1:=(HC1.out W' (bstep HBf.out hb)).cells;have a2:=(HTbcf.out.below hb HTbcf.out.lt).cells;have a3:=HCP.out W' (bstep HBf.out hb);exact⟨a1 0,a1 1,a1 2,a2 0,a2 1,a2 2,a2 3,a2 4,a2 5,a2 6,a2 7,a2 8,a2 9,a2 10,a2 11,a3 0 _ rfl,a3 1 _ rfl,a3 2 _ rfl,a3 3 _ rfl,a3 4 _ rfl,a3 5 _ rfl,a3 6 _ rfl,a3 7 _ rfl,a3 8 _ rfl,a3 9 _ rfl,a3 10 _ rfl,a3 11 _ rfl⟩
       refine wp_region_noPanic ?_;refine wp_region_held_drew (S:=(fun w'=>w'.cell? ⟨T1,0,none⟩=some (.slice (some ⟨bf,qf,none⟩) 2 fc)∧w'.cell? ⟨T1,1,none⟩=some (.slice sa 1 sc)∧w'.cell? ⟨T1,2,none⟩=some (.slice (some ⟨bp,qp,none⟩) 2 pc)∧w'.cell? ⟨Tb,0,none⟩=some (.string ⟨#[116,97,120]⟩)∧w'.cell? ⟨Tb,1,none⟩=some (.bool false)∧w'.cell? ⟨Tb,2,none⟩=some (.int .i64 0)∧w'.cell? ⟨Tb,3,none⟩=some (.int .i64 0)∧w'.cell? ⟨Tb,4,none⟩=some (.slice y2.a y2.n y2.c)∧w'.cell? ⟨Tb,5,none⟩=some (.bool true)∧w'.cell? ⟨Tb,6,none⟩=some (.bool false)∧w'.cell? ⟨Tb,7,none⟩=some (.string ⟨#[]⟩)∧w'.cell? ⟨Tb,8,none⟩=some (.string ⟨#[]⟩)∧w'.cell? ⟨Tb,9,none⟩=some (.bool false)∧w'.cell? ⟨Tb,10,none⟩=some (.string ⟨#[]⟩)∧w'.cell? ⟨Tb,11,none⟩=some (.string ⟨#[]⟩)∧w'.cell? ⟨bp,qp,none⟩=some (.string ⟨#[97,105,100]⟩)∧w'.cell? ⟨bp,qp+1,none⟩=some (.bool false)∧w'.cell? ⟨bp,qp+2,none⟩=some (.int .i64 1)∧w'.cell? ⟨bp,qp+3,none⟩=some (.int .i64 0)∧w'.cell? ⟨bp,qp+4,none⟩=some (.slice y1.a y1.n y1.c)∧w'.cell? ⟨bp,qp+5,none⟩=some (.bool false)∧w'.cell? ⟨bp,qp+6,none⟩=some (.bool false)∧w'.cell? ⟨bp,qp+7,none⟩=some (.string ⟨#[10]⟩)∧w'.cell? ⟨bp,qp+8,none⟩=some (.string ⟨#[1]⟩)∧w'.cell? ⟨bp,qp+9,none⟩=some (.bool false)∧w'.cell? ⟨bp,qp+10,none⟩=some (.string ⟨#[1,244]⟩)∧w'.cell? ⟨bp,qp+11,none⟩=some (.string ⟨#[1]⟩))) (by kernel_rfl) (HS16.out _ (drewN_below cf.heap.size cf 1)) (fun hHeld=>?_);refine tkY 0 ?_ rfl ?_ ?_;rotate_left
       ·intro w hSw;(try dsimp only at hSw);go_simp
        all_goals with_reducible rfl
       try simp only[Act.put,tk1,tk2,tk3,tk4,tk5,tk6]
       refine tkY 1 ?_ rfl ?_ ?_;rotate_left
       ·intro w hSw;(try dsimp only at hSw);go_simp
        all_goals with_reducible rfl
       try simp only[Act.put,tk1,tk2,tk3,tk4,tk5,tk6]
       refine tkY 2 ?_ rfl ?_ ?_;rotate_left
       ·intro w hSw;(try dsimp only at hSw);go_simp
        all_goals with_reducible rfl
       try simp only[Act.put,tk1,tk2,tk3,tk4,tk5,tk6]
       refine tkY 3 ?_ rfl ?_ ?_;rotate_left
       ·intro w hSw;(try dsimp only at hSw);go_simp
        all_goals with_reducible rfl
       try simp only[Act.put,tk1,tk2,tk3,tk4,tk5,tk6]
       refine tkY 4 ?_ rfl ?_ ?_;rotate_left
       ·intro w hSw;(try dsimp only at hSw);go_simp
        all_goals with_reducible rfl
       try simp only[Act.put,tk1,tk2,tk3,tk4,tk5,tk6]
       refine tkY 5 ?_ rfl ?_ ?_;rotate_left
       ·intro w hSw;(try dsimp only at hSw);go_simp
        all_goals with_reducible rfl
       try simp only[Act.put,tk1,tk2,tk3,tk4,tk5,tk6]
       refine tkY 6 ?_ rfl ?_ ?_;rotate_left
       ·intro w hSw;(try dsimp only at hSw);go_simp
        all_goals with_reducible rfl
       try simp only[Act.put,tk1,tk2,tk3,tk4,tk5,tk6]
       refine tkY 7 ?_ rfl ?_ ?_;rotate_left
       ·intro w hSw;(try dsimp only at hSw);go_simp
        all_goals with_reducible rfl
       try simp only[Act.put,tk1,tk2,tk3,tk4,tk5,tk6]
       refine tkY 8 ?_ rfl ?_ ?_;rotate_left
       ·intro w hSw;(try dsimp only at hSw);go_simp
        all_goals with_reducible rfl
       try simp only[Act.put,tk1,tk2,tk3,tk4,tk5,tk6]
       refine wpAnyH_ready (rs:=[9]) (by kernel_rfl) (by simp) ?_;refine AllReadyH.cons rfl (fun K hK=>?_) AllReadyH.nil;go_simp
       skip
       go_wp2_with fail;refine hK.out _ _ ?_ (fun hHeld=>?_)
       ·exact HS16.out _ ((drewN_below cf.heap.size cf 1).alloc (drewN_below cf.heap.size cf 1).size _)
       clear hK K
       try simp only[Act.put,tk1,tk2,tk3,tk4,tk5,tk6]
       refine tkY 10 ?_ rfl ?_ ?_;rotate_left
       ·intro w hSw;(try dsimp only at hSw);go_simp
        all_goals with_reducible rfl
       try simp only[Act.put,tk1,tk2,tk3,tk4,tk5,tk6]
       refine wpAnyH_ready (rs:=[11]) (by kernel_rfl) (by simp) ?_;refine AllReadyH.cons rfl (fun K hK=>?_) AllReadyH.nil;go_simp;refine (HC16.out _ (Blk.new (cf.drewN 1) 48 #[.string ⟨#[97,105,100]⟩,.bool false,.int .i64 1,.int .i64 0,.slice y1.a y1.n y1.c,.bool false,.bool false,.string ⟨#[10]⟩,.string ⟨#[1]⟩,.bool false,.string ⟨#[1,244]⟩,.string ⟨#[1]⟩,.string ⟨#[116,97,120]⟩,.bool false,.int .i64 0,.int .i64 0,.slice y2.a y2.n y2.c,.bool true,.bool false,.string ⟨#[]⟩,.string ⟨#[]⟩,.bool false,.string ⟨#[]⟩,.string ⟨#[]⟩]) ((drewN_below cf.heap.size cf 1).alloc (drewN_below cf.heap.size cf 1).size _)).mono ?_;rintro e wz ⟨rfl,hbz⟩;go_wp2_with fail;refine hK.out _ _ ?_ (fun hHeld=>?_)
       ·exact HS16.out _ hbz
       clear hK K
       try simp only[Act.put,tk1,tk2,tk3,tk4,tk5,tk6]
       refine tkY 12 ?_ rfl ?_ ?_;rotate_left
       ·intro w hSw;(try dsimp only at hSw);go_simp
        all_goals with_reducible rfl
       try simp only[Act.put,tk1,tk2,tk3,tk4,tk5,tk6]
       refine wpAnyH_done (by kernel_rfl) ?_ _;refine NoPanic.normal ?_;go_wp2
       go_meet
       case rel=>exact⟨rfl,hbz⟩
      case rest=>
       obtain⟨rfl,HBx⟩:=hcut;obtain⟨cg,rfl⟩:∃cg,cg=wc:=⟨_,rfl⟩
       have HBcg:=Lib.hid HBx.out;clear HBx HC16;have HBg:=Lib.hid (bstep HBf.out HBcg.out);have HD7g:=Lib.hid (bstep HD7f.out HBcg.out);clear HTbcf HD7f
       have HK6:Hid (∀W',Below c7.heap.size c7 W'→Calls Tryz.prog 12 #[.agg #[.slice (some ⟨g6,0,none⟩) 2 2,.slice sa 1 sc,.slice (some ⟨bp,qp,none⟩) 2 pc]] W' fun e w'=>e=.returned (.int .i64 14)∧Below W'.heap.size W' w'):=fun W' hb=>by
        have hb1:=bstep HB7.out hb;have hk:=HLK.out _ (bstep HB1.out hb1);have hg:=HG6.out.below (bstep HB65.out (bstep HB76.out hb)) HG6.out.lt;have hr:=row_blk hg Dc.cells [⟨⟨#[97,105,100]⟩,sanF1.ty⟩,sanF2] rfl 2 rfl (by decide);exact chk_law (law_f HLW.out hb1 _ _ hr) hk (san_fine _ _ _ (by show (2:Nat)≤1000;decide) (fun s h=>List.mem_singleton.1 h) (by decide) (fun p h=>by rcases List.mem_cons.1 h with rfl|h;simp;obtain rfl:=List.mem_singleton.1 h;simp) (by show (2:Nat)≤1000;decide)) san_twice
       have HK7:Hid (∀W',Below c7.heap.size c7 W'→Calls Tryz.prog 12 #[.agg #[.slice (some ⟨bf,qf,none⟩) 2 fc,.slice sa 1 sc,.slice (some ⟨bp,qp+12,none⟩) 1 (pc-1)]] W' fun e w'=>e=.returned (.int .i64 12)∧Below W'.heap.size W' w'):=fun W' hb=>by
        have hb1:=bstep HB7.out hb;have hk:=HLK.out _ (bstep HB1.out hb1)
        have hr:RowAt W' pvCells [(sanP2,y2)] ⟨some ⟨bp,qp+12,none⟩,1,pc-1⟩:=by
         have h1:2≤pc:=HLW.out.p.cap;have h2:pc≤maxLen:=HLW.out.p.max;obtain⟨b',q',e,hlt,_⟩:=rd_get HLW.out.p.rd (Nat.zero_lt_succ 23);injection e with e;injection e with e1 e2;subst e1 e2;refine⟨rfl,by show 1≤pc-1;omega,by show pc-1≤maxLen;omega,.inr ⟨bp,qp+12,rfl,Nat.lt_of_lt_of_le hlt hb1.size,fun i h=>?_⟩⟩;rw[Nat.add_assoc];have h12:i<12:=h;refine HCP.out W' hb1 (12+i) _ ?_;rw[Nat.add_comm 12 i];exact List.getElem?_eq_getElem h
        exact chk_law (law_p HLW.out hb1 [(sanP2,y2)] [sanP2] _ hr rfl (fun z hz=>by obtain rfl:=List.mem_singleton.1 hz;exact .inr ⟨rfl,rfl⟩)) hk (san_fine _ _ _ (by decide) (fun s h=>List.mem_singleton.1 h) (by decide) (fun p h=>by obtain rfl:=List.mem_singleton.1 h;simp) (by decide)) san_less
       have HK8:Hid (∀W',Below c7.heap.size c7 W'→Calls Tryz.prog 12 #[.agg #[.slice (some ⟨bf,qf,none⟩) 2 fc,.slice sa 1 sc,.slice (some ⟨g8,0,none⟩) 2 2]] W' fun e w'=>e=.returned (.int .i64 11)∧Below W'.heap.size W' w'):=fun W' hb=>by
        have hb1:=bstep HB7.out hb;have hk:=HLK.out _ (bstep HB1.out hb1);have hg:=HG8.out.below hb HG8.out.lt;have hr:=row_blk hg pvCells [(sanP2,y2),(sanP1,y1)] rfl 2 rfl (by decide);exact chk_law (law_p HLW.out hb1 [(sanP2,y2),(sanP1,y1)] [sanP2,sanP1] _ hr rfl (fun z hz=>by rcases List.mem_cons.1 hz with rfl|hz;exact .inr ⟨rfl,rfl⟩;obtain rfl:=List.mem_singleton.1 hz;exact .inl ⟨rfl,rfl⟩)) hk (san_fine _ _ _ (by decide) (fun s h=>List.mem_singleton.1 h) (by decide) (fun p h=>by rcases List.mem_cons.1 h with rfl|h;simp;obtain rfl:=List.mem_singleton.1 h;simp) (by show (2:Nat)≤1000;decide)) san_turned
       have HK1:Hid (∀W',Below c7.heap.size c7 W'→Calls Tryz.prog 12 #[.agg #[.slice (some ⟨bf,qf,none⟩) 2 fc,.slice sa 1 sc,.slice (some ⟨bp,qp,none⟩) 2 pc]] W' fun e w'=>e=.returned (.int .i64 0)∧Below W'.heap.size W' w'):=fun W' hb=>by
        have hb1:=bstep HB7.out hb;have hk:=HLK.out _ (bstep HB1.out hb1);exact chk_law (HLW.out.below hb1) hk san_fineL san_chk
       have HKE:Hid (∀W',Below c7.heap.size c7 W'→Calls Tryz.prog 12 #[.agg #[.slice none 0 0,.slice none 0 0,.slice none 0 0]] W' fun e w'=>e=.returned (.int .i64 0)∧Below W'.heap.size W' w'):=fun W' hb=>by
        have hb1:=bstep HB7.out hb;have hk:=HLK.out _ (bstep HB1.out hb1);exact chk_law (LawAt.empty W') hk (san_fine [] [] [] (by decide) (fun s h=>by cases h) (by decide) (fun p h=>by cases h) (by decide)) san_empty
       have HFD:Hid (∀W',Below c7.heap.size c7 W'→Calls Tryz.prog 13 #[.agg #[.slice (some ⟨bf,qf,none⟩) 2 fc,.slice sa 1 sc,.slice (some ⟨bp,qp,none⟩) 2 pc],.string ⟨#[116,97,120]⟩] W' fun e w'=>e=.returned (.tuple #[.int .i64 1,.bool true])∧Below W'.heap.size W' w'):=fun W' hb=>by
        letI:Inhabited (Pv × Hd):=⟨(sanP1,y1)⟩
        exact uFind_any ⟨#[116,97,120]⟩ [(sanP1,y1),(sanP2,y2)] ⟨some ⟨bf,qf,none⟩,2,fc⟩ ⟨sa,1,sc⟩ ⟨some ⟨bp,qp,none⟩,2,pc⟩ W' (HLW.out.below (bstep HB7.out hb)).p (by show 0<2;decide) 1 rfl (by decide)
       have HNa:Hid (∀W',Below c7.heap.size c7 W'→Calls Tryz.prog 6 #[.string ⟨#[97,95,49]⟩] W' fun e w'=>e=.returned (.bool true)∧Below W'.heap.size W' w'):=fun W' hb=>by
        have k:=uName_any ⟨#[97,95,49]⟩ W' (HLK.out _ (bstep HB1.out (bstep HB7.out hb))).e;rw[san_a1] at k;exact k
       have HNb:Hid (∀W',Below c7.heap.size c7 W'→Calls Tryz.prog 6 #[.string ⟨#[49,97]⟩] W' fun e w'=>e=.returned (.bool false)∧Below W'.heap.size W' w'):=fun W' hb=>by
        have k:=uName_any ⟨#[49,97]⟩ W' (HLK.out _ (bstep HB1.out (bstep HB7.out hb))).e;rw[san_1a] at k;exact k
       have hLQ:Hid (∀W',Below c7.heap.size c7 W'→LaidK W'):=fun W' hb=>HLK.out _ (bstep HB1.out (bstep HB7.out hb))
       have HPU:Hid (∀W',Below c7.heap.size c7 W'→Calls Tryz.prog 7 #[.string sanU] W' fun e w'=>∃f sc p:Hd,e=.returned (.tuple #[.agg #[.slice f.a f.n f.c,.slice sc.a sc.n sc.c,.slice p.a p.n p.c],.int .i64 5,.int .i64 11])∧Below W'.heap.size W' w'):=fun W' hb=>parse_no (hLQ.out _ hb) san_linesU (san_fine [sanF1,sanF2] [sanS] [sanP1] (by decide) (fun s h=>List.mem_singleton.1 h) (by decide) (fun p h=>by obtain rfl:=List.mem_singleton.1 h;simp) (by decide)) (by rw[san_chkU];decide) san_parU
       have HPV:Hid (∀W',Below c7.heap.size c7 W'→Calls Tryz.prog 7 #[.string ⟨#[112,114,111,118,105,115,105,111,110,32,116,97,120,32,109,49,100,48,32,99,104,97,114,103,101,58,32,114,97,116,101,46,115,99,97,108,101,40,115,117,98,40,102,97,99,116,46,105,110,99,111,109,101,44,32,111,119,110,46,97,105,100,41,41,10]⟩] W' fun e w'=>∃f sc p:Hd,e=.returned (.tuple #[.agg #[.slice f.a f.n f.c,.slice sc.a sc.n sc.c,.slice p.a p.n p.c],.int .i64 0,.int .i64 12])∧Below W'.heap.size W' w'):=fun W' hb=>parse_no (s:=sanV) (hLQ.out _ hb) san_linesV (san_fine [] [] [sanP2] (by decide) (fun s h=>by cases h) (by decide) (fun p h=>by obtain rfl:=List.mem_singleton.1 h;simp) (by decide)) (by rw[san_chkV];decide) san_parV
       have HPW:Hid (∀W',Below c7.heap.size c7 W'→Calls Tryz.prog 7 #[.string ⟨#[102,97,99,116,32,115,105,110,103,108,101,32,116,114,117,116,104,10,102,97,99,116,32,105,110,99,111,109,101,32,109,49,100,48,10]⟩] W' fun e w'=>∃f sc p:Hd,e=.returned (.tuple #[.agg #[.slice f.a f.n f.c,.slice sc.a sc.n sc.c,.slice p.a p.n p.c],.int .i64 0,.int .i64 11])∧Below W'.heap.size W' w'):=fun W' hb=>parse_no (s:=sanW) (hLQ.out _ hb) san_linesW (san_fine [sanF2,sanF1] [] [] (by decide) (fun s h=>by cases h) (by decide) (fun p h=>by cases h) (by decide)) (by rw[san_chkW];decide) san_parW
       have heU:((⟨#[102,97,99,116,32,105,110,99,111,109,101,32,109,49,100,48,10,102,97,99,116,32,115,105,110,103,108,101,32,116,114,117,116,104,10,115,99,104,101,100,117,108,101,32,115,99,97,108,101,32,109,49,100,48,58,32,48,32,49,47,49,48,44,32,49,48,48,48,32,49,47,53,10,112,114,111,118,105,115,105,111,110,32,97,105,100,32,109,49,100,48,32,115,116,101,112,32,49,48,32,99,97,112,32,53,48,48,58,32,105,102,40,102,97,99,116,46,115,105,110,103,108,101,44,32,36,49,48,48,44,32,100,105,118,40,111,119,110,46,116,97,120,44,32,52,41,41,10,112,114,111,118,105,115,105,111,110,32,116,97,120,32,109,49,100,48,32,99,104,97,114,103,101,58,32,114,97,116,101,46,115,99,97,108,101,40,115,117,98,40,102,97,99,116,46,105,110,99,111,109,101,44,32,111,119,110,46,97,105,100,41,41,10]⟩:ByteArray).extract 0 212)=sanU:=by decide+kernel
       clear hLQ HBe HBf HBd;go_wp2_with fail;clear heU;refine (HPU.out _ HD7g.out).mono ?_;rintro e cha ⟨f17,s17,q17,rfl,hbn⟩;have HAch:=Lib.hid (bstep HD7g.out hbn);clear hbn
       go_upto_region 18 with fail
       obtain⟨ch,hch⟩:∃ch,ch=cha.alloc (.cells #[.slice f17.a f17.n f17.c,.slice s17.a s17.n s17.c,.slice q17.a q17.n q17.c] 29):=⟨_,rfl⟩
       have HDch:Hid (Below c7.heap.size c7 ch):=by show Below _ _ _;rw[hch];exact HAch.out.alloc HAch.out.size _
       simp only[←hch]
       clear hch HAch HPU;go_wp2_with fail;refine (HPV.out _ HDch.out).mono ?_;rintro e cia ⟨f18,s18,q18,rfl,hbn⟩;have HAci:=Lib.hid (bstep HDch.out hbn);clear hbn
       go_upto_region 19 with fail
       obtain⟨ci,hci⟩:∃ci,ci=cia.alloc (.cells #[.slice f18.a f18.n f18.c,.slice s18.a s18.n s18.c,.slice q18.a q18.n q18.c] 29):=⟨_,rfl⟩
       have HDci:Hid (Below c7.heap.size c7 ci):=by show Below _ _ _;rw[hci];exact HAci.out.alloc HAci.out.size _
       simp only[←hci]
       clear hci HAci HPV;go_wp2_with fail;refine (HPW.out _ HDci.out).mono ?_;rintro e cka ⟨f19,s19,q19,rfl,hbn⟩;have HAck:=Lib.hid (bstep HDci.out hbn);clear hbn
       go_upto_region 20 with fail
       obtain⟨ck,hck⟩:∃ck,ck=cka.alloc (.cells #[.slice f19.a f19.n f19.c,.slice s19.a s19.n s19.c,.slice q19.a q19.n q19.c] 29):=⟨_,rfl⟩
       have HDck:Hid (Below c7.heap.size c7 ck):=by show Below _ _ _;rw[hck];exact HAck.out.alloc HAck.out.size _
       simp only[←hck]
       clear hck HAck HPW;have k0:=(HC1.out ck (bstep HB7.out HDck.out)).cells;go_wp2_with fail;refine (HFD.out _ HDck.out).mono ?_;rintro e cl ⟨rfl,hbn⟩;have HDcl:=Lib.hid (bstep HDck.out hbn);clear hbn;clear k0;have k6:=(HT6.out.below (bstep HB65.out (bstep HB76.out HDcl.out)) HT6.out.lt).cells;go_wp2_with fail;refine (HK6.out _ HDcl.out).mono ?_;rintro e cm ⟨rfl,hbn⟩;have HDcm:=Lib.hid (bstep HDcl.out hbn);clear hbn;clear k6;have k7:=(HT7.out.below (bstep HB76.out HDcm.out) HT7.out.lt).cells;go_wp2_with fail;refine (HK7.out _ HDcm.out).mono ?_;rintro e cn ⟨rfl,hbn⟩;have HDcn:=Lib.hid (bstep HDcm.out hbn);clear hbn;clear k7;have k8:=(HT8.out.below (HDcn.out) HT8.out.lt).cells;go_wp2_with fail;refine (HK8.out _ HDcn.out).mono ?_;rintro e co ⟨rfl,hbn⟩;have HDco:=Lib.hid (bstep HDcn.out hbn);clear hbn;clear k8;go_wp2_with fail;refine (HKE.out _ HDco.out).mono ?_;rintro e cp ⟨rfl,hbn⟩;have HDcp:=Lib.hid (bstep HDco.out hbn);clear hbn;have k0:=(HC1.out cp (bstep HB7.out HDcp.out)).cells;go_wp2_with fail;refine (HK1.out _ HDcp.out).mono ?_;rintro e cq ⟨rfl,hbn⟩;have HDcq:=Lib.hid (bstep HDcp.out hbn);clear hbn;clear k0;go_wp2_with fail;refine (HNa.out _ HDcq.out).mono ?_;rintro e cr ⟨rfl,hbn⟩;have HDcr:=Lib.hid (bstep HDcq.out hbn);clear hbn;go_wp2_with fail;refine (HNb.out _ HDcr.out).mono ?_;rintro e cs ⟨rfl,hbn⟩;have HDcs:=Lib.hid (bstep HDcr.out hbn);clear hbn;go_wp2;go_ret;exact⟨rfl,bstep HB1.out (bstep HB7.out HDcs.out)⟩
end Go.Proofs.YtfajelpcfnfjkaaGreatDoor
