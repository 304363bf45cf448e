/- A part of the proof: Uz. -/
import Derived.Test.YtimokmplkpbmdaaGreatDoorB41
set_option linter.all false
set_option maxRecDepth 100000
set_option maxHeartbeats 0
namespace Go.Proofs.YtimokmplkpbmdaaGreatDoor
open Go.RowKit
theorem row_blk {α:Type} {W:World} {g:Nat} {t:TypeId} {cs:List Value} (hb:Blk W g t cs) (enc:α->List Value) (xs:List α) (hx:xs.flatMap enc=cs) (n:Nat) (hn:n=xs.length) (hm:n<=maxLen):RowAt W enc xs ⟨some ⟨g,0,none⟩,n,n⟩:=
 ⟨hn,Nat.le_refl _,hm,.inr ⟨g,0,rfl,hb.lt,fun i h=>by rw[Nat.zero_add,hb.cells i,<-hx];exact List.getElem?_eq_getElem h⟩⟩
theorem law_f {w W:World} {x y1 y2:Hd} {f s p:Hd} (h:LawAt w sanL [(sanS,x)] [(sanP1,y1),(sanP2,y2)] f s p) (hb:Below w.heap.size w W) (fs:List Dc) (f':Hd) (hr:RowAt W Dc.cells fs f'):LawAt W ⟨fs,[sanS],[sanP1,sanP2]⟩ [(sanS,x)] [(sanP1,y1),(sanP2,y2)] f' s p:=by
 have k:=h.below hb;exact⟨hr,k.s,k.p,rfl,rfl,k.sb,k.pb⟩
theorem chk_law {W:World} {l:Lw} {ss:List (Sc × Hd)} {ps:List (Pv × Hd)} {f s p:Hd} (h:LawAt W l ss ps f s p) (hL:LaidK W) (hf:FineL l) {c:Int} (hc:checkL l=c):Calls Tryz.prog 10 #[.agg #[.slice f.a f.n f.c,.slice s.a s.n s.c,.slice p.a p.n p.c]] W fun e w'=>e=.returned (.int .i64 c)/\Below W.heap.size W w':=by
 have k:=uCheck_any l ss ps f s p W hL h hf;rw[hc] at k;exact k
def SanP (y1 y2:Hd) (z:Pv × Hd):Prop:=(z.2=y1/\(z.1=sanP1∨z.1=sanP1h∨z.1=sanP1z))∨(z.2=y2/\(z.1=sanP2∨z.1=sanP2p))
section
variable {w W:World} {x y1 y2:Hd} {f s p p':Hd}
theorem chk_ps (h:LawAt w sanL [(sanS,x)] [(sanP1,y1),(sanP2,y2)] f s p) (hb:Below w.heap.size w W) (hL:LaidK W) (ps:List (Pv × Hd)) (hz:∀z∈ps,SanP y1 y2 z) (hr:RowAt W pvCells ps p') (hl:ps.length<=1000) {c:Int} (hc:checkL ⟨[sanF1,sanF2],[sanS],ps.map Prod.fst⟩=c):
  Calls Tryz.prog 10 #[.agg #[.slice f.a f.n f.c,.slice s.a s.n s.c,.slice p'.a p'.n p'.c]] W fun e w'=>e=.returned (.int .i64 c)/\Below W.heap.size W w':=by
 have k:=h.below hb;refine chk_law (l:=⟨[sanF1,sanF2],[sanS],ps.map Prod.fst⟩) ⟨k.f,k.s,hr,rfl,rfl,k.sb,fun z hz'=>?_⟩ hL (san_fine _ _ _ (by decide) (fun s h=>List.mem_singleton.1 h) (by decide) (fun q hq=>?_) (by rw[List.length_map];exact hl)) hc
 ·rcases hz z hz' with⟨e,e1⟩|⟨e,e1⟩
  ·have j:=k.pb (sanP1,y1) (by simp);rw[e];rcases e1 with e1|e1|e1<;>(rw[e1];exact j)
  ·have j:=k.pb (sanP2,y2) (by simp);rw[e];rcases e1 with e1|e1<;>(rw[e1];exact j)
 ·obtain⟨z,hz',rfl⟩:=List.mem_map.1 hq;rcases hz z hz' with⟨_,e1|e1|e1⟩|⟨_,e1|e1⟩<;>simp[e1]
theorem chk_two (h:LawAt w sanL [(sanS,x)] [(sanP1,y1),(sanP2,y2)] f s p) (hb:Below w.heap.size w W) (hL:LaidK W) {g:Nat} (z1 z2:Pv × Hd) (h1:SanP y1 y2 z1) (h2:SanP y1 y2 z2) (hk:Blk W g 45 (pvCells z1++pvCells z2)) {c:Int} (hc:checkL ⟨[sanF1,sanF2],[sanS],[z1.1,z2.1]⟩=c):
  Calls Tryz.prog 10 #[.agg #[.slice f.a f.n f.c,.slice s.a s.n s.c,.slice (some ⟨g,0,none⟩) 2 2]] W fun e w'=>e=.returned (.int .i64 c)/\Below W.heap.size W w':=
 chk_ps (p':=⟨some ⟨g,0,none⟩,2,2⟩) h hb hL [z1,z2] (fun z hz=>by rcases List.mem_cons.1 hz with rfl|hz;exact h1;obtain rfl:=List.mem_singleton.1 hz;exact h2) (row_blk hk pvCells [z1,z2] (by simp[List.flatMap]) 2 rfl (by decide)) (by show (2:Nat)<=1000;decide) hc
end
structure QX (W X:World) (L:List (Nat × TypeId × List Value)):Prop where
 b:Below W.heap.size W X
 l:∀q∈L,W.heap.size<=q.1/\Blk X q.1 q.2.1 q.2.2
section
variable {W X X':World} {L:List (Nat × TypeId × List Value)} {T:Nat} {t:TypeId} {cs:List Value}
theorem QX.step (h:QX W X L) (hb:Below X.heap.size X X'):QX W X' L:=⟨bstep h.b hb,fun q hq=>⟨(h.l q hq).1,(h.l q hq).2.below hb (h.l q hq).2.lt⟩⟩
theorem QX.new (h:QX W X L) (hX:X.alloc (.cells cs.toArray t)=X'):QX W X' ((X.heap.size,t,cs)::L):=by
 obtain⟨k,hb⟩:=zA hX;have j:=h.step hb;refine⟨j.b,fun q hq=>?_⟩;rcases List.mem_cons.1 hq with rfl|hq
 ·exact⟨h.b.size,k⟩
 ·exact j.l q hq
theorem QX.two (h:QX W X L) (o:List Value) (u:TypeId):QX W ((X.alloc (.cells o.toArray u)).alloc (.cells cs.toArray t)) ((X.heap.size+1,t,cs)::(X.heap.size,u,o)::L):=by
 have k:=(h.new (cs:=o) (t:=u) rfl).new (cs:=cs) (t:=t) rfl;rw[World.size_alloc] at k;exact k
theorem QX.sw {a b:Nat × TypeId × List Value} (h:QX W X (a::b::L)):QX W X (b::a::L):=⟨h.b,fun q hq=>h.l q (by simp only[List.mem_cons] at hq⊢;rcases hq with h|h|h<;>simp[h])⟩
theorem QX.ne (h:QX W X L):∀q∈L,q.1≠X.heap.size:=fun q hq=>Nat.ne_of_lt (h.l q hq).2.lt
theorem QX.set (h:QX W X ((T,t,cs)::L)) (i:Nat) (v:Value) (hn:∀q∈L,q.1≠T):QX W (X.setCell ⟨T,i,none⟩ v) ((T,t,cs.set i v)::L):=by
 have k:=h.l (T,t,cs) (by simp);refine⟨h.b.setCell (p:=⟨T,i,none⟩) k.1 _,fun q hq=>?_⟩;rcases List.mem_cons.1 hq with rfl|hq
 ·exact⟨k.1,k.2.set i v⟩
 ·have j:=h.l q (by simp[hq]);exact⟨j.1,j.2.other (p:=⟨T,i,none⟩) (hn q hq) v⟩
theorem QX.hd (h:QX W X ((T,t,cs)::L)):Blk X T t cs:=(h.l (T,t,cs) (by simp)).2
theorem QX.ix (h:QX W X L) (i:Nat) (hi:i<L.length):Blk X L[i].1 L[i].2.1 L[i].2.2:=(h.l _ (List.getElem_mem hi)).2
end
theorem sanity_any (w:World) (hL:LaidK w):Calls Tryz.prog 6 #[] w fun e w'=>e=.returned (.bool true)/\Below w.heap.size w w':=by
 have HLK:Hid (∀W,Below w.heap.size w W->LaidK W):=fun W hb=>hL.below hb
 have HP1:=zH (parse_yes w hL);clear hL;go_enter Tryz.func6,Tryz.ntmps6;go_wp2_with fail;refine HP1.out.mono ?_;rintro e w1 ⟨fa,sa,pa,fc,sc,pc,x,y1,y2,rfl,hlaw,hb1⟩
 go_upto_region 2 with fail
 generalize hX:w1.alloc _=W1;obtain⟨hT,hA⟩:=zA hX;have HB1:=zH (bstep hb1 hA);replace hlaw:=hlaw.below hA;generalize w1.heap.size=T1 at hT⊢;clear hX hA hb1 HP1;obtain⟨bf,qf,rfl,hbf,hcf⟩:=rd_get hlaw.f.rd (by decide);obtain⟨bp,qp,rfl,hbp,hcp⟩:=rd_get hlaw.p.rd (Nat.zero_lt_succ 23);have hc:=fun (X:World) (h:Below W1.heap.size W1 X)=>have a:=fun i v e=>(h.cell (p:=⟨bf,qf+i,none⟩) hbf).trans (hcf i v e);have b:=fun i v e=>(h.cell (p:=⟨bp,qp+i,none⟩) hbp).trans (hcp i v e);have c:=(hT.below h hT.lt).cells;And.intro (c) <| And.intro (a 1 _ rfl) <| And.intro (a 2 _ rfl) <| And.intro (a 3 _ rfl) <| And.intro (a 4 _ rfl) <| And.intro (a 5 _ rfl) <| And.intro (a 6 _ rfl) <| And.intro (a 7 _ rfl) <| And.intro (show X.cell? ⟨bp,qp,none⟩=some _ from b 0 _ rfl) <| And.intro (b 1 _ rfl) <| And.intro (b 2 _ rfl) <| And.intro (b 3 _ rfl) <| And.intro (b 4 _ rfl) <| And.intro (b 5 _ rfl) <| And.intro (b 6 _ rfl) <| And.intro (b 7 _ rfl) <| And.intro (b 8 _ rfl) <| And.intro (b 9 _ rfl) <| And.intro (b 10 _ rfl) <| And.intro (b 11 _ rfl) <| And.intro (b 12 _ rfl) <| And.intro (b 13 _ rfl) <| And.intro (b 14 _ rfl) <| And.intro (b 15 _ rfl) <| And.intro (b 16 _ rfl) <| And.intro (b 17 _ rfl) <| And.intro (b 18 _ rfl) <| And.intro (b 19 _ rfl) <| And.intro (b 20 _ rfl) <| And.intro (b 21 _ rfl) <| And.intro (b 22 _ rfl) <| b 23 _ rfl
 have HLW:=zH hlaw;have HTX:=uText_any _ _ _ _ _ _ W1 (HLK.out _ HB1.out) hlaw san_fineL (fun _=>⟨san_fineT,san_txt0⟩);unfold textR0 lawV at HTX;rw[san_chk,if_pos rfl,san_txt] at HTX;replace HTX:=zH HTX;have hpc:2<=pc:=hlaw.p.cap;have hpc1:¬pc=1:=by omega
 clear hlaw hcf hcp hT;have hl:=hc _ (Below.refl _ _);go_wp2_with fail;refine HTX.out.mono ?_;rintro e w2 ⟨rfl,hb⟩;clear hl HTX;have hl:=hc _ hb
 go_upto_region 3 with fail
 have hst:sanT.toList=[102,97,99,116,32,105,110,99,111,109,101,32,109,49,100,48,10,102,97,99,116,32,115,105,110,103,108,101,32,116,114,117,116,104,10,115,99,104,101,100,117,108,101,32,115,99,97,108,101,32,109,49,100,48,58,32,48,32,49,47,49,48,44,32,49,48,48,48,32,49,47,53,10,112,114,111,118,105,115,105,111,110,32,97,105,100,32,109,49,100,48,32,115,116,101,112,32,49,48,32,99,97,112,32,53,48,48,58,32,105,102,40,102,97,99,116,46,115,105,110,103,108,101,44,32,36,49,48,48,44,32,100,105,118,40,111,119,110,46,116,97,120,44,32,52,41,41,10,112,114,111,118,105,115,105,111,110,32,116,97,120,32,109,49,100,48,32,99,104,97,114,103,101,58,32,114,97,116,101,46,115,99,97,108,101,40,115,117,98,40,102,97,99,116,46,105,110,99,111,109,101,44,32,111,119,110,46,97,105,100,41,41,10]:=by rw[ByteArray.toList_eq];rfl
 go_wp2_with fail;refine (uSigs_any _ _ _ _ _ _ w2 (HLW.out.below hb) san_fineL).mono ?_;rintro e w3 ⟨⟨a9,n9,c9⟩,rfl,hr9,hb3⟩;obtain rfl:n9=9:=hr9.len.trans san_sigs;have h:QX W1 w3 []:=⟨bstep hb hb3,fun q hq=>by cases hq⟩
 clear hl hst hr9 hb hb3
 go_upto_region 5 with fail
 go_cut [6] from 76 to 91 (fun v X=>∃T g,v=.pointer (some ⟨T,0,none⟩)/\QX W1 X [(T,28,[.slice (some ⟨g,0,none⟩) 2 2,.slice sa 1 sc,.slice (some ⟨bp,qp,none⟩) 2 pc]),(g,36,Dc.cells ⟨⟨#[97,105,100]⟩,sanF1.ty⟩++Dc.cells sanF2)])
 case first=>
  refine reS (Below W1.heap.size W1) 99 h.b.drew (fun v hv hS=>?_);replace h:=h.step hv
  iterate 10 refine reA ?_
  refine reZ 11 ?_;refine reZ 12 ?_;refine reZ 13 ?_;refine reZ 14 ?_;refine reTwo 10 16 (opV (fun _=>hS.alloc hS.size _) (fun hS=>?_)) (opV (fun _=>hS.alloc hS.size _) (fun hS=>?_))
  ·refine reZ 15 ?_;refine reV 16 (fun _=>hS.alloc hS.size _) (fun hS=>?_);refine reW 17 (fun _=>(h.two _ _).b) (fun _=>?_);refine reE ?_;go_wp2
   go_meet
   case rel=>exact⟨_,_,rfl,h.two _ _⟩
  ·refine reV 10 (fun _=>hS.alloc hS.size _) (fun hS=>?_);refine reZ 15 ?_;refine reW 17 (fun _=>(h.two _ _).b) (fun _=>?_);refine reE ?_;go_wp2
   go_meet
   case rel=>exact⟨_,_,rfl,(h.two _ _).sw⟩
 case rest=>
 clear h;obtain⟨T6,g6,rfl,h⟩:=hcut
 go_upto_region 6 with fail
 refine reS (Below W1.heap.size W1) 99 h.b.drew (fun v hv hS=>?_);replace h:=h.step hv
 iterate 8 refine reA ?_
 refine reV 8 (fun _=>hS.alloc hS.size _) (fun hS=>?_);refine reW 9 (fun _=>(h.new rfl).b) (fun _=>?_);refine reE ?_;clear hS hv
 go_upto_region 7 with fail
 generalize hX:World.alloc _ _=X;replace h:=h.new hX;generalize v.heap.size=T7 at h⊢;clear hX
 go_cut [8] from 100 to 113 (fun u X=>∃T g,u=.pointer (some ⟨T,0,none⟩)/\QX W1 X [(T,28,[.slice (some ⟨bf,qf,none⟩) 2 fc,.slice sa 1 sc,.slice (some ⟨g,0,none⟩) 2 2]),(g,45,pvCells (sanP2,y2)++pvCells (sanP1,y1)),(T7,28,[.slice (some ⟨bf,qf,none⟩) 2 fc,.slice sa 1 sc,.slice (some ⟨bp,qp+12,none⟩) 1 (pc-1)]),(T6,28,[.slice (some ⟨g6,0,none⟩) 2 2,.slice sa 1 sc,.slice (some ⟨bp,qp,none⟩) 2 pc]),(g6,36,Dc.cells ⟨⟨#[97,105,100]⟩,sanF1.ty⟩++Dc.cells sanF2)])
 case first=>
  refine reS (Below W1.heap.size W1) 99 h.b.drew (fun v hv hS=>?_);replace h:=h.step hv
  iterate 12 refine reA ?_
  refine reTwo 12 14 (opV (fun _=>hS.alloc hS.size _) (fun hS=>?_)) (opV (fun _=>hS.alloc hS.size _) (fun hS=>?_))
  ·refine reZ 13 ?_;refine reV 14 (fun _=>hS.alloc hS.size _) (fun hS=>?_);refine reW 15 (fun _=>(h.two _ _).b) (fun _=>?_);refine reE ?_;go_wp2
   go_meet
   case rel=>exact⟨_,_,rfl,h.two _ _⟩
  ·refine reV 12 (fun _=>hS.alloc hS.size _) (fun hS=>?_);refine reZ 13 ?_;refine reW 15 (fun _=>(h.two _ _).b) (fun _=>?_);refine reE ?_;go_wp2
   go_meet
   case rel=>exact⟨_,_,rfl,(h.two _ _).sw⟩
 case rest=>
 clear h;obtain⟨T8,g8,rfl,h⟩:=hcut
 have HO5:Hid (∀W,Calls Tryz.prog 17 #[.int .i64 505] W fun e w'=>e=.returned (.agg #[.bool false,.string ⟨#[1,249]⟩,.string ⟨#[1]⟩])/\Below W.heap.size W w'):=fun W=>by
  have k:=tOf_any 505 W (by decide) (by decide);rw[show nbs (505:Int).toNat=⟨#[1,249]⟩ by decide+kernel,show nbs 1=⟨#[1]⟩ by decide+kernel] at k;exact k
 have HO0:Hid (∀W,Calls Tryz.prog 17 #[.int .i64 0] W fun e w'=>e=.returned (.agg #[.bool false,.string ⟨#[]⟩,.string ⟨#[1]⟩])/\Below W.heap.size W w'):=fun W=>by
  have k:=tOf_any 0 W (by decide) (by decide);rw[show nbs (0:Int).toNat=⟨#[]⟩ by decide+kernel,show nbs 1=⟨#[1]⟩ by decide+kernel] at k;exact k
 have HKN:Hid (∀W,Calls Tryz.prog 18 #[.int .i64 0,.int .i64 0] W fun e w'=>e=.returned (.agg #[.bool false,.int .i64 0,.int .i64 0])/\Below W.heap.size W w'):=fun W=>kindN_any 0 0 W
 have hl:=hc _ h.b
 go_upto_region 9 with fail
 generalize hX:World.alloc _ _=X;have hn:=h.ne;replace h:=h.new hX;clear hX hl;go_wp2_with fail;refine (HO5.out X).mono ?_;rintro e Y ⟨rfl,hb⟩;replace h:=h.step hb;have cK:=h.hd.cells;have fK:=h.hd.froz
 go_upto_region 10 with fail
 replace h:=((h.set 9 (.bool false) hn).set 10 (.string ⟨#[1,249]⟩) hn).set 11 (.string ⟨#[1]⟩) hn;simp only[List.set] at h;generalize World.setCell (World.setCell (World.setCell Y _ _) _ _) _ _=Z at h⊢;clear hn cK fK hb;have hl:=hc _ h.b
 go_upto_region 11 with fail
 generalize hX:World.alloc _ _=X;have hn:=h.ne;replace h:=h.new hX;clear hX hl;go_wp2_with fail;refine (HO0.out X).mono ?_;rintro e Y ⟨rfl,hb⟩;replace h:=h.step hb;have cK:=h.hd.cells;have fK:=h.hd.froz
 go_upto_region 12 with fail
 replace h:=((h.set 6 (.bool false) hn).set 7 (.string ⟨#[]⟩) hn).set 8 (.string ⟨#[1]⟩) hn;simp only[List.set] at h;generalize World.setCell (World.setCell (World.setCell Y _ _) _ _) _ _=Z at h⊢;clear hn cK fK hb;have hl:=hc _ h.b
 go_upto_region 13 with fail
 generalize hX:World.alloc _ _=X;have hn:=h.ne;replace h:=h.new hX;clear hX hl;go_wp2_with fail;refine (HKN.out X).mono ?_;rintro e Y ⟨rfl,hb⟩;replace h:=h.step hb;have cK:=h.hd.cells;have fK:=h.hd.froz
 go_upto_region 14 with fail
 replace h:=((h.set 1 (.bool false) hn).set 2 (.int .i64 0) hn).set 3 (.int .i64 0) hn;simp only[List.set] at h;generalize World.setCell (World.setCell (World.setCell Y _ _) _ _) _ _=Z at h⊢;clear hn cK fK hb
 rename World=>W
 clear HO5 HO0 HKN;have hl:=fun (X:World) (k:Below W.heap.size W X)=>And.intro (hc X (bstep h.b k)) ((h.step k).ix 2 (by simp)).cells
 simp only[List.getElem_cons_succ,List.getElem_cons_zero] at hl
 go_upto_region 14 with fail
 refine reS (Below W.heap.size W) 99 (drewN_below _ _ 1) (fun v hv hS=>?_)
 iterate 9 refine reA ?_
 refine reV 9 (fun _=>hS.alloc hS.size _) (fun hS=>?_);refine reA ?_;refine reC 11 (chk_two HLW.out (bstep h.b hS) (HLK.out _ (bstep HB1.out (bstep h.b hS))) (sanP1h,y1) (sanP2,y2) (.inl ⟨rfl,.inr (.inl rfl)⟩) (.inr ⟨rfl,.inl rfl⟩) (Blk.new _ _ _) san_high) ?_;rintro e v2 ⟨rfl,hb⟩;refine⟨_,rfl,bstep hS hb,fun hS=>?_⟩;refine reA ?_;refine reE ?_;replace h:=h.step hS;clear hl hv hb hS
 rename World=>W
 have hl:=fun (X:World) (k:Below W.heap.size W X)=>And.intro (hc X (bstep h.b k)) ((h.step k).ix 1 (by simp)).cells
 simp only[List.getElem_cons_succ,List.getElem_cons_zero] at hl
 go_upto_region 15 with fail
 refine reS (Below W.heap.size W) 99 (drewN_below _ _ 1) (fun v hv hS=>?_)
 iterate 9 refine reA ?_
 refine reV 9 (fun _=>hS.alloc hS.size _) (fun hS=>?_);refine reA ?_;refine reC 11 (chk_two HLW.out (bstep h.b hS) (HLK.out _ (bstep HB1.out (bstep h.b hS))) (sanP1z,y1) (sanP2,y2) (.inl ⟨rfl,.inr (.inr rfl)⟩) (.inr ⟨rfl,.inl rfl⟩) (Blk.new _ _ _) san_zero) ?_;rintro e v2 ⟨rfl,hb⟩;refine⟨_,rfl,bstep hS hb,fun hS=>?_⟩;refine reA ?_;refine reE ?_;replace h:=h.step hS;clear hl hv hb hS
 rename World=>W
 have hl:=fun (X:World) (k:Below W.heap.size W X)=>And.intro (hc X (bstep h.b k)) ((h.step k).ix 0 (by simp)).cells
 simp only[List.getElem_cons_succ,List.getElem_cons_zero] at hl
 go_upto_region 16 with fail
 refine reS (Below W.heap.size W) 99 (drewN_below _ _ 1) (fun v hv hS=>?_)
 iterate 9 refine reA ?_
 refine reV 9 (fun _=>hS.alloc hS.size _) (fun hS=>?_);refine reA ?_;refine reC 11 (chk_two HLW.out (bstep h.b hS) (HLK.out _ (bstep HB1.out (bstep h.b hS))) (sanP1,y1) (sanP2p,y2) (.inl ⟨rfl,.inl rfl⟩) (.inr ⟨rfl,.inr rfl⟩) (Blk.new _ _ _) san_plain) ?_;rintro e v2 ⟨rfl,hb⟩;refine⟨_,rfl,bstep hS hb,fun hS=>?_⟩;refine reA ?_;refine reE ?_;replace h:=h.step hS;clear hl hv hb hS;have heU:((⟨#[102,97,99,116,32,105,110,99,111,109,101,32,109,49,100,48,10,102,97,99,116,32,115,105,110,103,108,101,32,116,114,117,116,104,10,115,99,104,101,100,117,108,101,32,115,99,97,108,101,32,109,49,100,48,58,32,48,32,49,47,49,48,44,32,49,48,48,48,32,49,47,53,10,112,114,111,118,105,115,105,111,110,32,97,105,100,32,109,49,100,48,32,115,116,101,112,32,49,48,32,99,97,112,32,53,48,48,58,32,105,102,40,102,97,99,116,46,115,105,110,103,108,101,44,32,36,49,48,48,44,32,100,105,118,40,111,119,110,46,116,97,120,44,32,52,41,41,10,112,114,111,118,105,115,105,111,110,32,116,97,120,32,109,49,100,48,32,99,104,97,114,103,101,58,32,114,97,116,101,46,115,99,97,108,101,40,115,117,98,40,102,97,99,116,46,105,110,99,111,109,101,44,32,111,119,110,46,97,105,100,41,41,10]⟩:ByteArray).extract 0 212)=sanU:=by decide+kernel
 go_wp2_with fail;refine (parse_no (HLK.out _ (bstep HB1.out h.b)) san_linesU (san_fine [sanF1,sanF2] [sanS] [sanP1] (by decide) (fun s h=>List.mem_singleton.1 h) (by decide) (fun p h=>by obtain rfl:=List.mem_singleton.1 h;simp) (by decide)) (by rw[san_chkU];decide) san_parU).mono ?_;rintro e Y ⟨f7,s7,q7,rfl,hb⟩;replace h:=h.step hb;clear heU
 go_upto_region 18 with fail
 generalize hX:World.alloc _ _=X;replace h:=h.step (zA hX).2;clear hX hb;go_wp2_with fail;refine (parse_no (s:=sanV) (HLK.out _ (bstep HB1.out h.b)) san_linesV (san_fine [] [] [sanP2] (by decide) (fun s h=>by cases h) (by decide) (fun p h=>by obtain rfl:=List.mem_singleton.1 h;simp) (by decide)) (by rw[san_chkV];decide) san_parV).mono ?_;rintro e Y ⟨f7,s7,q7,rfl,hb⟩;replace h:=h.step hb
 go_upto_region 19 with fail
 generalize hX:World.alloc _ _=X;replace h:=h.step (zA hX).2;clear hX hb;go_wp2_with fail;refine (parse_no (s:=sanW) (HLK.out _ (bstep HB1.out h.b)) san_linesW (san_fine [sanF2,sanF1] [] [] (by decide) (fun s h=>by cases h) (by decide) (fun p h=>by cases h) (by decide)) (by rw[san_chkW];decide) san_parW).mono ?_;rintro e Y ⟨f7,s7,q7,rfl,hb⟩;replace h:=h.step hb
 go_upto_region 20 with fail
 generalize hX:World.alloc _ _=X;replace h:=h.step (zA hX).2;clear hX hb
 letI:Inhabited (Pv × Hd):=⟨(sanP1,y1)⟩
 have hl:=hc _ h.b;go_wp2_with fail;refine (uFind_any ⟨#[116,97,120]⟩ [(sanP1,y1),(sanP2,y2)] ⟨some ⟨bf,qf,none⟩,2,fc⟩ ⟨sa,1,sc⟩ ⟨some ⟨bp,qp,none⟩,2,pc⟩ _ (HLW.out.below h.b).p (by show 0<2;decide) 1 rfl (by decide)).mono ?_;rintro e Y ⟨rfl,hb⟩;replace h:=h.step hb;clear hl hb;have hl:=(h.ix 6 (by simp)).cells;simp only[List.getElem_cons_succ,List.getElem_cons_zero] at hl;go_wp2_with fail;refine (chk_law (law_f HLW.out h.b _ _ (row_blk (h.ix 7 (by simp)) Dc.cells [⟨⟨#[97,105,100]⟩,sanF1.ty⟩,sanF2] rfl 2 rfl (by decide))) (HLK.out _ (bstep HB1.out h.b)) (san_fine _ _ _ (by show (2:Nat)<=1000;decide) (fun s h=>List.mem_singleton.1 h) (by decide) (fun p h=>by rcases List.mem_cons.1 h with rfl|h;simp;obtain rfl:=List.mem_singleton.1 h;simp) (by show (2:Nat)<=1000;decide)) san_twice).mono ?_;rintro e Y ⟨rfl,hb⟩;replace h:=h.step hb;clear hl hb;have hl:=(h.ix 5 (by simp)).cells;simp only[List.getElem_cons_succ,List.getElem_cons_zero] at hl;go_wp2_with fail;refine (chk_ps (p':=⟨some ⟨bp,qp+12,none⟩,1,pc-1⟩) HLW.out h.b (HLK.out _ (bstep HB1.out h.b)) [(sanP2,y2)] (fun z hz=>by obtain rfl:=List.mem_singleton.1 hz;exact .inr ⟨rfl,.inl rfl⟩) ?_ (by show (1:Nat)<=1000;decide) san_less).mono ?_
 ·have k:=(HLW.out.below h.b).p;have h1:=k.cap;have h2:=k.max;obtain⟨b',q',e,hlt,hcp⟩:=rd_get k.rd (Nat.zero_lt_succ 23);injection e with e;injection e with e1 e2;subst e1 e2;refine⟨rfl,by show 1<=pc-1;omega,by show pc-1<=maxLen;exact Nat.le_trans (Nat.sub_le _ _) h2,.inr ⟨bp,qp+12,rfl,hlt,fun i h=>?_⟩⟩;rw[Nat.add_assoc];refine hcp (12+i) _ ?_;rw[Nat.add_comm 12 i];exact List.getElem?_eq_getElem h
 rintro e Y ⟨rfl,hb⟩;replace h:=h.step hb;clear hl hb;have hl:=(h.ix 3 (by simp)).cells;simp only[List.getElem_cons_succ,List.getElem_cons_zero] at hl;go_wp2_with fail;refine (chk_two HLW.out h.b (HLK.out _ (bstep HB1.out h.b)) (sanP2,y2) (sanP1,y1) (.inr ⟨rfl,.inl rfl⟩) (.inl ⟨rfl,.inl rfl⟩) (h.ix 4 (by simp)) san_turned).mono ?_;rintro e Y ⟨rfl,hb⟩;replace h:=h.step hb;clear hl hb;go_wp2_with fail;refine (chk_law (LawAt.empty _) (HLK.out _ (bstep HB1.out h.b)) (san_fine [] [] [] (by decide) (fun s h=>by cases h) (by decide) (fun p h=>by cases h) (by decide)) san_empty).mono ?_;rintro e Y ⟨rfl,hb⟩;replace h:=h.step hb;clear hb;have hl:=hc _ h.b;go_wp2_with fail;refine (chk_law (HLW.out.below h.b) (HLK.out _ (bstep HB1.out h.b)) san_fineL san_chk).mono ?_;rintro e Y ⟨rfl,hb⟩;replace h:=h.step hb;clear hl hb;have k:=uName_any ⟨#[97,95,49]⟩ Y (HLK.out _ (bstep HB1.out h.b)).e;rw[san_a1] at k;go_wp2_with fail;refine k.mono ?_;rintro e Y ⟨rfl,hb⟩;replace h:=h.step hb;clear hb k;have k:=uName_any ⟨#[49,97]⟩ Y (HLK.out _ (bstep HB1.out h.b)).e;rw[san_1a] at k;go_wp2_with fail;refine k.mono ?_;rintro e Y ⟨rfl,hb⟩;replace h:=h.step hb;clear hb k;go_wp2;go_ret;exact⟨rfl,bstep HB1.out h.b⟩
end Go.Proofs.YtimokmplkpbmdaaGreatDoor
