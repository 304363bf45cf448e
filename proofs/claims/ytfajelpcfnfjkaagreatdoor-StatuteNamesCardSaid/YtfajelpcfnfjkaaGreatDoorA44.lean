/- A part of the proof: Ug. -/
import Derived.Deep.RegionHeld3
import Derived.Deep.Cut
import Derived.Deep.CutRange
import Derived.Test.YtfajelpcfnfjkaaGreatDoorA00
import Derived.Test.YtfajelpcfnfjkaaGreatDoorA28
import Derived.Test.YtfajelpcfnfjkaaGreatDoorA36
import Derived.Test.YtfajelpcfnfjkaaGreatDoorA40
set_option linter.unusedVariables false
set_option linter.unusedSimpArgs false
namespace Go.Proofs.YtfajelpcfnfjkaaGreatDoor
open Go.RowKit
def FineTy (t:Ty):Prop:=(-1000≤t.money∧t.money≤1000)∧(-1000≤t.days∧t.days≤1000)∧FineR (ofI t.money)∧FineR (ofI t.days)
structure FineT (l:Lw):Prop where
 f:∀d∈l.facts,FineTy d.ty
 s:∀x∈l.schs,FineTy ⟨false,x.money,x.days⟩
 p:∀x∈l.provs,FineTy x.ty
 b:∀x∈l.schs,x.brs.length≤1000
set_option maxRecDepth 100000 in
set_option maxHeartbeats 6400000 in
theorem uWLaw_any (l:Lw) (ss:List (Sc × Hd)) (ps:List (Pv × Hd)) (f s p:Hd) (B b:Nat) (w0 w:World) (bs:List UInt8) (hS:WS B b w0 w bs) (hB0:B=w0.heap.size) (hL:LaidK w0) (h:LawAt w0 l ss ps f s p) (hf:FineL l) (hT:FineT l) (hlen:bs.length+(textL l).length≤10000000000000):
  Calls Tryz.prog 18 #[.pointer (some ⟨b,0,none⟩),lawV f s p] w fun e w'=>e=.returned (.tuple #[])∧WS B b w0 w' (bs++textL l):=by
 have hfn1:=hf.fn;have hsn1:=hf.sn;have hpn1:=hf.pn;obtain⟨fa,fn,fc⟩:=f;obtain⟨sa,sn,sc⟩:=s;obtain⟨pa,pn,pc⟩:=p;unfold lawV;simp only
 obtain⟨W,hW⟩:∃W,W=w.alloc (.cells #[.slice fa fn fc,.slice sa sn sc,.slice pa pn pc] 29):=⟨_,rfl⟩
 obtain⟨Q,hQ⟩:∃Q,Q=w.heap.size:=⟨_,rfl⟩
 have HKL:Hid (Blk W Q 29 [.slice fa fn fc,.slice sa sn sc,.slice pa pn pc]):=by show Blk _ _ _ _;rw[hW,hQ];exact Blk.new w _ _
 have HWS:Hid (WS B b w0 W bs):=by show WS _ _ _ _ _;rw[hW];exact hS.grow ((Below.refl _ _).alloc (Nat.le_refl _) _)
 have HNQ:Hid (Q≠b):=by have:=hS.lt;show Q≠b;omega
 have HLA:Hid (∀W' t,WS B b w0 W' t→LawAt W' l ss ps ⟨fa,fn,fc⟩ ⟨sa,sn,sc⟩ ⟨pa,pn,pc⟩):=fun W' t k=>h.below (hB0 ▸ k.bl)
 have HLK:Hid (∀W' t,WS B b w0 W' t→LaidK W'):=fun W' t k=>hL.below (hB0 ▸ k.bl)
 have HFN:Hid (fn=l.facts.length):=h.f.len;have HSN:Hid (sn=l.schs.length):=by show _=_;rw[←h.sl,List.length_map];exact h.s.len
 have HPN:Hid (pn=l.provs.length):=by show _=_;rw[←h.pl,List.length_map];exact h.p.len
 have HLEN:=Lib.hid hlen;have HFL:=Lib.hid hf;have HFT:=Lib.hid hT;have HTX:Hid (textL l=l.facts.flatMap declL++l.schs.flatMap schL++l.provs.flatMap pvL):=rfl;rw[←HFN.out] at hfn1;rw[←HSN.out] at hsn1;rw[←HPN.out] at hpn1;have HFX:Hid (∀k (hk:k<l.schs.length) (hk':k<ss.length),l.schs[k]=ss[k].1):=fun k hk hk'=>by have e:=h.sl;simp[←e]
 have HPX:Hid (∀k (hk:k<l.provs.length) (hk':k<ps.length),l.provs[k]=ps[k].1):=fun k hk hk'=>by have e:=h.pl;simp[←e]
 have HLS:Hid (∀x∈ss,x.1∈l.schs):=fun x hx=>by rw[←h.sl];exact List.mem_map_of_mem hx
 have HLP:Hid (∀x∈ps,x.1∈l.provs):=fun x hx=>by rw[←h.pl];exact List.mem_map_of_mem hx
 have HBA:Hid (BF b W W):=BF.refl b W;clear h hf hT hL hS hlen hB0;have hkc:=HKL.out.cells;go_enter Tryz.func18,Tryz.ntmps18
 go_upto_region 1 with fail
 simp only[←hW,←hQ]
 clear hW hQ;go_wp2_with fail
 go_loopg [17] fn (fun g iv wr=>∃j:Nat,j+g=fn∧iv=.int .i64 j∧Hid (WS B b w0 wr (bs++(l.facts.take j).flatMap declL))∧Hid (BF b W wr))
 case atStart=>exact⟨0,by omega,rfl,(by show WS _ _ _ _ _;rw[List.take_zero,List.flatMap_nil,List.append_nil];exact HWS.out),HBA⟩
 case round=>
  obtain⟨j,hj,rfl,hws,hbf⟩:=hrel;clear HWS HBA hkc;by_cases hlt:j<fn
  ·have hjx:j<l.facts.length:=by rw[←HFN.out];exact hlt
   have HTK:=Lib.hid (flm_take declL hjx);have hle:=flm_le declL hjx;have HFX1:=Lib.hid (HFT.out.f _ (List.getElem_mem hjx));obtain⟨bb,off,hA,hb,hc⟩:=Rd.row Dc.cells 4 (fun _=>rfl) (by omega) (HLA.out _ _ hws.out).f.rd hjx;simp only at hA;subst hA;have hln:=HLEN.out;rw[HTX.out] at hln;simp only[List.length_append] at hln;have HLN:Hid ((bs++(l.facts.take j).flatMap declL).length+(declL l.facts[j]).length≤100000000000000):=by show _≤_;rw[List.length_append];omega
   clear hln hle;generalize l.facts[j]=x at*;obtain⟨nm,⟨tt,tm,td⟩⟩:=x;have HTY:=Lib.hid (fun W' hb=>uTypeText_any ⟨tt,tm,td⟩ W' hb HFX1.out.1 HFX1.out.2.1 HFX1.out.2.2.1 HFX1.out.2.2.2);have c0:=hc 0 _ rfl;have c1:=hc 1 _ rfl;have c2:=hc 2 _ rfl;have c3:=hc 3 _ rfl;simp only[Nat.add_zero] at c0;clear hc;obtain⟨W2,hW2⟩:∃W2,W2=wr.alloc (.cells #[.string nm,.bool tt,.int .i64 tm,.int .i64 td] 42):=⟨_,rfl⟩
   obtain⟨Kb,hKb⟩:∃K,K=wr.heap.size:=⟨_,rfl⟩
   have HKD:Hid (Blk W2 Kb 42 [.string nm,.bool tt,.int .i64 tm,.int .i64 td]):=by show Blk _ _ _ _;rw[hW2,hKb];exact Blk.new wr _ _
   have HBa:Below wr.heap.size wr W2:=by rw[hW2];exact (Below.refl _ _).alloc (Nat.le_refl _) _
   have HW2:=Lib.hid (hws.out.grow HBa);have HBF2:Hid (BF b W W2):=hbf.out.trans (BF.of_below HBa);have HNE:Hid (Kb≠b):=by have:=hws.out.lt;show Kb≠b;omega
   have HTT:=Lib.hid (fun W' (hb:Below W2.heap.size W2 W')=>HTY.out W' (HLK.out _ _ (HW2.out.grow hb)));have HDC:Hid (declL ⟨nm,⟨tt,tm,td⟩⟩=bytesL [sFact,nm,sSp,tyText ⟨tt,tm,td⟩,sNl]):=rfl;have HSS:Hid (∀W',BF b W2 W'→BF b W2 W'∧W'.cell? ⟨Kb,0,none⟩=some (.string nm)∧W'.cell? ⟨Kb,1,none⟩=some (.bool tt)∧W'.cell? ⟨Kb,2,none⟩=some (.int .i64 tm)∧W'.cell? ⟨Kb,3,none⟩=some (.int .i64 td)):=fun W' hb=>⟨hb,(hb.blk HKD.out (by decide) HNE.out).cells 0,(hb.blk HKD.out (by decide) HNE.out).cells 1,(hb.blk HKD.out (by decide) HNE.out).cells 2,(hb.blk HKD.out (by decide) HNE.out).cells 3⟩
   rw[HDC.out] at HLN HTK;unfold Ty.v at HTT;simp only at HTT;generalize tyText ⟨tt,tm,td⟩=tx at*;clear HTY HFX1 HDC HBa hws hbf
   go_upto_region 4 with fail
   simp only[←hW2,←hKb]
   clear hW2 hKb c0 c1 c2 c3;refine wp_region_noPanic ?_;refine wp_region_held_drew (S:=(fun w'=>BF b W2 w'∧w'.cell? ⟨Kb,0,none⟩=some (.string nm)∧w'.cell? ⟨Kb,1,none⟩=some (.bool tt)∧w'.cell? ⟨Kb,2,none⟩=some (.int .i64 tm)∧w'.cell? ⟨Kb,3,none⟩=some (.int .i64 td))) (by kernel_rfl) (HSS.out _ (BF.of_below (drewN_below W2.heap.size W2 1))) (fun hHeld=>?_);refine tkY 0 ?_ rfl ?_ ?_;rotate_left
   ·intro w hSw;(try dsimp only at hSw);go_simp
    all_goals with_reducible rfl
   try simp only[Act.put,tk1,tk2,tk3,tk4,tk5,tk6]
   refine tkY 1 ?_ rfl ?_ ?_;rotate_left
   ·intro w hSw;(try dsimp only at hSw);go_simp
    all_goals with_reducible rfl
   try simp only[Act.put,tk1,tk2,tk3,tk4,tk5,tk6]
   refine tkY 2 ?_ rfl ?_ ?_;rotate_left
   ·intro w hSw;(try dsimp only at hSw);go_simp
    all_goals with_reducible rfl
   try simp only[Act.put,tk1,tk2,tk3,tk4,tk5,tk6]
   refine tkY 3 ?_ rfl ?_ ?_;rotate_left
   ·intro w hSw;(try dsimp only at hSw);go_simp
    all_goals with_reducible rfl
   try simp only[Act.put,tk1,tk2,tk3,tk4,tk5,tk6]
   refine tkY 4 ?_ rfl ?_ ?_;rotate_left
   ·intro w hSw;(try dsimp only at hSw);go_simp
    all_goals with_reducible rfl
   try simp only[Act.put,tk1,tk2,tk3,tk4,tk5,tk6]
   refine wpAnyH_ready (rs:=[5]) (by kernel_rfl) (by simp) ?_;refine AllReadyH.cons rfl (fun K hK=>?_) AllReadyH.nil;go_simp;refine (HTT.out _ (drewN_below W2.heap.size W2 1)).mono ?_;rintro e w10 ⟨rfl,hb10⟩;have HB10:=Lib.hid (bstep (drewN_below W2.heap.size W2 1) hb10);go_wp2_with fail;refine hK.out _ _ ?_ (fun hHeld=>?_)
   ·exact HSS.out _ (BF.of_below HB10.out)
   clear hK K
   try simp only[Act.put,tk1,tk2,tk3,tk4,tk5,tk6]
   refine wpAnyH_ready (rs:=[6]) (by kernel_rfl) (by simp) ?_;refine AllReadyH.cons rfl (fun K hK=>?_) AllReadyH.nil;go_simp
   skip
   go_wp2_with fail;refine hK.out _ _ ?_ (fun hHeld=>?_)
   ·exact HSS.out _ (BF.of_below (HB10.out.alloc HB10.out.size _))
   clear hK K
   try simp only[Act.put,tk1,tk2,tk3,tk4,tk5,tk6]
   refine wpAnyH_ready (rs:=[7]) (by kernel_rfl) (by simp) ?_;refine AllReadyH.cons rfl (fun K hK=>?_) AllReadyH.nil;go_simp;have HB11:Below W2.heap.size W2 (w10.alloc (.cells (strs [sFact,nm,sSp,tx,sNl]).toArray 9)):=HB10.out.alloc HB10.out.size _;refine ((HW2.out.grow HB11).words [sFact,nm,sSp,tx,sNl] w10.heap.size 5 (Blk.new w10 _ _) (by have h1:=HW2.out.lt;have h2:=HB10.out.size;omega) rfl (by omega) (by simp) HLN.out).mono ?_;rintro e w11 ⟨rfl,hx,hf11⟩;have HX:=Lib.hid hx;have HF:Hid (BF b W2 w11):=(BF.of_below HB11).trans hf11;clear hx hf11 HB11;go_wp2_with fail;refine hK.out _ _ ?_ (fun hHeld=>?_)
   ·exact HSS.out _ HF.out
   clear hK K
   try simp only[Act.put,tk1,tk2,tk3,tk4,tk5,tk6]
   refine wpAnyH_done (by kernel_rfl) ?_ _;refine NoPanic.normal ?_;go_wp2
   go_roundg (fn-(j+1))
   case measure=>omega
   case rel=>exact⟨j+1,by omega,by go_num,(by show WS _ _ _ _ _;rw[HTK.out,←List.append_assoc];exact HX.out),HBF2.out.trans HF.out⟩
  ·have hjn:j=fn:=by omega
   have HWS:=hws;have HBA:=hbf;rw[hjn,List.take_of_length_le (Nat.le_of_eq HFN.out.symm)] at HWS;obtain⟨bs1,hbs1⟩:∃x,x=bs++l.facts.flatMap declL:=⟨_,rfl⟩
   rw[←hbs1] at HWS;have HFIN:Hid (bs++textL l=bs1++l.schs.flatMap schL++l.provs.flatMap pvL):=by show _=_;rw[HTX.out,hbs1];simp only[List.append_assoc]
   have HLEN1:Hid (bs1.length+(l.schs.flatMap schL).length+(l.provs.flatMap pvL).length≤10000000000000):=by
    have h:=HLEN.out;rw[HTX.out] at h;simp only[List.length_append] at h;show _≤_;rw[hbs1,List.length_append];omega
   have hkc:=(hbf.out.blk HKL.out (by decide) HNQ.out).cells;clear hbs1 hws hbf hjn HLEN HTX;go_wp2_with fail
   go_loopg [33] sn (fun g iv wr=>∃j:Nat,j+g=sn∧iv=.int .i64 j∧Hid (WS B b w0 wr (bs1++(l.schs.take j).flatMap schL))∧Hid (BF b W wr))
   case atStart=>exact⟨0,by omega,rfl,(by show WS _ _ _ _ _;rw[List.take_zero,List.flatMap_nil,List.append_nil];exact HWS.out),HBA⟩
   case round=>
    obtain⟨j,hj,rfl,hws,hbf⟩:=hrel;clear HWS HBA hkc;by_cases hlt:j<sn
    ·have hjx:j<l.schs.length:=by rw[←HSN.out];exact hlt
     have hla:=HLA.out _ _ hws.out;have hjs:j<ss.length:=by have e:=hla.sl;rw[←e,List.length_map] at hjx;exact hjx
     have HTK:=flm_take schL hjx;have hle:=flm_le schL hjx;have HFX1:=HFT.out.s _ (List.getElem_mem hjx);have HBN:=HFT.out.b _ (List.getElem_mem hjx);have HFB:=HFL.out.sb _ (List.getElem_mem hjx);rw[HFX.out j hjx hjs] at HTK hle HFX1 HBN HFB;have HBR:Hid (∀W' t,WS B b w0 W' t→RowAt W' Bk.cells ss[j].1.brs ss[j].2):=fun W' t k=>(HLA.out W' t k).sb _ (List.getElem_mem hjs)
     obtain⟨bb,off,hA,hb,hc⟩:=Rd.row scCells 4 (fun _=>rfl) (by omega) hla.s.rd hjs;simp only at hA;subst hA;have hln:=HLEN1.out;generalize ss[j]=x at*;obtain⟨t0,ht0⟩:∃t,t=bs1++(l.schs.take j).flatMap schL:=⟨_,rfl⟩
     rw[←ht0] at hws;obtain⟨⟨nm,sm,sd,brs⟩,⟨ha,hn,hcc⟩⟩:=x;simp only at HBR HFX1 HBN HFB;have hbn:hn≤1000:=by have e:=(HBR.out _ _ hws.out).len;simp only at e;rw[e];exact HBN
     have HHN:Hid (hn=brs.length):=(HBR.out _ _ hws.out).len;have HDC:Hid (schL ⟨nm,sm,sd,brs⟩=bytesL [sSch,nm,sSp,tyText ⟨false,sm,sd⟩]++bksL 0 brs++bytesL [sNl]):=rfl;rw[HDC.out] at HTK hle;have HT0:Hid (bs1++(l.schs.take (j+1)).flatMap schL=t0++bytesL [sSch,nm,sSp,tyText ⟨false,sm,sd⟩]++bksL 0 brs++bytesL [sNl]):=by show _=_;rw[HTK,ht0];simp only[List.append_assoc]
     have HLN:Hid (t0.length+(bytesL [sSch,nm,sSp,tyText ⟨false,sm,sd⟩]).length+(bksL 0 brs).length+(bytesL [sNl]).length≤10000000000000):=by
      simp only[List.length_append] at hle;show _≤_;rw[ht0,List.length_append];omega
     have HFBh:=Lib.hid HFB;have HTY:=Lib.hid (fun W' hb=>uTypeText_any ⟨false,sm,sd⟩ W' hb HFX1.1 HFX1.2.1 HFX1.2.2.1 HFX1.2.2.2);have c0:=hc 0 _ rfl;have c1:=hc 1 _ rfl;have c2:=hc 2 _ rfl;have c3:=hc 3 _ rfl;simp only[Nat.add_zero] at c0;clear hc HTK hle hln hla ht0 HFX1 HBN HFB HDC hb;obtain⟨W2,hW2⟩:∃W2,W2=wr.alloc (.cells #[.string nm,.int .i64 sm,.int .i64 sd,.slice ha hn hcc] 76):=⟨_,rfl⟩
     obtain⟨Kb,hKb⟩:∃K,K=wr.heap.size:=⟨_,rfl⟩
     have HKD:Hid (Blk W2 Kb 76 [.string nm,.int .i64 sm,.int .i64 sd,.slice ha hn hcc]):=by show Blk _ _ _ _;rw[hW2,hKb];exact Blk.new wr _ _
     have HBa:Below wr.heap.size wr W2:=by rw[hW2];exact (Below.refl _ _).alloc (Nat.le_refl _) _
     have HW2:=Lib.hid (hws.out.grow HBa);have HBF2:Hid (BF b W W2):=hbf.out.trans (BF.of_below HBa);have HNE:Hid (Kb≠b):=by have:=hws.out.lt;show Kb≠b;omega
     have HTT:=Lib.hid (fun W' (hb:Below W2.heap.size W2 W')=>HTY.out W' (HLK.out _ _ (HW2.out.grow hb)));have HSS:Hid (∀W',BF b W2 W'→BF b W2 W'∧W'.cell? ⟨Kb,0,none⟩=some (.string nm)∧W'.cell? ⟨Kb,1,none⟩=some (.int .i64 sm)∧W'.cell? ⟨Kb,2,none⟩=some (.int .i64 sd)∧W'.cell? ⟨Kb,3,none⟩=some (.slice ha hn hcc)):=fun W' hb=>⟨hb,(hb.blk HKD.out (by decide) HNE.out).cells 0,(hb.blk HKD.out (by decide) HNE.out).cells 1,(hb.blk HKD.out (by decide) HNE.out).cells 2,(hb.blk HKD.out (by decide) HNE.out).cells 3⟩
     unfold Ty.v at HTT;simp only at HTT;generalize tyText ⟨false,sm,sd⟩=tx at*;clear HTY HBa hws hbf
     go_upto_region 9 with fail
     simp only[←hW2,←hKb]
     clear hW2 hKb c0 c1 c2 c3;have HLN2:Hid (t0.length+(bytesL [sSch,nm,sSp,tx]).length≤100000000000000):=by have:=HLN.out;show _≤_;omega
     refine wp_region_noPanic ?_;refine wp_region_held_drew (S:=(fun w'=>BF b W2 w'∧w'.cell? ⟨Kb,0,none⟩=some (.string nm)∧w'.cell? ⟨Kb,1,none⟩=some (.int .i64 sm)∧w'.cell? ⟨Kb,2,none⟩=some (.int .i64 sd)∧w'.cell? ⟨Kb,3,none⟩=some (.slice ha hn hcc))) (by kernel_rfl) (HSS.out _ (BF.of_below (drewN_below W2.heap.size W2 1))) (fun hHeld=>?_);refine tkY 0 ?_ rfl ?_ ?_;rotate_left
     ·intro w hSw;(try dsimp only at hSw);go_simp
      all_goals with_reducible rfl
     try simp only[Act.put,tk1,tk2,tk3,tk4,tk5,tk6]
     refine tkY 1 ?_ rfl ?_ ?_;rotate_left
     ·intro w hSw;(try dsimp only at hSw);go_simp
      all_goals with_reducible rfl
     try simp only[Act.put,tk1,tk2,tk3,tk4,tk5,tk6]
     refine tkY 2 ?_ rfl ?_ ?_;rotate_left
     ·intro w hSw;(try dsimp only at hSw);go_simp
      all_goals with_reducible rfl
     try simp only[Act.put,tk1,tk2,tk3,tk4,tk5,tk6]
     refine tkY 3 ?_ rfl ?_ ?_;rotate_left
     ·intro w hSw;(try dsimp only at hSw);go_simp
      all_goals with_reducible rfl
     try simp only[Act.put,tk1,tk2,tk3,tk4,tk5,tk6]
     refine tkY 4 ?_ rfl ?_ ?_;rotate_left
     ·intro w hSw;(try dsimp only at hSw);go_simp
      all_goals with_reducible rfl
     try simp only[Act.put,tk1,tk2,tk3,tk4,tk5,tk6]
     refine tkY 5 ?_ rfl ?_ ?_;rotate_left
     ·intro w hSw;(try dsimp only at hSw);go_simp
      all_goals with_reducible rfl
     try simp only[Act.put,tk1,tk2,tk3,tk4,tk5,tk6]
     refine wpAnyH_ready (rs:=[6]) (by kernel_rfl) (by simp) ?_;refine AllReadyH.cons rfl (fun K hK=>?_) AllReadyH.nil;go_simp;refine (HTT.out _ (drewN_below W2.heap.size W2 1)).mono ?_;rintro e w10 ⟨rfl,hb10⟩;have HB10:=Lib.hid (bstep (drewN_below W2.heap.size W2 1) hb10);go_wp2_with fail;refine hK.out _ _ ?_ (fun hHeld=>?_)
     ·exact HSS.out _ (BF.of_below HB10.out)
     clear hK K
     try simp only[Act.put,tk1,tk2,tk3,tk4,tk5,tk6]
     refine wpAnyH_ready (rs:=[7]) (by kernel_rfl) (by simp) ?_;refine AllReadyH.cons rfl (fun K hK=>?_) AllReadyH.nil;go_simp
     skip
     go_wp2_with fail;refine hK.out _ _ ?_ (fun hHeld=>?_)
     ·exact HSS.out _ (BF.of_below (HB10.out.alloc HB10.out.size _))
     clear hK K
     try simp only[Act.put,tk1,tk2,tk3,tk4,tk5,tk6]
     refine wpAnyH_ready (rs:=[8]) (by kernel_rfl) (by simp) ?_;refine AllReadyH.cons rfl (fun K hK=>?_) AllReadyH.nil;go_simp;have HB11:Below W2.heap.size W2 (w10.alloc (.cells (strs [sSch,nm,sSp,tx]).toArray 9)):=HB10.out.alloc HB10.out.size _;refine ((HW2.out.grow HB11).words [sSch,nm,sSp,tx] w10.heap.size 4 (Blk.new w10 _ _) (by have h1:=HW2.out.lt;have h2:=HB10.out.size;omega) rfl (by omega) (by simp) HLN2.out).mono ?_;rintro e w11 ⟨rfl,hx,hf11⟩;have HX:=Lib.hid hx;have HF:Hid (BF b W2 w11):=(BF.of_below HB11).trans hf11;clear hx hf11 HB11;go_wp2_with fail;refine hK.out _ _ ?_ (fun hHeld=>?_)
     ·exact HSS.out _ HF.out
     clear hK K
     try simp only[Act.put,tk1,tk2,tk3,tk4,tk5,tk6]
     refine wpAnyH_done (by kernel_rfl) ?_ _;refine NoPanic.normal ?_;have c3:=(HF.out.blk HKD.out (by decide) HNE.out).cells 3;have HBW:Hid (BF b W w11):=HBF2.out.trans HF.out;obtain⟨t1,ht1⟩:∃t,t=t0++bytesL [sSch,nm,sSp,tx]:=⟨_,rfl⟩
     rw[←ht1] at HX HT0;have HLN3:Hid (t1.length+(bksL 0 brs).length+(bytesL [sNl]).length≤10000000000000):=by have:=HLN.out;show _≤_;rw[ht1,List.length_append];omega
     clear HSS HTT HLN HLN2 HF HBF2 HW2 HKD HNE ht1;go_wp2_with fail
     go_loopg [49] hn (fun g iv wr=>∃k:Nat,k+g=hn∧iv=.int .i64 k∧Hid (WS B b w0 wr (t1++bksL 0 (brs.take k)))∧Hid (BF b W wr))
     case atStart=>exact⟨0,by omega,rfl,(by show WS _ _ _ _ _;rw[List.take_zero,bksL,List.append_nil];exact HX.out),HBW⟩
     case round=>
      obtain⟨k,hk,rfl,hws,hbf⟩:=hrel;clear HX HBW;by_cases hlk:k<hn
      ·have hkx:k<brs.length:=by rw[←HHN.out];exact hlk
       have HTK:=bks_take hkx;have hle:=bks_le hkx;have HFX1:=HFBh.out _ (List.getElem_mem hkx);obtain⟨bb,off,hA,hb,hc⟩:=Rd.row Bk.cells 6 (fun _=>rfl) (by omega) (HBR.out _ _ hws.out).rd hkx;simp only at hA;subst hA;generalize brs[k]=y at*;obtain⟨⟨f1,f2,f3⟩,⟨r1,r2,r3⟩⟩:=y;have hln:=HLN3.out;have HDC:Hid (bytesL (bkW k ⟨⟨f1,f2,f3⟩,⟨r1,r2,r3⟩⟩)=bytesL [sSep k,sSp,textR ⟨f1,f2,f3⟩,sSp,textR ⟨r1,r2,r3⟩]):=rfl;rw[HDC.out] at HTK hle;have HT2:Hid (t1++bksL 0 (brs.take (k+1))=t1++bksL 0 (brs.take k)++bytesL [sSep k,sSp,textR ⟨f1,f2,f3⟩,sSp,textR ⟨r1,r2,r3⟩]):=by show _=_;rw[HTK,List.append_assoc]
       have HLN:Hid ((t1++bksL 0 (brs.take k)).length+(bytesL [sSep k,sSp,textR ⟨f1,f2,f3⟩,sSp,textR ⟨r1,r2,r3⟩]).length≤100000000000000):=by show _≤_;rw[List.length_append];omega
       have HR1:=Lib.hid (fun W' hb=>qText_any ⟨f1,f2,f3⟩ W' hb HFX1.1.1 HFX1.1.2);have HR2:=Lib.hid (fun W' hb=>qText_any ⟨r1,r2,r3⟩ W' hb HFX1.2.1 HFX1.2.2);have c0:=hc 0 _ rfl;have c1:=hc 1 _ rfl;have c2:=hc 2 _ rfl;have c3:=hc 3 _ rfl;have c4:=hc 4 _ rfl;have c5:=hc 5 _ rfl;simp only[Nat.add_zero] at c0;clear hc HTK hle hln HFX1 HDC hb;obtain⟨W2,hW2⟩:∃W2,W2=wr.alloc (.cells #[.bool f1,.string f2,.string f3,.bool r1,.string r2,.string r3] 108):=⟨_,rfl⟩
       obtain⟨Kb,hKb⟩:∃K,K=wr.heap.size:=⟨_,rfl⟩
       have HKD:Hid (Blk W2 Kb 108 [.bool f1,.string f2,.string f3,.bool r1,.string r2,.string r3]):=by show Blk _ _ _ _;rw[hW2,hKb];exact Blk.new wr _ _
       have HBa:Below wr.heap.size wr W2:=by rw[hW2];exact (Below.refl _ _).alloc (Nat.le_refl _) _
       have HW2:=Lib.hid (hws.out.grow HBa);have HBF2:Hid (BF b W W2):=hbf.out.trans (BF.of_below HBa);have HNE:Hid (Kb≠b):=by have:=hws.out.lt;show Kb≠b;omega
       have HT1:=Lib.hid (fun W' (hb:Below W2.heap.size W2 W')=>HR1.out W' (HLK.out _ _ (HW2.out.grow hb)).e.base);have HT3:=Lib.hid (fun W' (hb:Below W2.heap.size W2 W')=>HR2.out W' (HLK.out _ _ (HW2.out.grow hb)).e.base);have HSS:Hid (∀W',BF b W2 W'→BF b W2 W'∧W'.cell? ⟨Kb,0,none⟩=some (.bool f1)∧W'.cell? ⟨Kb,1,none⟩=some (.string f2)∧W'.cell? ⟨Kb,2,none⟩=some (.string f3)∧W'.cell? ⟨Kb,3,none⟩=some (.bool r1)∧W'.cell? ⟨Kb,4,none⟩=some (.string r2)∧W'.cell? ⟨Kb,5,none⟩=some (.string r3)):=fun W' hb=>⟨hb,(hb.blk HKD.out (by decide) HNE.out).cells 0,(hb.blk HKD.out (by decide) HNE.out).cells 1,(hb.blk HKD.out (by decide) HNE.out).cells 2,(hb.blk HKD.out (by decide) HNE.out).cells 3,(hb.blk HKD.out (by decide) HNE.out).cells 4,(hb.blk HKD.out (by decide) HNE.out).cells 5⟩
       unfold Ra.v at HT1 HT3;simp only at HT1 HT3;generalize textR ⟨f1,f2,f3⟩=tx at*;generalize textR ⟨r1,r2,r3⟩=ty at*;clear HR1 HR2 HBa hws hbf
       go_upto_region 13 with fail
       simp only[←hW2,←hKb]
       clear hW2 hKb c0 c1 c2 c3 c4 c5;obtain⟨mi,hmi⟩:∃m,m=min k 1:=⟨_,rfl⟩
       have HMI:Hid (mi≤1):=by show mi≤1;omega
       have HMIN:Hid (min (k:Int) 1=(mi:Int)):=by show min (k:Int) 1=(mi:Int);omega
       have HSEP:Hid (∀(X:World),(X.alloc (.cells #[.string ⟨#[58]⟩,.string ⟨#[44]⟩] 9)).cell? ⟨X.heap.size,mi,none⟩=some (.string (sSep k))):=fun X=>by
        refine ((Blk.new X _ _).cells mi).trans ?_;show ([.string ⟨#[58]⟩,.string ⟨#[44]⟩]:List Value)[mi]?=_;unfold sSep;rcases (show k=0∧mi=0∨k≠0∧mi=1 by omega) with⟨h1,rfl⟩|⟨h1,rfl⟩
        ·rw[if_pos h1];rfl
        ·rw[if_neg h1];rfl
       generalize sSep k=sp at*;clear hmi;refine wp_region_noPanic ?_;refine wp_region_held_drew (S:=(fun w'=>BF b W2 w'∧w'.cell? ⟨Kb,0,none⟩=some (.bool f1)∧w'.cell? ⟨Kb,1,none⟩=some (.string f2)∧w'.cell? ⟨Kb,2,none⟩=some (.string f3)∧w'.cell? ⟨Kb,3,none⟩=some (.bool r1)∧w'.cell? ⟨Kb,4,none⟩=some (.string r2)∧w'.cell? ⟨Kb,5,none⟩=some (.string r3))) (by kernel_rfl) (HSS.out _ (BF.of_below (drewN_below W2.heap.size W2 1))) (fun hHeld=>?_);refine tkY 0 ?_ rfl ?_ ?_;rotate_left
       ·intro w hSw;(try dsimp only at hSw);go_simp
        all_goals with_reducible rfl
       try simp only[Act.put,tk1,tk2,tk3,tk4,tk5,tk6]
       refine tkY 2 ?_ rfl ?_ ?_;rotate_left
       ·intro w hSw;(try dsimp only at hSw);go_simp
        all_goals with_reducible rfl
       try simp only[Act.put,tk1,tk2,tk3,tk4,tk5,tk6]
       refine tkY 6 ?_ rfl ?_ ?_;rotate_left
       ·intro w hSw;(try dsimp only at hSw);go_simp
        all_goals with_reducible rfl
       try simp only[Act.put,tk1,tk2,tk3,tk4,tk5,tk6]
       refine tkY 7 ?_ rfl ?_ ?_;rotate_left
       ·intro w hSw;(try dsimp only at hSw);go_simp
        all_goals with_reducible rfl
       try simp only[Act.put,tk1,tk2,tk3,tk4,tk5,tk6]
       refine tkY 9 ?_ rfl ?_ ?_;rotate_left
       ·intro w hSw;(try dsimp only at hSw);go_simp
        all_goals with_reducible rfl
       try simp only[Act.put,tk1,tk2,tk3,tk4,tk5,tk6]
       refine tkY 10 ?_ rfl ?_ ?_;rotate_left
       ·intro w hSw;(try dsimp only at hSw);go_simp
        all_goals with_reducible rfl
       try simp only[Act.put,tk1,tk2,tk3,tk4,tk5,tk6]
       refine tkY 3 ?_ rfl ?_ ?_;rotate_left
       ·intro w hSw;(try dsimp only at hSw);go_simp
        all_goals with_reducible rfl
       try simp only[Act.put,tk1,tk2,tk3,tk4,tk5,tk6]
       refine wpAnyH_ready (rs:=[1,8]) (by kernel_rfl) (by simp) ?_;refine AllReadyH.cons rfl (fun K hK=>?_) (AllReadyH.cons rfl (fun K hK=>?_) AllReadyH.nil)
       ·go_simp
        skip
        go_wp2_with fail;refine hK.out _ _ ?_ (fun hHeld=>?_)
        ·exact HSS.out _ (BF.of_below ((drewN_below W2.heap.size W2 1).alloc (drewN_below W2.heap.size W2 1).size _))
        clear hK K
        try simp only[Act.put,tk1,tk2,tk3,tk4,tk5,tk6]
        have hsp:=HSEP.out W2;refine tkY 4 (.pointer (some ⟨W2.heap.size,mi,none⟩)) rfl ?_ ?_
        ·intro w hSw;(try dsimp only at hSw);go_simp;rw[HMIN.out,if_pos ⟨by omega,by have:=HMI.out;omega⟩];simp
        try simp only[Act.put,tk1,tk2,tk3,tk4,tk5,tk6]
        refine wpAnyH_ready (rs:=[5,8]) (by kernel_rfl) (by simp) ?_;refine AllReadyH.cons rfl (fun K hK=>?_) (AllReadyH.cons rfl (fun K hK=>?_) AllReadyH.nil)
        ·go_simp
         skip
         go_wp2_with fail;refine hK.out _ _ ?_ (fun hHeld=>?_)
         ·exact HSS.out _ (BF.of_below ((drewN_below W2.heap.size W2 1).alloc (drewN_below W2.heap.size W2 1).size _))
         clear hK K
         try simp only[Act.put,tk1,tk2,tk3,tk4,tk5,tk6]
         refine wpAnyH_ready (rs:=[8]) (by kernel_rfl) (by simp) ?_;refine AllReadyH.cons rfl (fun K hK=>?_) AllReadyH.nil;go_simp;refine (HT1.out _ ((drewN_below W2.heap.size W2 1).alloc (drewN_below W2.heap.size W2 1).size _)).mono ?_;rintro e w9 ⟨rfl,hb10⟩;have HBw9:=Lib.hid (bstep ((drewN_below W2.heap.size W2 1).alloc (drewN_below W2.heap.size W2 1).size _) hb10);clear hb10;go_wp2_with fail;refine hK.out _ _ ?_ (fun hHeld=>?_)
         ·exact HSS.out _ (BF.of_below HBw9.out)
         clear hK K
         try simp only[Act.put,tk1,tk2,tk3,tk4,tk5,tk6]
         refine wpAnyH_ready (rs:=[11]) (by kernel_rfl) (by simp) ?_;refine AllReadyH.cons rfl (fun K hK=>?_) AllReadyH.nil;go_simp;refine (HT3.out _ HBw9.out).mono ?_;rintro e w10 ⟨rfl,hb10⟩;have HBw10:=Lib.hid (bstep HBw9.out hb10);clear hb10;go_wp2_with fail;refine hK.out _ _ ?_ (fun hHeld=>?_)
         ·exact HSS.out _ (BF.of_below HBw10.out)
         clear hK K
         try simp only[Act.put,tk1,tk2,tk3,tk4,tk5,tk6]
         refine wpAnyH_ready (rs:=[12]) (by kernel_rfl) (by simp) ?_;refine AllReadyH.cons rfl (fun K hK=>?_) AllReadyH.nil;go_simp
         skip
         go_wp2_with fail;refine hK.out _ _ ?_ (fun hHeld=>?_)
         ·exact HSS.out _ (BF.of_below (HBw10.out.alloc HBw10.out.size _))
         clear hK K
         try simp only[Act.put,tk1,tk2,tk3,tk4,tk5,tk6]
         refine wpAnyH_ready (rs:=[13]) (by kernel_rfl) (by simp) ?_;refine AllReadyH.cons rfl (fun K hK=>?_) AllReadyH.nil;go_simp;have HB11:Below W2.heap.size W2 (w10.alloc (.cells (strs [sp,sSp,tx,sSp,ty]).toArray 9)):=HBw10.out.alloc HBw10.out.size _;refine ((HW2.out.grow HB11).words [sp,sSp,tx,sSp,ty] w10.heap.size 5 (Blk.new w10 _ _) (by have h1:=HW2.out.lt;have h2:=HBw10.out.size;omega) rfl (by omega) (by simp) HLN.out).mono ?_;rintro e w11 ⟨rfl,hx,hf11⟩;have HX:=Lib.hid hx;have HF:Hid (BF b W2 w11):=(BF.of_below HB11).trans hf11;clear hx hf11 HB11;go_wp2_with fail;refine hK.out _ _ ?_ (fun hHeld=>?_)
         ·exact HSS.out _ HF.out
         clear hK K
         try simp only[Act.put,tk1,tk2,tk3,tk4,tk5,tk6]
         refine wpAnyH_done (by kernel_rfl) ?_ _;refine NoPanic.normal ?_;go_wp2
         go_roundg (hn-(k+1))
         case measure=>omega
         case rel=>exact⟨k+1,by omega,by go_num,(by show WS _ _ _ _ _;rw[HT2.out];exact HX.out),HBF2.out.trans HF.out⟩
        ·go_simp;refine (HT1.out _ ((drewN_below W2.heap.size W2 1).alloc (drewN_below W2.heap.size W2 1).size _)).mono ?_;rintro e w9 ⟨rfl,hb10⟩;have hsp:=(hb10.cell (by first|(rw[World.size_alloc];done)|(rw[World.size_alloc];omega)|(simp;done)|(simp;omega))).trans hsp;have HBw9:=Lib.hid (bstep ((drewN_below W2.heap.size W2 1).alloc (drewN_below W2.heap.size W2 1).size _) hb10);have hlt:W2.heap.size<w9.heap.size:=by have h:=hb10.size;rw[World.size_alloc] at h;first|omega|(have hd:(W2.drewN 1).heap.size=W2.heap.size:=rfl;omega)
         clear hb10;go_wp2_with fail;refine hK.out _ _ ?_ (fun hHeld=>?_)
         ·exact HSS.out _ (BF.of_below HBw9.out)
         clear hK K
         try simp only[Act.put,tk1,tk2,tk3,tk4,tk5,tk6]
         refine wpAnyH_ready (rs:=[5,11]) (by kernel_rfl) (by simp) ?_;refine AllReadyH.cons rfl (fun K hK=>?_) (AllReadyH.cons rfl (fun K hK=>?_) AllReadyH.nil)
         ·go_simp
          skip
          go_wp2_with fail;refine hK.out _ _ ?_ (fun hHeld=>?_)
          ·exact HSS.out _ (BF.of_below HBw9.out)
          clear hK K
          try simp only[Act.put,tk1,tk2,tk3,tk4,tk5,tk6]
          refine wpAnyH_ready (rs:=[11]) (by kernel_rfl) (by simp) ?_;refine AllReadyH.cons rfl (fun K hK=>?_) AllReadyH.nil;go_simp;refine (HT3.out _ HBw9.out).mono ?_;rintro e w10 ⟨rfl,hb10⟩;have HBw10:=Lib.hid (bstep HBw9.out hb10);clear hb10;go_wp2_with fail;refine hK.out _ _ ?_ (fun hHeld=>?_)
          ·exact HSS.out _ (BF.of_below HBw10.out)
          clear hK K
          try simp only[Act.put,tk1,tk2,tk3,tk4,tk5,tk6]
          refine wpAnyH_ready (rs:=[12]) (by kernel_rfl) (by simp) ?_;refine AllReadyH.cons rfl (fun K hK=>?_) AllReadyH.nil;go_simp
          skip
          go_wp2_with fail;refine hK.out _ _ ?_ (fun hHeld=>?_)
          ·exact HSS.out _ (BF.of_below (HBw10.out.alloc HBw10.out.size _))
          clear hK K
          try simp only[Act.put,tk1,tk2,tk3,tk4,tk5,tk6]
          refine wpAnyH_ready (rs:=[13]) (by kernel_rfl) (by simp) ?_;refine AllReadyH.cons rfl (fun K hK=>?_) AllReadyH.nil;go_simp;have HB11:Below W2.heap.size W2 (w10.alloc (.cells (strs [sp,sSp,tx,sSp,ty]).toArray 9)):=HBw10.out.alloc HBw10.out.size _;refine ((HW2.out.grow HB11).words [sp,sSp,tx,sSp,ty] w10.heap.size 5 (Blk.new w10 _ _) (by have h1:=HW2.out.lt;have h2:=HBw10.out.size;omega) rfl (by omega) (by simp) HLN.out).mono ?_;rintro e w11 ⟨rfl,hx,hf11⟩;have HX:=Lib.hid hx;have HF:Hid (BF b W2 w11):=(BF.of_below HB11).trans hf11;clear hx hf11 HB11;go_wp2_with fail;refine hK.out _ _ ?_ (fun hHeld=>?_)
          ·exact HSS.out _ HF.out
          clear hK K
          try simp only[Act.put,tk1,tk2,tk3,tk4,tk5,tk6]
          refine wpAnyH_done (by kernel_rfl) ?_ _;refine NoPanic.normal ?_;go_wp2
          go_roundg (hn-(k+1))
          case measure=>omega
          case rel=>exact⟨k+1,by omega,by go_num,(by show WS _ _ _ _ _;rw[HT2.out];exact HX.out),HBF2.out.trans HF.out⟩
         ·go_simp;refine (HT3.out _ HBw9.out).mono ?_;rintro e w10 ⟨rfl,hb10⟩;have hsp:=(hb10.cell hlt).trans hsp;have HBw10:=Lib.hid (bstep HBw9.out hb10);have hlt:W2.heap.size<w10.heap.size:=by have h:=hb10.size;omega
          clear hb10;go_wp2_with fail;refine hK.out _ _ ?_ (fun hHeld=>?_)
          ·exact HSS.out _ (BF.of_below HBw10.out)
          clear hK K
          try simp only[Act.put,tk1,tk2,tk3,tk4,tk5,tk6]
          refine wpAnyH_ready (rs:=[5]) (by kernel_rfl) (by simp) ?_;refine AllReadyH.cons rfl (fun K hK=>?_) AllReadyH.nil;go_simp
          skip
          go_wp2_with fail;refine hK.out _ _ ?_ (fun hHeld=>?_)
          ·exact HSS.out _ (BF.of_below HBw10.out)
          clear hK K
          try simp only[Act.put,tk1,tk2,tk3,tk4,tk5,tk6]
          refine wpAnyH_ready (rs:=[12]) (by kernel_rfl) (by simp) ?_;refine AllReadyH.cons rfl (fun K hK=>?_) AllReadyH.nil;go_simp
          skip
          go_wp2_with fail;refine hK.out _ _ ?_ (fun hHeld=>?_)
          ·exact HSS.out _ (BF.of_below (HBw10.out.alloc HBw10.out.size _))
          clear hK K
          try simp only[Act.put,tk1,tk2,tk3,tk4,tk5,tk6]
          refine wpAnyH_ready (rs:=[13]) (by kernel_rfl) (by simp) ?_;refine AllReadyH.cons rfl (fun K hK=>?_) AllReadyH.nil;go_simp;have HB11:Below W2.heap.size W2 (w10.alloc (.cells (strs [sp,sSp,tx,sSp,ty]).toArray 9)):=HBw10.out.alloc HBw10.out.size _;refine ((HW2.out.grow HB11).words [sp,sSp,tx,sSp,ty] w10.heap.size 5 (Blk.new w10 _ _) (by have h1:=HW2.out.lt;have h2:=HBw10.out.size;omega) rfl (by omega) (by simp) HLN.out).mono ?_;rintro e w11 ⟨rfl,hx,hf11⟩;have HX:=Lib.hid hx;have HF:Hid (BF b W2 w11):=(BF.of_below HB11).trans hf11;clear hx hf11 HB11;go_wp2_with fail;refine hK.out _ _ ?_ (fun hHeld=>?_)
          ·exact HSS.out _ HF.out
          clear hK K
          try simp only[Act.put,tk1,tk2,tk3,tk4,tk5,tk6]
          refine wpAnyH_done (by kernel_rfl) ?_ _;refine NoPanic.normal ?_;go_wp2
          go_roundg (hn-(k+1))
          case measure=>omega
          case rel=>exact⟨k+1,by omega,by go_num,(by show WS _ _ _ _ _;rw[HT2.out];exact HX.out),HBF2.out.trans HF.out⟩
       ·go_simp;refine (HT1.out _ (drewN_below W2.heap.size W2 1)).mono ?_;rintro e w9 ⟨rfl,hb10⟩;have HBw9:=Lib.hid (bstep (drewN_below W2.heap.size W2 1) hb10);clear hb10;go_wp2_with fail;refine hK.out _ _ ?_ (fun hHeld=>?_)
        ·exact HSS.out _ (BF.of_below HBw9.out)
        clear hK K
        try simp only[Act.put,tk1,tk2,tk3,tk4,tk5,tk6]
        refine wpAnyH_ready (rs:=[1,11]) (by kernel_rfl) (by simp) ?_;refine AllReadyH.cons rfl (fun K hK=>?_) (AllReadyH.cons rfl (fun K hK=>?_) AllReadyH.nil)
        ·go_simp
         skip
         go_wp2_with fail;refine hK.out _ _ ?_ (fun hHeld=>?_)
         ·exact HSS.out _ (BF.of_below (HBw9.out.alloc HBw9.out.size _))
         clear hK K
         try simp only[Act.put,tk1,tk2,tk3,tk4,tk5,tk6]
         have hsp:=HSEP.out w9;refine tkY 4 (.pointer (some ⟨w9.heap.size,mi,none⟩)) rfl ?_ ?_
         ·intro w hSw;(try dsimp only at hSw);go_simp;rw[HMIN.out,if_pos ⟨by omega,by have:=HMI.out;omega⟩];simp
         try simp only[Act.put,tk1,tk2,tk3,tk4,tk5,tk6]
         refine wpAnyH_ready (rs:=[5,11]) (by kernel_rfl) (by simp) ?_;refine AllReadyH.cons rfl (fun K hK=>?_) (AllReadyH.cons rfl (fun K hK=>?_) AllReadyH.nil)
         ·go_simp
          skip
          go_wp2_with fail;refine hK.out _ _ ?_ (fun hHeld=>?_)
          ·exact HSS.out _ (BF.of_below (HBw9.out.alloc HBw9.out.size _))
          clear hK K
          try simp only[Act.put,tk1,tk2,tk3,tk4,tk5,tk6]
          refine wpAnyH_ready (rs:=[11]) (by kernel_rfl) (by simp) ?_;refine AllReadyH.cons rfl (fun K hK=>?_) AllReadyH.nil;go_simp;refine (HT3.out _ (HBw9.out.alloc HBw9.out.size _)).mono ?_;rintro e w10 ⟨rfl,hb10⟩;have HBw10:=Lib.hid (bstep (HBw9.out.alloc HBw9.out.size _) hb10);clear hb10;go_wp2_with fail;refine hK.out _ _ ?_ (fun hHeld=>?_)
          ·exact HSS.out _ (BF.of_below HBw10.out)
          clear hK K
          try simp only[Act.put,tk1,tk2,tk3,tk4,tk5,tk6]
          refine wpAnyH_ready (rs:=[12]) (by kernel_rfl) (by simp) ?_;refine AllReadyH.cons rfl (fun K hK=>?_) AllReadyH.nil;go_simp
          skip
          go_wp2_with fail;refine hK.out _ _ ?_ (fun hHeld=>?_)
          ·exact HSS.out _ (BF.of_below (HBw10.out.alloc HBw10.out.size _))
          clear hK K
          try simp only[Act.put,tk1,tk2,tk3,tk4,tk5,tk6]
          refine wpAnyH_ready (rs:=[13]) (by kernel_rfl) (by simp) ?_;refine AllReadyH.cons rfl (fun K hK=>?_) AllReadyH.nil;go_simp;have HB11:Below W2.heap.size W2 (w10.alloc (.cells (strs [sp,sSp,tx,sSp,ty]).toArray 9)):=HBw10.out.alloc HBw10.out.size _;refine ((HW2.out.grow HB11).words [sp,sSp,tx,sSp,ty] w10.heap.size 5 (Blk.new w10 _ _) (by have h1:=HW2.out.lt;have h2:=HBw10.out.size;omega) rfl (by omega) (by simp) HLN.out).mono ?_;rintro e w11 ⟨rfl,hx,hf11⟩;have HX:=Lib.hid hx;have HF:Hid (BF b W2 w11):=(BF.of_below HB11).trans hf11;clear hx hf11 HB11;go_wp2_with fail;refine hK.out _ _ ?_ (fun hHeld=>?_)
          ·exact HSS.out _ HF.out
          clear hK K
          try simp only[Act.put,tk1,tk2,tk3,tk4,tk5,tk6]
          refine wpAnyH_done (by kernel_rfl) ?_ _;refine NoPanic.normal ?_;go_wp2
          go_roundg (hn-(k+1))
          case measure=>omega
          case rel=>exact⟨k+1,by omega,by go_num,(by show WS _ _ _ _ _;rw[HT2.out];exact HX.out),HBF2.out.trans HF.out⟩
         ·go_simp;refine (HT3.out _ (HBw9.out.alloc HBw9.out.size _)).mono ?_;rintro e w10 ⟨rfl,hb10⟩;have hsp:=(hb10.cell (by first|(rw[World.size_alloc];done)|(rw[World.size_alloc];omega)|(simp;done)|(simp;omega))).trans hsp;have HBw10:=Lib.hid (bstep (HBw9.out.alloc HBw9.out.size _) hb10);have hlt:w9.heap.size<w10.heap.size:=by have h:=hb10.size;rw[World.size_alloc] at h;first|omega|(have hd:(W2.drewN 1).heap.size=W2.heap.size:=rfl;omega)
          clear hb10;go_wp2_with fail;refine hK.out _ _ ?_ (fun hHeld=>?_)
          ·exact HSS.out _ (BF.of_below HBw10.out)
          clear hK K
          try simp only[Act.put,tk1,tk2,tk3,tk4,tk5,tk6]
          refine wpAnyH_ready (rs:=[5]) (by kernel_rfl) (by simp) ?_;refine AllReadyH.cons rfl (fun K hK=>?_) AllReadyH.nil;go_simp
          skip
          go_wp2_with fail;refine hK.out _ _ ?_ (fun hHeld=>?_)
          ·exact HSS.out _ (BF.of_below HBw10.out)
          clear hK K
          try simp only[Act.put,tk1,tk2,tk3,tk4,tk5,tk6]
          refine wpAnyH_ready (rs:=[12]) (by kernel_rfl) (by simp) ?_;refine AllReadyH.cons rfl (fun K hK=>?_) AllReadyH.nil;go_simp
          skip
          go_wp2_with fail;refine hK.out _ _ ?_ (fun hHeld=>?_)
          ·exact HSS.out _ (BF.of_below (HBw10.out.alloc HBw10.out.size _))
          clear hK K
          try simp only[Act.put,tk1,tk2,tk3,tk4,tk5,tk6]
          refine wpAnyH_ready (rs:=[13]) (by kernel_rfl) (by simp) ?_;refine AllReadyH.cons rfl (fun K hK=>?_) AllReadyH.nil;go_simp;have HB11:Below W2.heap.size W2 (w10.alloc (.cells (strs [sp,sSp,tx,sSp,ty]).toArray 9)):=HBw10.out.alloc HBw10.out.size _;refine ((HW2.out.grow HB11).words [sp,sSp,tx,sSp,ty] w10.heap.size 5 (Blk.new w10 _ _) (by have h1:=HW2.out.lt;have h2:=HBw10.out.size;omega) rfl (by omega) (by simp) HLN.out).mono ?_;rintro e w11 ⟨rfl,hx,hf11⟩;have HX:=Lib.hid hx;have HF:Hid (BF b W2 w11):=(BF.of_below HB11).trans hf11;clear hx hf11 HB11;go_wp2_with fail;refine hK.out _ _ ?_ (fun hHeld=>?_)
          ·exact HSS.out _ HF.out
          clear hK K
          try simp only[Act.put,tk1,tk2,tk3,tk4,tk5,tk6]
          refine wpAnyH_done (by kernel_rfl) ?_ _;refine NoPanic.normal ?_;go_wp2
          go_roundg (hn-(k+1))
          case measure=>omega
          case rel=>exact⟨k+1,by omega,by go_num,(by show WS _ _ _ _ _;rw[HT2.out];exact HX.out),HBF2.out.trans HF.out⟩
        ·go_simp;refine (HT3.out _ HBw9.out).mono ?_;rintro e w10 ⟨rfl,hb10⟩;have HBw10:=Lib.hid (bstep HBw9.out hb10);clear hb10;go_wp2_with fail;refine hK.out _ _ ?_ (fun hHeld=>?_)
         ·exact HSS.out _ (BF.of_below HBw10.out)
         clear hK K
         try simp only[Act.put,tk1,tk2,tk3,tk4,tk5,tk6]
         refine wpAnyH_ready (rs:=[1]) (by kernel_rfl) (by simp) ?_;refine AllReadyH.cons rfl (fun K hK=>?_) AllReadyH.nil;go_simp
         skip
         go_wp2_with fail;refine hK.out _ _ ?_ (fun hHeld=>?_)
         ·exact HSS.out _ (BF.of_below (HBw10.out.alloc HBw10.out.size _))
         clear hK K
         try simp only[Act.put,tk1,tk2,tk3,tk4,tk5,tk6]
         have hsp:=HSEP.out w10;refine tkY 4 (.pointer (some ⟨w10.heap.size,mi,none⟩)) rfl ?_ ?_
         ·intro w hSw;(try dsimp only at hSw);go_simp;rw[HMIN.out,if_pos ⟨by omega,by have:=HMI.out;omega⟩];simp
         try simp only[Act.put,tk1,tk2,tk3,tk4,tk5,tk6]
         refine wpAnyH_ready (rs:=[5]) (by kernel_rfl) (by simp) ?_;refine AllReadyH.cons rfl (fun K hK=>?_) AllReadyH.nil;go_simp
         skip
         go_wp2_with fail;refine hK.out _ _ ?_ (fun hHeld=>?_)
         ·exact HSS.out _ (BF.of_below (HBw10.out.alloc HBw10.out.size _))
         clear hK K
         try simp only[Act.put,tk1,tk2,tk3,tk4,tk5,tk6]
         refine wpAnyH_ready (rs:=[12]) (by kernel_rfl) (by simp) ?_;refine AllReadyH.cons rfl (fun K hK=>?_) AllReadyH.nil;obtain⟨WZ,hWZ⟩:∃Z,Z=w10.alloc (.cells #[.string ⟨#[58]⟩,.string ⟨#[44]⟩] 9):=⟨_,rfl⟩
         have HBZ:Hid (Below W2.heap.size W2 WZ):=by show Below _ _ _;rw[hWZ];exact (HBw10.out.alloc HBw10.out.size _)
         simp only[←hWZ]
         clear hWZ;go_simp
         skip
         go_wp2_with fail;refine hK.out _ _ ?_ (fun hHeld=>?_)
         ·exact HSS.out _ (BF.of_below (HBZ.out.alloc HBZ.out.size _))
         clear hK K
         try simp only[Act.put,tk1,tk2,tk3,tk4,tk5,tk6]
         refine wpAnyH_ready (rs:=[13]) (by kernel_rfl) (by simp) ?_;refine AllReadyH.cons rfl (fun K hK=>?_) AllReadyH.nil;go_simp;have HB11:Below W2.heap.size W2 (WZ.alloc (.cells (strs [sp,sSp,tx,sSp,ty]).toArray 9)):=HBZ.out.alloc HBZ.out.size _;refine ((HW2.out.grow HB11).words [sp,sSp,tx,sSp,ty] WZ.heap.size 5 (Blk.new WZ _ _) (by have h1:=HW2.out.lt;have h2:=HBZ.out.size;omega) rfl (by omega) (by simp) HLN.out).mono ?_;rintro e w11 ⟨rfl,hx,hf11⟩;have HX:=Lib.hid hx;have HF:Hid (BF b W2 w11):=(BF.of_below HB11).trans hf11;clear hx hf11 HB11;go_wp2_with fail;refine hK.out _ _ ?_ (fun hHeld=>?_)
         ·exact HSS.out _ HF.out
         clear hK K
         try simp only[Act.put,tk1,tk2,tk3,tk4,tk5,tk6]
         refine wpAnyH_done (by kernel_rfl) ?_ _;refine NoPanic.normal ?_;go_wp2
         go_roundg (hn-(k+1))
         case measure=>omega
         case rel=>exact⟨k+1,by omega,by go_num,(by show WS _ _ _ _ _;rw[HT2.out];exact HX.out),HBF2.out.trans HF.out⟩
      ·have hkn:k=brs.length:=by have:=HHN.out;omega
       have HW4:=hws;rw[hkn,List.take_of_length_le (Nat.le_refl _)] at HW4;have HBQ:Hid (Below wr.heap.size wr (wr.alloc (.cells (strs [sNl]).toArray 9))):=(Below.refl _ _).alloc (Nat.le_refl _) _;clear hws hkn;go_wp2_with fail;refine ((HW4.out.grow HBQ.out).words [sNl] wr.heap.size 1 (Blk.new wr _ _) HW4.out.lt rfl (by omega) (by simp) (by have:=HLN3.out;rw[List.length_append];omega)).mono ?_;rintro e w12 ⟨rfl,hx,hf⟩;have HX:=Lib.hid hx;have HF:Hid (BF b W w12):=hbf.out.trans ((BF.of_below HBQ.out).trans hf);clear hx hf HW4 HBQ hbf;go_wp2
       go_roundg (sn-(j+1))
       case measure=>omega
       case rel=>exact⟨j+1,by omega,by go_num,(by show WS _ _ _ _ _;rw[HT0.out];exact HX.out),HF⟩
    ·have hjn:j=sn:=by omega
     have HWS:=hws;have HBA:=hbf;rw[hjn,List.take_of_length_le (Nat.le_of_eq HSN.out.symm)] at HWS;have HLEN2:Hid ((bs1++l.schs.flatMap schL).length+(l.provs.flatMap pvL).length≤10000000000000):=by have h:=HLEN1.out;show _≤_;rw[List.length_append];omega
     generalize bs1++l.schs.flatMap schL=bs2 at*;have hkc:=(hbf.out.blk HKL.out (by decide) HNQ.out).cells;clear hws hbf hjn HLEN1;go_wp2_with fail
     go_loopg [76] pn (fun g iv wr=>∃j:Nat,j+g=pn∧iv=.int .i64 j∧Hid (WS B b w0 wr (bs2++(l.provs.take j).flatMap pvL))∧Hid (BF b W wr))
     case atStart=>exact⟨0,by omega,rfl,(by show WS _ _ _ _ _;rw[List.take_zero,List.flatMap_nil,List.append_nil];exact HWS.out),HBA⟩
     case round=>
      obtain⟨j,hj,rfl,hws,hbf⟩:=hrel;clear HWS HBA hkc;by_cases hlt:j<pn
      ·have hjx:j<l.provs.length:=by rw[←HPN.out];exact hlt
       have hla:=HLA.out _ _ hws.out;have hjs:j<ps.length:=by have e:=hla.pl;rw[←e,List.length_map] at hjx;exact hjx
       have HTK:=flm_take pvL hjx;have hle:=flm_le pvL hjx;have HFX1:=HFT.out.p _ (List.getElem_mem hjx);have HFB:=HFL.out.pb _ (List.getElem_mem hjx);rw[HPX.out j hjx hjs] at HTK hle HFX1 HFB;have HBR:Hid (∀W' t,WS B b w0 W' t→RowAt W' Nd.cells ps[j].1.body ps[j].2):=fun W' t k=>(HLA.out W' t k).pb _ (List.getElem_mem hjs)
       obtain⟨bb,off,hA,hb,hc⟩:=Rd.row pvCells 12 (fun _=>rfl) (by omega) hla.p.rd hjs;simp only at hA;subst hA;have hln:=HLEN2.out;generalize ps[j]=x at*;obtain⟨t0,ht0⟩:∃t,t=bs2++(l.provs.take j).flatMap pvL:=⟨_,rfl⟩
       rw[←ht0] at hws;have HPL:=Lib.hid (fun W'=>uPlain_any x W');obtain⟨⟨nm,⟨tt,tm,td⟩,ch,⟨s1,s2,s3⟩,⟨p1,p2,p3⟩,bo⟩,⟨ha,hn,hcc⟩⟩:=x;simp only at HBR HFX1 HFB;have HDC:Hid (pvL ⟨nm,⟨tt,tm,td⟩,ch,⟨s1,s2,s3⟩,⟨p1,p2,p3⟩,bo⟩=bytesL [sPrv,nm,sSp,tyText ⟨tt,tm,td⟩]++(if ch then bytesL [sChg] else [])++(if plainP ⟨nm,⟨tt,tm,td⟩,ch,⟨s1,s2,s3⟩,⟨p1,p2,p3⟩,bo⟩ then [] else bytesL [sStp,textR ⟨s1,s2,s3⟩,sCap,textR ⟨p1,p2,p3⟩])++bytesL [sCs,bodyT bo,sNl]):=rfl;rw[HDC.out] at HTK hle;simp only at HPL;unfold pvCells at HPL;simp only at HPL;generalize plainP ⟨nm,⟨tt,tm,td⟩,ch,⟨s1,s2,s3⟩,⟨p1,p2,p3⟩,bo⟩=pl at*;have HTY:=Lib.hid (fun W' hb=>uTypeText_any ⟨tt,tm,td⟩ W' hb HFX1.1 HFX1.2.1 HFX1.2.2.1 HFX1.2.2.2);have HR1:=Lib.hid (fun W' hb=>qText_any ⟨s1,s2,s3⟩ W' hb HFB.1.1 HFB.1.2);have HR2:=Lib.hid (fun W' hb=>qText_any ⟨p1,p2,p3⟩ W' hb HFB.2.1.1 HFB.2.1.2)
       have HBT:Hid (∀W' t,WS B b w0 W' t→Calls Tryz.prog 42 #[.slice ha hn hcc] W' fun e w'=>(∃z:Int,e=.returned (.tuple #[.string (bodyT bo),.int .i64 z]))∧Below W'.heap.size W' w'):=fun W' t k=>
        (eText_any bo ha hn hcc W' (HLK.out W' t k).e ⟨(HBR.out W' t k).len,(HBR.out W' t k).cap,(HBR.out W' t k).max,(HBR.out W' t k).rd⟩ HFB.2.2).mono fun e w' h=>⟨⟨_,h.1⟩,h.2⟩
       obtain⟨t1,ht1⟩:∃t,t=t0++bytesL [sPrv,nm,sSp,tyText ⟨tt,tm,td⟩]:=⟨_,rfl⟩
       obtain⟨t2,ht2⟩:∃t,t=t1++(if ch then bytesL [sChg] else []):=⟨_,rfl⟩
       obtain⟨t3,ht3⟩:∃t,t=t2++(if pl then [] else bytesL [sStp,textR ⟨s1,s2,s3⟩,sCap,textR ⟨p1,p2,p3⟩]):=⟨_,rfl⟩
       have HT0:Hid (bs2++(l.provs.take (j+1)).flatMap pvL=t3++bytesL [sCs,bodyT bo,sNl]):=by show _=_;rw[HTK,ht3,ht2,ht1,ht0];simp only[List.append_assoc]
       have HLN4:Hid (t3.length+(bytesL [sCs,bodyT bo,sNl]).length≤100000000000000):=by
        simp only[List.length_append] at hle;show _≤_;rw[ht3,ht2,ht1,ht0];simp only[List.length_append];omega
       have HV2:Hid ((ch=true→t2=t1++bytesL [sChg])∧(ch=false→t2=t1)):=⟨fun h=>by rw[ht2,h];rfl,fun h=>by rw[ht2,h];exact List.append_nil _⟩
       have HV3:Hid ((pl=false→t3=t2++bytesL [sStp,textR ⟨s1,s2,s3⟩,sCap,textR ⟨p1,p2,p3⟩])∧(pl=true→t3=t2)):=⟨fun h=>by rw[ht3,h];rfl,fun h=>by rw[ht3,h];exact List.append_nil _⟩
       have HL3:Hid (t2.length≤t3.length):=by show _≤_;rw[ht3,List.length_append];omega
       have HL2:Hid (t1.length≤t2.length):=by show _≤_;rw[ht2,List.length_append];omega
       have HL1:Hid (t1.length=t0.length+(bytesL [sPrv,nm,sSp,tyText ⟨tt,tm,td⟩]).length):=by show _=_;rw[ht1,List.length_append]
       have HLN1:Hid (t0.length+(bytesL [sPrv,nm,sSp,tyText ⟨tt,tm,td⟩]).length≤100000000000000):=by
        have h1:=HL1.out;have h2:=HL2.out;have h3:=HL3.out;have h4:=HLN4.out;show _≤_;omega
       have HT1:=Lib.hid ht1;have c0:=hc 0 _ rfl;have c1:=hc 1 _ rfl;have c2:=hc 2 _ rfl;have c3:=hc 3 _ rfl;have c4:=hc 4 _ rfl;have c5:=hc 5 _ rfl;have c6:=hc 6 _ rfl;have c7:=hc 7 _ rfl;have c8:=hc 8 _ rfl;have c9:=hc 9 _ rfl;have c10:=hc 10 _ rfl;have c11:=hc 11 _ rfl;simp only[Nat.add_zero] at c0;clear hc HTK hle hln hla ht0 ht1 ht2 ht3 HFX1 HFB HDC hb HL1;obtain⟨W2,hW2⟩:∃W2,W2=wr.alloc (.cells #[.string nm,.bool tt,.int .i64 tm,.int .i64 td,.slice ha hn hcc,.bool ch,.bool s1,.string s2,.string s3,.bool p1,.string p2,.string p3] 48):=⟨_,rfl⟩
       obtain⟨Kb,hKb⟩:∃K,K=wr.heap.size:=⟨_,rfl⟩
       have HKD:Hid (Blk W2 Kb 48 [.string nm,.bool tt,.int .i64 tm,.int .i64 td,.slice ha hn hcc,.bool ch,.bool s1,.string s2,.string s3,.bool p1,.string p2,.string p3]):=by show Blk _ _ _ _;rw[hW2,hKb];exact Blk.new wr _ _
       have HBa:Below wr.heap.size wr W2:=by rw[hW2];exact (Below.refl _ _).alloc (Nat.le_refl _) _
       have HW2:=Lib.hid (hws.out.grow HBa);have HBF2:Hid (BF b W W2):=hbf.out.trans (BF.of_below HBa);have HNE:Hid (Kb≠b):=by have:=hws.out.lt;show Kb≠b;omega
       have HTT:=Lib.hid (fun W' (hb:Below W2.heap.size W2 W')=>HTY.out W' (HLK.out _ _ (HW2.out.grow hb)));have HSS:Hid (∀W',BF b W2 W'→BF b W2 W'∧W'.cell? ⟨Kb,0,none⟩=some (.string nm)∧W'.cell? ⟨Kb,1,none⟩=some (.bool tt)∧W'.cell? ⟨Kb,2,none⟩=some (.int .i64 tm)∧W'.cell? ⟨Kb,3,none⟩=some (.int .i64 td)):=fun W' hb=>⟨hb,(hb.blk HKD.out (by decide) HNE.out).cells 0,(hb.blk HKD.out (by decide) HNE.out).cells 1,(hb.blk HKD.out (by decide) HNE.out).cells 2,(hb.blk HKD.out (by decide) HNE.out).cells 3⟩
       unfold Ty.v at HTT;simp only at HTT;generalize tyText ⟨tt,tm,td⟩=tx at*;generalize textR ⟨s1,s2,s3⟩=tr1 at*;generalize textR ⟨p1,p2,p3⟩=tr2 at*;generalize bodyT bo=bt at*;clear HTY HBa hws hbf
       go_upto_region 20 with fail
       simp only[←hW2,←hKb]
       clear hW2 hKb c0 c1 c2 c3 c4 c5 c6 c7 c8 c9 c10 c11;refine wp_region_noPanic ?_;refine wp_region_held_drew (S:=(fun w'=>BF b W2 w'∧w'.cell? ⟨Kb,0,none⟩=some (.string nm)∧w'.cell? ⟨Kb,1,none⟩=some (.bool tt)∧w'.cell? ⟨Kb,2,none⟩=some (.int .i64 tm)∧w'.cell? ⟨Kb,3,none⟩=some (.int .i64 td))) (by kernel_rfl) (HSS.out _ (BF.of_below (drewN_below W2.heap.size W2 1))) (fun hHeld=>?_);refine tkY 0 ?_ rfl ?_ ?_;rotate_left
       ·intro w hSw;(try dsimp only at hSw);go_simp
        all_goals with_reducible rfl
       try simp only[Act.put,tk1,tk2,tk3,tk4,tk5,tk6]
       refine tkY 1 ?_ rfl ?_ ?_;rotate_left
       ·intro w hSw;(try dsimp only at hSw);go_simp
        all_goals with_reducible rfl
       try simp only[Act.put,tk1,tk2,tk3,tk4,tk5,tk6]
       refine tkY 2 ?_ rfl ?_ ?_;rotate_left
       ·intro w hSw;(try dsimp only at hSw);go_simp
        all_goals with_reducible rfl
       try simp only[Act.put,tk1,tk2,tk3,tk4,tk5,tk6]
       refine tkY 3 ?_ rfl ?_ ?_;rotate_left
       ·intro w hSw;(try dsimp only at hSw);go_simp
        all_goals with_reducible rfl
       try simp only[Act.put,tk1,tk2,tk3,tk4,tk5,tk6]
       refine tkY 4 ?_ rfl ?_ ?_;rotate_left
       ·intro w hSw;(try dsimp only at hSw);go_simp
        all_goals with_reducible rfl
       try simp only[Act.put,tk1,tk2,tk3,tk4,tk5,tk6]
       refine wpAnyH_ready (rs:=[5]) (by kernel_rfl) (by simp) ?_;refine AllReadyH.cons rfl (fun K hK=>?_) AllReadyH.nil;go_simp;refine (HTT.out _ (drewN_below W2.heap.size W2 1)).mono ?_;rintro e w10 ⟨rfl,hb10⟩;have HB10:=Lib.hid (bstep (drewN_below W2.heap.size W2 1) hb10);go_wp2_with fail;refine hK.out _ _ ?_ (fun hHeld=>?_)
       ·exact HSS.out _ (BF.of_below HB10.out)
       clear hK K
       try simp only[Act.put,tk1,tk2,tk3,tk4,tk5,tk6]
       refine wpAnyH_ready (rs:=[6]) (by kernel_rfl) (by simp) ?_;refine AllReadyH.cons rfl (fun K hK=>?_) AllReadyH.nil;go_simp
       skip
       go_wp2_with fail;refine hK.out _ _ ?_ (fun hHeld=>?_)
       ·exact HSS.out _ (BF.of_below (HB10.out.alloc HB10.out.size _))
       clear hK K
       try simp only[Act.put,tk1,tk2,tk3,tk4,tk5,tk6]
       refine wpAnyH_ready (rs:=[7]) (by kernel_rfl) (by simp) ?_;refine AllReadyH.cons rfl (fun K hK=>?_) AllReadyH.nil;go_simp;have HB11:Below W2.heap.size W2 (w10.alloc (.cells (strs [sPrv,nm,sSp,tx]).toArray 9)):=HB10.out.alloc HB10.out.size _;refine ((HW2.out.grow HB11).words [sPrv,nm,sSp,tx] w10.heap.size 4 (Blk.new w10 _ _) (by have h1:=HW2.out.lt;have h2:=HB10.out.size;omega) rfl (by omega) (by simp) HLN1.out).mono ?_;rintro e w11 ⟨rfl,hx,hf11⟩;have HX:=Lib.hid hx;have HF:Hid (BF b W2 w11):=(BF.of_below HB11).trans hf11;clear hx hf11 HB11;go_wp2_with fail;refine hK.out _ _ ?_ (fun hHeld=>?_)
       ·exact HSS.out _ HF.out
       clear hK K
       try simp only[Act.put,tk1,tk2,tk3,tk4,tk5,tk6]
       refine wpAnyH_done (by kernel_rfl) ?_ _;refine NoPanic.normal ?_;rw[←HT1.out] at HX;have HKD1:Hid (Blk w11 Kb 48 [.string nm,.bool tt,.int .i64 tm,.int .i64 td,.slice ha hn hcc,.bool ch,.bool s1,.string s2,.string s3,.bool p1,.string p2,.string p3]):=HF.out.blk HKD.out (by decide) HNE.out;have HBW:Hid (BF b W w11):=HBF2.out.trans HF.out;clear HSS HTT HLN1 HF HBF2 HW2 HKD HT1;have hkc:=HKD1.out.cells
       go_upto_if 89 with fail
       go_cut [] from 90 to 92 (fun wc=>Hid (WS B b w0 wc t2)∧Hid (BF b w11 wc))
       case first=>
        cases ch
        ·have HE:=HV2.out.2 rfl;go_wp2
         go_meet
         case rel=>exact⟨by show WS _ _ _ _ _;rw[HE];exact HX.out,BF.refl _ _⟩
        ·have HE:Hid (t2=t1++bytesL [sChg]):=HV2.out.1 rfl;have HLL:Hid (t1.length+(bytesL [sChg]).length≤100000000000000):=by have h1:=congrArg List.length HE.out;have h2:=HL3.out;have h3:=HLN4.out;rw[List.length_append] at h1;show _≤_;omega
         have HBQ:Hid (Below w11.heap.size w11 (w11.alloc (.cells (strs [sChg]).toArray 9))):=(Below.refl _ _).alloc (Nat.le_refl _) _;go_wp2_with fail;refine ((HX.out.grow HBQ.out).words [sChg] w11.heap.size 1 (Blk.new w11 _ _) HX.out.lt rfl (by omega) (by simp) HLL.out).mono ?_;rintro e w12 ⟨rfl,hx,hf⟩;have HXn:=Lib.hid hx;have HFn:Hid (BF b w11 w12):=(BF.of_below HBQ.out).trans hf;clear hx hf HBQ;go_wp2
         go_meet
         case rel=>exact⟨by show WS _ _ _ _ _;rw[HE.out];exact HXn.out,HFn⟩
       case rest=>
        obtain⟨hws,hbf⟩:=hcut;clear HX HV2 hkc;have hkc:=(hbf.out.blk HKD1.out (by decide) HNE.out).cells;go_wp2_with fail;refine (HPL.out _).mono ?_;rintro e W2 ⟨rfl,hb10⟩;have HW2:=Lib.hid (hws.out.grow hb10);have HKD2:Hid (Blk W2 Kb 48 [.string nm,.bool tt,.int .i64 tm,.int .i64 td,.slice ha hn hcc,.bool ch,.bool s1,.string s2,.string s3,.bool p1,.string p2,.string p3]):=(BF.of_below hb10).blk (hbf.out.blk HKD1.out (by decide) HNE.out) (by decide) HNE.out;have HBV:Hid (BF b W W2):=HBW.out.trans (hbf.out.trans (BF.of_below hb10));have HTR1:=Lib.hid (fun W' (hb:Below W2.heap.size W2 W')=>HR1.out W' (HLK.out _ _ (HW2.out.grow hb)).e.base);have HTR2:=Lib.hid (fun W' (hb:Below W2.heap.size W2 W')=>HR2.out W' (HLK.out _ _ (HW2.out.grow hb)).e.base);have HSS:Hid (∀W',BF b W2 W'→BF b W2 W'∧W'.cell? ⟨Kb,6,none⟩=some (.bool s1)∧W'.cell? ⟨Kb,7,none⟩=some (.string s2)∧W'.cell? ⟨Kb,8,none⟩=some (.string s3)∧W'.cell? ⟨Kb,9,none⟩=some (.bool p1)∧W'.cell? ⟨Kb,10,none⟩=some (.string p2)∧W'.cell? ⟨Kb,11,none⟩=some (.string p3)):=fun W' hb=>⟨hb,(hb.blk HKD2.out (by decide) HNE.out).cells 6,(hb.blk HKD2.out (by decide) HNE.out).cells 7,(hb.blk HKD2.out (by decide) HNE.out).cells 8,(hb.blk HKD2.out (by decide) HNE.out).cells 9,(hb.blk HKD2.out (by decide) HNE.out).cells 10,(hb.blk HKD2.out (by decide) HNE.out).cells 11⟩
        unfold Ra.v at HTR1 HTR2;simp only at HTR1 HTR2;clear hb10 hws hbf HPL HR1 HR2 HBW HKD1 hkc HL2
        go_upto_if 95 with fail
        go_cut [] from 96 to 104 (fun wc=>Hid (WS B b w0 wc t3)∧Hid (BF b W2 wc))
        case first=>
         cases pl
         ·have HE:Hid (t3=t2++bytesL [sStp,tr1,sCap,tr2]):=HV3.out.1 rfl;have HLN3:Hid (t2.length+(bytesL [sStp,tr1,sCap,tr2]).length≤100000000000000):=by have h1:=congrArg List.length HE.out;have h3:=HLN4.out;rw[List.length_append] at h1;show _≤_;omega
          go_upto_region 24 with fail
          refine wp_region_noPanic ?_;refine wp_region_held_drew (S:=(fun w'=>BF b W2 w'∧w'.cell? ⟨Kb,6,none⟩=some (.bool s1)∧w'.cell? ⟨Kb,7,none⟩=some (.string s2)∧w'.cell? ⟨Kb,8,none⟩=some (.string s3)∧w'.cell? ⟨Kb,9,none⟩=some (.bool p1)∧w'.cell? ⟨Kb,10,none⟩=some (.string p2)∧w'.cell? ⟨Kb,11,none⟩=some (.string p3))) (by kernel_rfl) (HSS.out _ (BF.of_below (drewN_below W2.heap.size W2 1))) (fun hHeld=>?_);refine tkY 0 ?_ rfl ?_ ?_;rotate_left
          ·intro w hSw;(try dsimp only at hSw);go_simp
           all_goals with_reducible rfl
          try simp only[Act.put,tk1,tk2,tk3,tk4,tk5,tk6]
          refine tkY 1 ?_ rfl ?_ ?_;rotate_left
          ·intro w hSw;(try dsimp only at hSw);go_simp
           all_goals with_reducible rfl
          try simp only[Act.put,tk1,tk2,tk3,tk4,tk5,tk6]
          refine tkY 2 ?_ rfl ?_ ?_;rotate_left
          ·intro w hSw;(try dsimp only at hSw);go_simp
           all_goals with_reducible rfl
          try simp only[Act.put,tk1,tk2,tk3,tk4,tk5,tk6]
          refine tkY 4 ?_ rfl ?_ ?_;rotate_left
          ·intro w hSw;(try dsimp only at hSw);go_simp
           all_goals with_reducible rfl
          try simp only[Act.put,tk1,tk2,tk3,tk4,tk5,tk6]
          refine tkY 5 ?_ rfl ?_ ?_;rotate_left
          ·intro w hSw;(try dsimp only at hSw);go_simp
           all_goals with_reducible rfl
          try simp only[Act.put,tk1,tk2,tk3,tk4,tk5,tk6]
          refine wpAnyH_ready (rs:=[3]) (by kernel_rfl) (by simp) ?_;refine AllReadyH.cons rfl (fun K hK=>?_) AllReadyH.nil;go_simp;refine (HTR1.out _ (drewN_below W2.heap.size W2 1)).mono ?_;rintro e w9 ⟨rfl,hb10⟩;have HBw9:=Lib.hid (bstep (drewN_below W2.heap.size W2 1) hb10);go_wp2_with fail;refine hK.out _ _ ?_ (fun hHeld=>?_)
          ·exact HSS.out _ (BF.of_below HBw9.out)
          clear hK K
          try simp only[Act.put,tk1,tk2,tk3,tk4,tk5,tk6]
          refine wpAnyH_ready (rs:=[6]) (by kernel_rfl) (by simp) ?_;refine AllReadyH.cons rfl (fun K hK=>?_) AllReadyH.nil;go_simp;refine (HTR2.out _ HBw9.out).mono ?_;rintro e w10 ⟨rfl,hb10⟩;have HB10:=Lib.hid (bstep HBw9.out hb10);go_wp2_with fail;refine hK.out _ _ ?_ (fun hHeld=>?_)
          ·exact HSS.out _ (BF.of_below HB10.out)
          clear hK K
          try simp only[Act.put,tk1,tk2,tk3,tk4,tk5,tk6]
          refine wpAnyH_ready (rs:=[7]) (by kernel_rfl) (by simp) ?_;refine AllReadyH.cons rfl (fun K hK=>?_) AllReadyH.nil;go_simp
          skip
          go_wp2_with fail;refine hK.out _ _ ?_ (fun hHeld=>?_)
          ·exact HSS.out _ (BF.of_below (HB10.out.alloc HB10.out.size _))
          clear hK K
          try simp only[Act.put,tk1,tk2,tk3,tk4,tk5,tk6]
          refine wpAnyH_ready (rs:=[8]) (by kernel_rfl) (by simp) ?_;refine AllReadyH.cons rfl (fun K hK=>?_) AllReadyH.nil;go_simp;have HB11:Below W2.heap.size W2 (w10.alloc (.cells (strs [sStp,tr1,sCap,tr2]).toArray 9)):=HB10.out.alloc HB10.out.size _;refine ((HW2.out.grow HB11).words [sStp,tr1,sCap,tr2] w10.heap.size 4 (Blk.new w10 _ _) (by have h1:=HW2.out.lt;have h2:=HB10.out.size;omega) rfl (by omega) (by simp) HLN3.out).mono ?_;rintro e w11 ⟨rfl,hx,hf11⟩;have HX:=Lib.hid hx;have HF:Hid (BF b W2 w11):=(BF.of_below HB11).trans hf11;clear hx hf11 HB11;go_wp2_with fail;refine hK.out _ _ ?_ (fun hHeld=>?_)
          ·exact HSS.out _ HF.out
          clear hK K
          try simp only[Act.put,tk1,tk2,tk3,tk4,tk5,tk6]
          refine wpAnyH_done (by kernel_rfl) ?_ _;refine NoPanic.normal ?_;go_wp2
          go_meet
          case rel=>exact⟨by show WS _ _ _ _ _;rw[HE.out];exact HX.out,HF⟩
         ·have HE:Hid (t3=t2):=HV3.out.2 rfl;go_wp2
          go_meet
          case rel=>exact⟨by show WS _ _ _ _ _;rw[HE.out];exact HW2.out,BF.refl _ _⟩
        case rest=>
         obtain⟨hws,hbf⟩:=hcut;have hkc:=(hbf.out.blk HKD2.out (by decide) HNE.out).cells;clear HV3 HW2 HSS HTR1 HTR2;go_wp2_with fail;refine (HBT.out _ _ hws.out).mono ?_;rintro e w14 ⟨⟨z,rfl⟩,hb10⟩;have HW3:=Lib.hid (hws.out.grow hb10);have HBX:Hid (BF b W w14):=HBV.out.trans (hbf.out.trans (BF.of_below hb10));clear hb10 hws hbf hkc HKD2 HBV HBT;have HBQ:Hid (Below w14.heap.size w14 (w14.alloc (.cells (strs [sCs,bt,sNl]).toArray 9))):=(Below.refl _ _).alloc (Nat.le_refl _) _;go_wp2_with fail;refine ((HW3.out.grow HBQ.out).words [sCs,bt,sNl] w14.heap.size 3 (Blk.new w14 _ _) HW3.out.lt rfl (by omega) (by simp) HLN4.out).mono ?_;rintro e w15 ⟨rfl,hx,hf⟩;have HXn:=Lib.hid hx;have HFn:Hid (BF b w14 w15):=(BF.of_below HBQ.out).trans hf;clear hx hf HBQ;go_wp2
         go_roundg (pn-(j+1))
         case measure=>omega
         case rel=>exact⟨j+1,by omega,by go_num,(by show WS _ _ _ _ _;rw[HT0.out];exact HXn.out),HBX.out.trans HFn.out⟩
      ·have hjn:j=pn:=by omega
       have HX:=hws.out;rw[hjn,List.take_of_length_le (Nat.le_of_eq HPN.out.symm),←HFIN.out] at HX;have HXX:=Lib.hid HX;clear HX hws hbf hjn;go_wp2;go_end0;exact⟨rfl,HXX.out⟩
end Go.Proofs.YtfajelpcfnfjkaaGreatDoor
