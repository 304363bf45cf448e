/- A part of the proof: Uo Uf Uy. -/
import Derived.Deep.RegionHeld3
import Derived.Test.YtfajelpcfnfjkaaGreatDoorA00
import Derived.Test.YtfajelpcfnfjkaaGreatDoorA03
import Derived.Test.YtfajelpcfnfjkaaGreatDoorA06
import Derived.Test.YtfajelpcfnfjkaaGreatDoorA28
import Derived.Test.YtfajelpcfnfjkaaGreatDoorA29
import Derived.Test.YtfajelpcfnfjkaaGreatDoorA33
import Derived.Test.YtfajelpcfnfjkaaGreatDoorA35
import Derived.Test.YtfajelpcfnfjkaaGreatDoorA38
import Derived.Test.YtfajelpcfnfjkaaGreatDoorA39
set_option linter.unusedVariables false
set_option linter.unusedSimpArgs false
namespace Go.Proofs.YtfajelpcfnfjkaaGreatDoor
open Go.RowKit
theorem info_brk:(Tryz.prog.info? 108).map (fun i=>(i.zero,i.size,i.bytes))=some (some (.agg #[.bool false,.string ⟨#[]⟩,.string ⟨#[]⟩,.bool false,.string ⟨#[]⟩,.string ⟨#[]⟩]),6,80):=by kernel_rfl
theorem info_sch:(Tryz.prog.info? 76).map (fun i=>(i.zero,i.size,i.bytes))=some (some (.agg #[.string ⟨#[]⟩,.int .i64 0,.int .i64 0,.slice none 0 0]),4,56):=by kernel_rfl
def PieceB (p:ByteArray) (b:Bk):Prop:=p.size≤1000000∧∃x y:List UInt8,Lib.cut p.data.toList [32]=(x,y,true)∧x.length≤1000000∧y.length≤1000000∧ratParse ⟨x.toArray⟩=(b.fr,true)∧ratParse ⟨y.toArray⟩=(b.rt,true)
def piecesB (rest:ByteArray):List ByteArray:=Lib.splitB ⟨#[44,32]⟩ 0 (Lib.countB rest ⟨#[44,32]⟩) rest
structure RestB (rest:ByteArray) (brs:List Bk):Prop where
 size:rest.size≤1000000
 n:Lib.countB rest ⟨#[44,32]⟩+1=brs.length
 len:(piecesB rest).length=brs.length
 max:brs.length≤1000
 ok:∀i (h:i<brs.length) (h':i<(piecesB rest).length),PieceB (piecesB rest)[i] brs[i]
set_option maxRecDepth 100000 in
set_option maxHeartbeats 3200000 in
theorem uSched_any (w0 w:World) (R g c:Nat) (l:Lw) (ss:List (Sc × Hd)) (ps:List (Pv × Hd)) (fv sv pv:Value) (nm s rest:ByteArray) (tm td:Int) (brs:List Bk) (h:PT w0 w R l ss ps fv sv pv) (hL:LaidK w) (ht:tyIn ⟨false,tm,td⟩=true) (hs:s=tyText ⟨false,tm,td⟩) (hn:ss.length≤1000) (hr:RestB rest brs) (hg:∃cs,Blk w g 9 cs∧cs[1]?=some (.string nm)∧cs[2]?=some (.string s)):
  Calls Tryz.prog 74 #[.pointer (some ⟨R,0,none⟩),.slice (some ⟨g,1,none⟩) 2 c,.string rest] w fun e w'=>e=.returned (.tuple #[])∧(∃v' hd,PT w0 w' R ⟨l.facts,l.schs++[⟨nm,tm,td,brs⟩],l.provs⟩ (ss++[(⟨nm,tm,td,brs⟩,hd)]) ps fv v' pv)∧FR R w w':=by
 obtain⟨cs,hg0,hg1,hg2⟩:=hg;have HT:=Lib.hid (fun W (hb:Below w.heap.size w W)=>hs ▸ uTypeOf_any ⟨false,tm,td⟩ W (hL.below hb) ht);have HPT:=Lib.hid h;have HLK:Hid (∀W,Below w.heap.size w W→LaidK W):=fun W hb=>hL.below hb
 have HRB:=Lib.hid hr;have HSS:Hid (∀W,Below w.heap.size w W→W.cell? ⟨g,1,none⟩=some (.string nm)∧W.cell? ⟨g,2,none⟩=some (.string s)):=fun W hb=>⟨((hg0.below hb hg0.lt).cells 1).trans hg1,((hg0.below hb hg0.lt).cells 2).trans hg2⟩
 have HM:=Lib.hid (must_yes w);have hc2:=(HSS.out w (Below.refl _ _)).2;unfold Ty.v at HT;simp only at HT;clear h hL ht hs hg0 hg1 hg2 hr;go_enter Tryz.func74,Tryz.ntmps74;go_wp2_with fail;refine HM.out.mono ?_;rintro e w1 ⟨rfl,hw1⟩;have hw2:=hw1.symm;clear hw1;subst hw2;go_wp2_with fail;refine (HT.out w (Below.refl _ _)).mono ?_;rintro e w1 ⟨rfl,hb1⟩;obtain⟨W1,hW1⟩:∃W1,W1=w1.alloc (.cells #[.bool false,.int .i64 tm,.int .i64 td] 40):=⟨_,rfl⟩
 obtain⟨T,hT⟩:∃T,T=w1.heap.size:=⟨_,rfl⟩
 have HK:Hid (Blk W1 T 40 [.bool false,.int .i64 tm,.int .i64 td]):=by show Blk _ _ _ _;rw[hW1,hT];exact Blk.new w1 _ _
 have HB1:Hid (Below w.heap.size w W1):=by show Below _ _ _;rw[hW1];exact hb1.alloc hb1.size _
 have hkc:=HK.out.cells;have HM1:=Lib.hid (must_yes W1);clear hb1 hc2
 go_upto_region 2 with fail
 simp only[←hW1,←hT]
 clear hW1 hT;go_wp2_with fail;refine HM1.out.mono ?_;rintro e w2 ⟨rfl,hw2⟩;have hw3:=hw2.symm;clear hw2;subst hw3;have hgc:=(HSS.out _ HB1.out).1;have hga:∀o,(W1.alloc o).cell? ⟨g,1,none⟩=some (.string nm):=fun o=>(HSS.out _ (HB1.out.alloc HB1.out.size o)).1
 have hka1:∀o,(W1.alloc o).cell? ⟨T,1,none⟩=some (.int .i64 tm):=fun o=>(HK.out.alloc o).cells 1
 have hka2:∀o,(W1.alloc o).cell? ⟨T,2,none⟩=some (.int .i64 td):=fun o=>(HK.out.alloc o).cells 2
 go_upto_region 3 with fail
 go_region;obtain⟨W3,hW3⟩:∃W3,W3=(W1.alloc (.cells #[.string nm,.int .i64 tm,.int .i64 td,.slice none 0 0] 76)).drew:=⟨_,rfl⟩
 obtain⟨C,hC⟩:∃C,C=W1.heap.size:=⟨_,rfl⟩
 have HKC:Hid (Blk W3 C 76 [.string nm,.int .i64 tm,.int .i64 td,.slice none 0 0]):=by show Blk _ _ _ _;rw[hW3,hC];exact (Blk.new W1 _ _).drew
 have HB3:Hid (Below w.heap.size w W3):=by show Below _ _ _;rw[hW3];exact (HB1.out.alloc HB1.out.size _).drew
 have HCW:Hid (w.heap.size≤C):=by show _≤C;rw[hC];exact HB1.out.size
 have HOW:Hid (W3.ownsRow (C+1) 108 6 (.slice none 0 0) 0 (([]:List Bk).flatMap Bk.cells)):=World.ownsRow_nil _ _ _ _;obtain⟨m,hm⟩:=(HLK.out _ HB3.out).e.base.cut.2;have HSP:=Lib.hid (Tryz.strings_Split rest ⟨#[44,32]⟩ m W3 (by have:=HRB.out.size;omega) hm (by decide));have HPB:Hid (Lib.splitB ⟨#[44,32]⟩ 0 (Lib.countB rest ⟨#[44,32]⟩) rest=piecesB rest):=rfl;have HNB:Hid (Lib.countB rest ⟨#[44,32]⟩+1=brs.length):=HRB.out.n;rw[HPB.out] at HSP;have hn1:brs.length≤1000:=HRB.out.max;generalize hcb:Lib.countB rest ⟨#[44,32]⟩=cb at*;clear hcb hm hkc hgc hga hka1 hka2 HM HM1 HK HPB;go_wp2_with fail;simp only[←hW3,←hC]
 clear hW3 hC;refine HSP.out.mono ?_;rintro e w4 ⟨rfl,hw4⟩;obtain⟨G,hG⟩:∃G,G=W3.heap.size:=⟨_,rfl⟩
 have HG:Hid (Blk w4 G 9 (strs (piecesB rest))):=by
  show Blk _ _ _ _;rw[hw4,hG,strs_map];exact Blk.new W3 _ _
 have HA4:Below W3.heap.size W3 w4:=by rw[hw4];exact (Below.refl _ _).alloc (Nat.le_refl _) _
 have HB4:=Lib.hid (bstep HB3.out HA4);have HKC4:Hid (Blk w4 C 76 [.string nm,.int .i64 tm,.int .i64 td,.slice none 0 0]):=HKC.out.below HA4 HKC.out.lt;have HOW4:=Lib.hid (own_below HOW.out HA4);have HGC:Hid (G≠C):=by have h1:=HKC.out.lt;show G≠C;omega
 rw[HNB.out];simp only[←hG]
 clear hG hw4 HA4 HKC HOW HB3 HSP;have hcap:=hn1;go_wp2_with fail
 go_loopg [34] brs.length (fun q iv wr=>∃(i:Nat) (Av0:Option Addr) (cv0:Nat),i+q=brs.length∧iv=.int .i64 i∧Hid (Below w.heap.size w wr)∧Hid (Blk wr C 76 [.string nm,.int .i64 tm,.int .i64 td,.slice Av0 i cv0])∧Hid (wr.ownsRow (C+1) 108 6 (.slice Av0 i cv0) i ((brs.take i).flatMap Bk.cells))∧Hid (Blk wr G 9 (strs (piecesB rest))))
 case atStart=>exact⟨0,none,0,by omega,rfl,HB4,HKC4,HOW4,HG⟩
 case round=>
  obtain⟨i,Av0,cv0,hi,rfl,hbr,hkC,hoW,hkG⟩:=hrel;clear HB4 HKC4 HOW4 HG;by_cases hlt:i<brs.length
  ·have hlp:i<(piecesB rest).length:=by rw[HRB.out.len];exact hlt
   have hc:=strs_get hkG.out hlp;have hTK:(brs.take (i+1)).flatMap Bk.cells=(brs.take i).flatMap Bk.cells++brs[i].cells:=by rw[List.take_succ_eq_append_getElem hlt,List.flatMap_append];simp
   obtain⟨hps,x,y,hcut,hx1,hy1,hrx,hry⟩:=HRB.out.ok i hlt hlp;generalize (piecesB rest)[i]=p at*;generalize brs[i]=bk at*;obtain⟨⟨f1,f2,f3⟩,⟨r1,r2,r3⟩⟩:=bk;have HTK:=Lib.hid hTK;obtain⟨m,hm⟩:=(HLK.out _ hbr.out).e.base.cut.2;have HCT:=Lib.hid (Tryz.strings_Cut p ⟨#[32]⟩ m wr (by omega) hm);rw[show (⟨#[32]⟩:ByteArray).data.toList=[32] from rfl,hcut] at HCT;simp only at HCT hrx hry
   have HNX:Hid (∀W,Laid W→Calls Tryz.prog 75 #[.string ⟨x.toArray⟩] W fun e w'=>e=.returned (.agg #[.bool f1,.string f2,.string f3])∧Below W.heap.size W w'):=fun W hL=>by
    have k:=uNumber_any ⟨x.toArray⟩ W hL (by show x.toArray.size≤_;simp;omega) (by rw[hrx]);rw[hrx] at k;exact k
   have HNY:Hid (∀W,Laid W→Calls Tryz.prog 75 #[.string ⟨y.toArray⟩] W fun e w'=>e=.returned (.agg #[.bool r1,.string r2,.string r3])∧Below W.heap.size W w'):=fun W hL=>by
    have k:=uNumber_any ⟨y.toArray⟩ W hL (by show y.toArray.size≤_;simp;omega) (by rw[hry]);rw[hry] at k;exact k
   clear hTK hps hcut hm hx1 hy1 hrx hry;generalize (⟨x.toArray⟩:ByteArray)=xb at*;generalize (⟨y.toArray⟩:ByteArray)=yb at*;go_wp2_with fail;refine HCT.out.mono ?_;rintro e w5 ⟨rfl,nd,hw5⟩;obtain⟨W2,hW2⟩:∃W2,W2=wr.drewN nd:=⟨_,rfl⟩
   rw[←hW2] at hw5;have hw6:=hw5.symm;clear hw5;subst hw6;have HA2:Below wr.heap.size wr W2:=by rw[hW2];exact drewN_below _ _ _
   have HBW2:=Lib.hid (bstep hbr.out HA2);have HKC2:Hid (Blk W2 C 76 [.string nm,.int .i64 tm,.int .i64 td,.slice Av0 i cv0]):=hkC.out.below HA2 hkC.out.lt;have HOW2:=Lib.hid (own_below hoW.out HA2);have HG2:Hid (Blk W2 G 9 (strs (piecesB rest))):=hkG.out.below HA2 hkG.out.lt;have HN1:=Lib.hid (fun W' (hb:Below W2.heap.size W2 W')=>HNX.out W' (HLK.out _ (bstep HBW2.out hb)).e.base);have HN2:=Lib.hid (fun W' (hb:Below W2.heap.size W2 W')=>HNY.out W' (HLK.out _ (bstep HBW2.out hb)).e.base);have HM2:=Lib.hid (must_yes W2);clear hW2 HA2 hbr hkC hoW hkG HNX HNY HCT hc;go_wp2_with fail;refine HM2.out.mono ?_;rintro e w5 ⟨rfl,hw5⟩;have hw6:=hw5.symm;clear hw5;subst hw6
   go_upto_region 9 with fail
   refine wp_region_noPanic ?_;refine wp_region_held_drew (S:=(fun w'=>Below w.heap.size w w')) (by kernel_rfl) (bstep HBW2.out (drewN_below W2.heap.size W2 1)) (fun hHeld=>?_);refine tkY 0 ?_ rfl ?_ ?_;rotate_left
   ·intro w hSw;(try dsimp only at hSw);go_simp
    all_goals with_reducible rfl
   try simp only[Act.put,tk1,tk2,tk3,tk4,tk5,tk6]
   refine tkY 2 ?_ rfl ?_ ?_;rotate_left
   ·intro w hSw;(try dsimp only at hSw);go_simp
    all_goals with_reducible rfl
   try simp only[Act.put,tk1,tk2,tk3,tk4,tk5,tk6]
   refine tkY 4 ?_ rfl ?_ ?_;rotate_left
   ·intro w hSw;(try dsimp only at hSw);go_simp
    all_goals with_reducible rfl
   try simp only[Act.put,tk1,tk2,tk3,tk4,tk5,tk6]
   refine wpAnyH_ready (rs:=[1,3]) (by kernel_rfl) (by simp) ?_;refine AllReadyH.cons rfl (fun K hK=>?_) (AllReadyH.cons rfl (fun K hK=>?_) AllReadyH.nil)
   ·have hc4:(W2).cell? ⟨C,3,none⟩=some (.slice Av0 i cv0):=(HKC2.out.below (drewN_below W2.heap.size W2 1) HKC2.out.lt).cells 3;go_simp
    skip
    go_wp2_with fail;refine hK.out _ _ ?_ (fun hHeld=>?_)
    ·exact bstep HBW2.out (drewN_below W2.heap.size W2 1)
    clear hK K
    try simp only[Act.put,tk1,tk2,tk3,tk4,tk5,tk6]
    refine wpAnyH_ready (rs:=[3]) (by kernel_rfl) (by simp) ?_;refine AllReadyH.cons rfl (fun K hK=>?_) AllReadyH.nil;go_simp;refine (HN1.out _ (drewN_below W2.heap.size W2 1)).mono ?_;rintro e w9 ⟨rfl,hb10⟩;have HB9:=Lib.hid (bstep (drewN_below W2.heap.size W2 1) hb10);go_wp2_with fail;refine hK.out _ _ ?_ (fun hHeld=>?_)
    ·exact bstep HBW2.out HB9.out
    clear hK K
    try simp only[Act.put,tk1,tk2,tk3,tk4,tk5,tk6]
    refine wpAnyH_ready (rs:=[5]) (by kernel_rfl) (by simp) ?_;refine AllReadyH.cons rfl (fun K hK=>?_) AllReadyH.nil;go_simp;refine (HN2.out _ HB9.out).mono ?_;rintro e w10 ⟨rfl,hb10⟩;have HB10:=Lib.hid (bstep HB9.out hb10);go_wp2_with fail;refine hK.out _ _ ?_ (fun hHeld=>?_)
    ·exact bstep HBW2.out HB10.out
    clear hK K
    try simp only[Act.put,tk1,tk2,tk3,tk4,tk5,tk6]
    refine tkY 6 ?_ rfl ?_ ?_;rotate_left
    ·intro w hSw;(try dsimp only at hSw);go_simp
     all_goals with_reducible rfl
    try simp only[Act.put,tk1,tk2,tk3,tk4,tk5,tk6]
    refine wpAnyH_ready (rs:=[7]) (by kernel_rfl) (by simp) ?_;refine AllReadyH.cons rfl (fun K hK=>?_) AllReadyH.nil;go_simp
    skip
    go_wp2_with fail;refine hK.out _ _ ?_ (fun hHeld=>?_)
    ·exact bstep HBW2.out (HB10.out.alloc HB10.out.size _)
    clear hK K
    try simp only[Act.put,tk1,tk2,tk3,tk4,tk5,tk6]
    refine wpAnyH_ready (rs:=[8]) (by kernel_rfl) (by simp) ?_;refine AllReadyH.cons rfl (fun K hK=>?_) AllReadyH.nil;refine step_push_at w10 #[.bool f1,.string f2,.string f3,.bool r1,.string r2,.string r3] (by rfl) _ _ 74 (by rfl) (C+1) 108 (.agg #[.bool false,.string ⟨#[]⟩,.string ⟨#[]⟩,.bool false,.string ⟨#[]⟩,.string ⟨#[]⟩]) 6 80 1 Tryz.underlying74 info_brk rfl (by decide) (.slice Av0 i cv0) i ((brs.take i).flatMap Bk.cells) (by rfl) (own_below HOW2.out HB10.out) (by rfl) rfl ?_ ?_ ?_ ?_ ?_
    any_goals first|(unfold maxLen;omega)|omega
    ·intro u hu;simp only[List.mem_cons,List.not_mem_nil,or_false] at hu;rcases hu with rfl|rfl|rfl|rfl|rfl|rfl<;>rfl
    ·have h1:=HKC2.out.lt;have h2:=HB10.out.size;omega
    intro v' w11 hown hgr _;obtain⟨Av,cv,rfl,_⟩:=own_rd hown;have hkc:=(HKC2.out.below HB10.out HKC2.out.lt)
    have HTF:=Lib.hid (TF.grown (own_below HOW2.out HB10.out) hgr);have HK11:=Lib.hid (HTF.out.blk hkc (by decide));have HB11:Hid (Below w.heap.size w w11):=(bstep HBW2.out HB10.out).grown hgr (by have h1:=HBW2.out.size;have h2:=HB10.out.size;omega) (fun k hk=>by have h1:=((own_below HOW2.out HB10.out).lt k hk).1;have h2:=HCW.out;omega);have HG11:=Lib.hid (HTF.out.blk (HG2.out.below HB10.out HG2.out.lt) (by decide));have HO11:=Lib.hid hown;clear hown hgr hkc;refine hK.out _ _ ?_ (fun hHeld=>?_)
    ·exact HB11.out
    clear hK K
    try simp only[Act.put,tk1,tk2,tk3,tk4,tk5,tk6]
    refine tkY 9 ?_ rfl ?_ ?_;rotate_left
    ·intro w hSw;(try dsimp only at hSw);go_simp
     all_goals with_reducible rfl
    try simp only[Act.put,tk1,tk2,tk3,tk4,tk5,tk6]
    refine wpAnyH_ready (rs:=[10]) (by kernel_rfl) (by simp) ?_;refine AllReadyH.cons rfl (fun K hK=>?_) AllReadyH.nil;have hkc:=HK11.out.cells;have hkf:=HK11.out.froz;go_simp
    skip
    go_wp2_with fail;refine hK.out _ _ ?_ (fun hHeld=>?_)
    ·exact HB11.out.setCell (p:=⟨C,3,none⟩) HCW.out _
    clear hK K
    try simp only[Act.put,tk1,tk2,tk3,tk4,tk5,tk6]
    refine wpAnyH_done (by kernel_rfl) ?_ _;refine NoPanic.normal ?_;go_wp2
    go_roundg (brs.length-(i+1))
    case measure=>omega
    case rel=>exact⟨i+1,Av,cv,by omega,by go_num,HB11.out.setCell (p:=⟨C,3,none⟩) HCW.out _,HK11.out.set 3 _,(by show World.ownsRow _ _ _ _ _ _ _;rw[HTK.out];exact own_set HO11.out 3 _),HG11.out.other (p:=⟨C,3,none⟩) HGC.out _⟩
   ·go_simp;refine (HN1.out _ (drewN_below W2.heap.size W2 1)).mono ?_;rintro e w9 ⟨rfl,hb10⟩;have HB9:=Lib.hid (bstep (drewN_below W2.heap.size W2 1) hb10);go_wp2_with fail;refine hK.out _ _ ?_ (fun hHeld=>?_)
    ·exact bstep HBW2.out HB9.out
    clear hK K
    try simp only[Act.put,tk1,tk2,tk3,tk4,tk5,tk6]
    refine wpAnyH_ready (rs:=[1,5]) (by kernel_rfl) (by simp) ?_;refine AllReadyH.cons rfl (fun K hK=>?_) (AllReadyH.cons rfl (fun K hK=>?_) AllReadyH.nil)
    ·have hc4:(w9).cell? ⟨C,3,none⟩=some (.slice Av0 i cv0):=(HKC2.out.below HB9.out HKC2.out.lt).cells 3;go_simp
     skip
     go_wp2_with fail;refine hK.out _ _ ?_ (fun hHeld=>?_)
     ·exact bstep HBW2.out HB9.out
     clear hK K
     try simp only[Act.put,tk1,tk2,tk3,tk4,tk5,tk6]
     refine wpAnyH_ready (rs:=[5]) (by kernel_rfl) (by simp) ?_;refine AllReadyH.cons rfl (fun K hK=>?_) AllReadyH.nil;go_simp;refine (HN2.out _ HB9.out).mono ?_;rintro e w10 ⟨rfl,hb10⟩;have HB10:=Lib.hid (bstep HB9.out hb10);go_wp2_with fail;refine hK.out _ _ ?_ (fun hHeld=>?_)
     ·exact bstep HBW2.out HB10.out
     clear hK K
     try simp only[Act.put,tk1,tk2,tk3,tk4,tk5,tk6]
     refine tkY 6 ?_ rfl ?_ ?_;rotate_left
     ·intro w hSw;(try dsimp only at hSw);go_simp
      all_goals with_reducible rfl
     try simp only[Act.put,tk1,tk2,tk3,tk4,tk5,tk6]
     refine wpAnyH_ready (rs:=[7]) (by kernel_rfl) (by simp) ?_;refine AllReadyH.cons rfl (fun K hK=>?_) AllReadyH.nil;go_simp
     skip
     go_wp2_with fail;refine hK.out _ _ ?_ (fun hHeld=>?_)
     ·exact bstep HBW2.out (HB10.out.alloc HB10.out.size _)
     clear hK K
     try simp only[Act.put,tk1,tk2,tk3,tk4,tk5,tk6]
     refine wpAnyH_ready (rs:=[8]) (by kernel_rfl) (by simp) ?_;refine AllReadyH.cons rfl (fun K hK=>?_) AllReadyH.nil;refine step_push_at w10 #[.bool f1,.string f2,.string f3,.bool r1,.string r2,.string r3] (by rfl) _ _ 74 (by rfl) (C+1) 108 (.agg #[.bool false,.string ⟨#[]⟩,.string ⟨#[]⟩,.bool false,.string ⟨#[]⟩,.string ⟨#[]⟩]) 6 80 1 Tryz.underlying74 info_brk rfl (by decide) (.slice Av0 i cv0) i ((brs.take i).flatMap Bk.cells) (by rfl) (own_below HOW2.out HB10.out) (by rfl) rfl ?_ ?_ ?_ ?_ ?_
     any_goals first|(unfold maxLen;omega)|omega
     ·intro u hu;simp only[List.mem_cons,List.not_mem_nil,or_false] at hu;rcases hu with rfl|rfl|rfl|rfl|rfl|rfl<;>rfl
     ·have h1:=HKC2.out.lt;have h2:=HB10.out.size;omega
     intro v' w11 hown hgr _;obtain⟨Av,cv,rfl,_⟩:=own_rd hown;have hkc:=(HKC2.out.below HB10.out HKC2.out.lt)
     have HTF:=Lib.hid (TF.grown (own_below HOW2.out HB10.out) hgr);have HK11:=Lib.hid (HTF.out.blk hkc (by decide));have HB11:Hid (Below w.heap.size w w11):=(bstep HBW2.out HB10.out).grown hgr (by have h1:=HBW2.out.size;have h2:=HB10.out.size;omega) (fun k hk=>by have h1:=((own_below HOW2.out HB10.out).lt k hk).1;have h2:=HCW.out;omega);have HG11:=Lib.hid (HTF.out.blk (HG2.out.below HB10.out HG2.out.lt) (by decide));have HO11:=Lib.hid hown;clear hown hgr hkc;refine hK.out _ _ ?_ (fun hHeld=>?_)
     ·exact HB11.out
     clear hK K
     try simp only[Act.put,tk1,tk2,tk3,tk4,tk5,tk6]
     refine tkY 9 ?_ rfl ?_ ?_;rotate_left
     ·intro w hSw;(try dsimp only at hSw);go_simp
      all_goals with_reducible rfl
     try simp only[Act.put,tk1,tk2,tk3,tk4,tk5,tk6]
     refine wpAnyH_ready (rs:=[10]) (by kernel_rfl) (by simp) ?_;refine AllReadyH.cons rfl (fun K hK=>?_) AllReadyH.nil;have hkc:=HK11.out.cells;have hkf:=HK11.out.froz;go_simp
     skip
     go_wp2_with fail;refine hK.out _ _ ?_ (fun hHeld=>?_)
     ·exact HB11.out.setCell (p:=⟨C,3,none⟩) HCW.out _
     clear hK K
     try simp only[Act.put,tk1,tk2,tk3,tk4,tk5,tk6]
     refine wpAnyH_done (by kernel_rfl) ?_ _;refine NoPanic.normal ?_;go_wp2
     go_roundg (brs.length-(i+1))
     case measure=>omega
     case rel=>exact⟨i+1,Av,cv,by omega,by go_num,HB11.out.setCell (p:=⟨C,3,none⟩) HCW.out _,HK11.out.set 3 _,(by show World.ownsRow _ _ _ _ _ _ _;rw[HTK.out];exact own_set HO11.out 3 _),HG11.out.other (p:=⟨C,3,none⟩) HGC.out _⟩
    ·go_simp;refine (HN2.out _ HB9.out).mono ?_;rintro e w10 ⟨rfl,hb10⟩;have HB10:=Lib.hid (bstep HB9.out hb10);go_wp2_with fail;refine hK.out _ _ ?_ (fun hHeld=>?_)
     ·exact bstep HBW2.out HB10.out
     clear hK K
     try simp only[Act.put,tk1,tk2,tk3,tk4,tk5,tk6]
     refine tkY 6 ?_ rfl ?_ ?_;rotate_left
     ·intro w hSw;(try dsimp only at hSw);go_simp
      all_goals with_reducible rfl
     try simp only[Act.put,tk1,tk2,tk3,tk4,tk5,tk6]
     refine wpAnyH_ready (rs:=[1,7]) (by kernel_rfl) (by simp) ?_;refine AllReadyH.cons rfl (fun K hK=>?_) (AllReadyH.cons rfl (fun K hK=>?_) AllReadyH.nil)
     ·have hc4:(w10).cell? ⟨C,3,none⟩=some (.slice Av0 i cv0):=(HKC2.out.below HB10.out HKC2.out.lt).cells 3;go_simp
      skip
      go_wp2_with fail;refine hK.out _ _ ?_ (fun hHeld=>?_)
      ·exact bstep HBW2.out HB10.out
      clear hK K
      try simp only[Act.put,tk1,tk2,tk3,tk4,tk5,tk6]
      refine wpAnyH_ready (rs:=[7]) (by kernel_rfl) (by simp) ?_;refine AllReadyH.cons rfl (fun K hK=>?_) AllReadyH.nil;go_simp
      skip
      go_wp2_with fail;refine hK.out _ _ ?_ (fun hHeld=>?_)
      ·exact bstep HBW2.out (HB10.out.alloc HB10.out.size _)
      clear hK K
      try simp only[Act.put,tk1,tk2,tk3,tk4,tk5,tk6]
      refine wpAnyH_ready (rs:=[8]) (by kernel_rfl) (by simp) ?_;refine AllReadyH.cons rfl (fun K hK=>?_) AllReadyH.nil;refine step_push_at w10 #[.bool f1,.string f2,.string f3,.bool r1,.string r2,.string r3] (by rfl) _ _ 74 (by rfl) (C+1) 108 (.agg #[.bool false,.string ⟨#[]⟩,.string ⟨#[]⟩,.bool false,.string ⟨#[]⟩,.string ⟨#[]⟩]) 6 80 1 Tryz.underlying74 info_brk rfl (by decide) (.slice Av0 i cv0) i ((brs.take i).flatMap Bk.cells) (by rfl) (own_below HOW2.out HB10.out) (by rfl) rfl ?_ ?_ ?_ ?_ ?_
      any_goals first|(unfold maxLen;omega)|omega
      ·intro u hu;simp only[List.mem_cons,List.not_mem_nil,or_false] at hu;rcases hu with rfl|rfl|rfl|rfl|rfl|rfl<;>rfl
      ·have h1:=HKC2.out.lt;have h2:=HB10.out.size;omega
      intro v' w11 hown hgr _;obtain⟨Av,cv,rfl,_⟩:=own_rd hown;have hkc:=(HKC2.out.below HB10.out HKC2.out.lt)
      have HTF:=Lib.hid (TF.grown (own_below HOW2.out HB10.out) hgr);have HK11:=Lib.hid (HTF.out.blk hkc (by decide));have HB11:Hid (Below w.heap.size w w11):=(bstep HBW2.out HB10.out).grown hgr (by have h1:=HBW2.out.size;have h2:=HB10.out.size;omega) (fun k hk=>by have h1:=((own_below HOW2.out HB10.out).lt k hk).1;have h2:=HCW.out;omega);have HG11:=Lib.hid (HTF.out.blk (HG2.out.below HB10.out HG2.out.lt) (by decide));have HO11:=Lib.hid hown;clear hown hgr hkc;refine hK.out _ _ ?_ (fun hHeld=>?_)
      ·exact HB11.out
      clear hK K
      try simp only[Act.put,tk1,tk2,tk3,tk4,tk5,tk6]
      refine tkY 9 ?_ rfl ?_ ?_;rotate_left
      ·intro w hSw;(try dsimp only at hSw);go_simp
       all_goals with_reducible rfl
      try simp only[Act.put,tk1,tk2,tk3,tk4,tk5,tk6]
      refine wpAnyH_ready (rs:=[10]) (by kernel_rfl) (by simp) ?_;refine AllReadyH.cons rfl (fun K hK=>?_) AllReadyH.nil;have hkc:=HK11.out.cells;have hkf:=HK11.out.froz;go_simp
      skip
      go_wp2_with fail;refine hK.out _ _ ?_ (fun hHeld=>?_)
      ·exact HB11.out.setCell (p:=⟨C,3,none⟩) HCW.out _
      clear hK K
      try simp only[Act.put,tk1,tk2,tk3,tk4,tk5,tk6]
      refine wpAnyH_done (by kernel_rfl) ?_ _;refine NoPanic.normal ?_;go_wp2
      go_roundg (brs.length-(i+1))
      case measure=>omega
      case rel=>exact⟨i+1,Av,cv,by omega,by go_num,HB11.out.setCell (p:=⟨C,3,none⟩) HCW.out _,HK11.out.set 3 _,(by show World.ownsRow _ _ _ _ _ _ _;rw[HTK.out];exact own_set HO11.out 3 _),HG11.out.other (p:=⟨C,3,none⟩) HGC.out _⟩
     ·go_simp
      skip
      go_wp2_with fail;refine hK.out _ _ ?_ (fun hHeld=>?_)
      ·exact bstep HBW2.out (HB10.out.alloc HB10.out.size _)
      clear hK K
      try simp only[Act.put,tk1,tk2,tk3,tk4,tk5,tk6]
      refine wpAnyH_ready (rs:=[1]) (by kernel_rfl) (by simp) ?_;refine AllReadyH.cons rfl (fun K hK=>?_) AllReadyH.nil;have hc4:(w10.alloc (.cells #[.bool f1,.string f2,.string f3,.bool r1,.string r2,.string r3] 108)).cell? ⟨C,3,none⟩=some (.slice Av0 i cv0):=(HKC2.out.below (HB10.out.alloc HB10.out.size (.cells #[.bool f1,.string f2,.string f3,.bool r1,.string r2,.string r3] 108)) HKC2.out.lt).cells 3;go_simp
      skip
      go_wp2_with fail;refine hK.out _ _ ?_ (fun hHeld=>?_)
      ·exact bstep HBW2.out (HB10.out.alloc HB10.out.size (.cells #[.bool f1,.string f2,.string f3,.bool r1,.string r2,.string r3] 108))
      clear hK K
      try simp only[Act.put,tk1,tk2,tk3,tk4,tk5,tk6]
      refine wpAnyH_ready (rs:=[8]) (by kernel_rfl) (by simp) ?_;refine AllReadyH.cons rfl (fun K hK=>?_) AllReadyH.nil;refine step_push_at w10 #[.bool f1,.string f2,.string f3,.bool r1,.string r2,.string r3] (by rfl) _ _ 74 (by rfl) (C+1) 108 (.agg #[.bool false,.string ⟨#[]⟩,.string ⟨#[]⟩,.bool false,.string ⟨#[]⟩,.string ⟨#[]⟩]) 6 80 1 Tryz.underlying74 info_brk rfl (by decide) (.slice Av0 i cv0) i ((brs.take i).flatMap Bk.cells) (by rfl) (own_below HOW2.out HB10.out) (by rfl) rfl ?_ ?_ ?_ ?_ ?_
      any_goals first|(unfold maxLen;omega)|omega
      ·intro u hu;simp only[List.mem_cons,List.not_mem_nil,or_false] at hu;rcases hu with rfl|rfl|rfl|rfl|rfl|rfl<;>rfl
      ·have h1:=HKC2.out.lt;have h2:=HB10.out.size;omega
      intro v' w11 hown hgr _;obtain⟨Av,cv,rfl,_⟩:=own_rd hown;have hkc:=(HKC2.out.below HB10.out HKC2.out.lt)
      have HTF:=Lib.hid (TF.grown (own_below HOW2.out HB10.out) hgr);have HK11:=Lib.hid (HTF.out.blk hkc (by decide));have HB11:Hid (Below w.heap.size w w11):=(bstep HBW2.out HB10.out).grown hgr (by have h1:=HBW2.out.size;have h2:=HB10.out.size;omega) (fun k hk=>by have h1:=((own_below HOW2.out HB10.out).lt k hk).1;have h2:=HCW.out;omega);have HG11:=Lib.hid (HTF.out.blk (HG2.out.below HB10.out HG2.out.lt) (by decide));have HO11:=Lib.hid hown;clear hown hgr hkc;refine hK.out _ _ ?_ (fun hHeld=>?_)
      ·exact HB11.out
      clear hK K
      try simp only[Act.put,tk1,tk2,tk3,tk4,tk5,tk6]
      refine tkY 9 ?_ rfl ?_ ?_;rotate_left
      ·intro w hSw;(try dsimp only at hSw);go_simp
       all_goals with_reducible rfl
      try simp only[Act.put,tk1,tk2,tk3,tk4,tk5,tk6]
      refine wpAnyH_ready (rs:=[10]) (by kernel_rfl) (by simp) ?_;refine AllReadyH.cons rfl (fun K hK=>?_) AllReadyH.nil;have hkc:=HK11.out.cells;have hkf:=HK11.out.froz;go_simp
      skip
      go_wp2_with fail;refine hK.out _ _ ?_ (fun hHeld=>?_)
      ·exact HB11.out.setCell (p:=⟨C,3,none⟩) HCW.out _
      clear hK K
      try simp only[Act.put,tk1,tk2,tk3,tk4,tk5,tk6]
      refine wpAnyH_done (by kernel_rfl) ?_ _;refine NoPanic.normal ?_;go_wp2
      go_roundg (brs.length-(i+1))
      case measure=>omega
      case rel=>exact⟨i+1,Av,cv,by omega,by go_num,HB11.out.setCell (p:=⟨C,3,none⟩) HCW.out _,HK11.out.set 3 _,(by show World.ownsRow _ _ _ _ _ _ _;rw[HTK.out];exact own_set HO11.out 3 _),HG11.out.other (p:=⟨C,3,none⟩) HGC.out _⟩
  ·have hin:i=brs.length:=by omega
   have HO:=hoW;rw[hin,List.take_of_length_le (Nat.le_refl _)] at HO;rw[hin] at hkC;have HP:=Lib.hid (HPT.out.below hbr.out);have HRC:Hid (R<C):=by have h1:=HPT.out.blk.lt;have h2:=HCW.out;show R<C;omega
   have HSN:Hid (∀g,sv.ownBlock=some g→g<w.heap.size):=fun g hg=>(HPT.out.s.lt g hg).2
   have HS11:Hid (∀W',Below wr.heap.size wr W'→W'.cell? ⟨C,0,none⟩=some (.string nm)∧W'.cell? ⟨C,1,none⟩=some (.int .i64 tm)∧W'.cell? ⟨C,2,none⟩=some (.int .i64 td)∧W'.cell? ⟨C,3,none⟩=some (.slice Av0 brs.length cv0)):=fun W' hb=>⟨(hkC.out.below hb hkC.out.lt).cells 0,(hkC.out.below hb hkC.out.lt).cells 1,(hkC.out.below hb hkC.out.lt).cells 2,(hkC.out.below hb hkC.out.lt).cells 3⟩
   have HBR:=Lib.hid hbr.out;clear hbr hoW hkG hin
   go_upto_region 11 with fail
   refine wp_region_noPanic ?_;refine wp_region_held_drew (S:=(fun w'=>w'.cell? ⟨C,0,none⟩=some (.string nm)∧w'.cell? ⟨C,1,none⟩=some (.int .i64 tm)∧w'.cell? ⟨C,2,none⟩=some (.int .i64 td)∧w'.cell? ⟨C,3,none⟩=some (.slice Av0 brs.length cv0))) (by kernel_rfl) (HS11.out _ (drewN_below wr.heap.size wr 1)) (fun hHeld=>?_);refine tkY 0 ?_ rfl ?_ ?_;rotate_left
   ·intro w hSw;(try dsimp only at hSw);go_simp
    all_goals with_reducible rfl
   try simp only[Act.put,tk1,tk2,tk3,tk4,tk5,tk6]
   refine tkY 1 ?_ rfl ?_ ?_;rotate_left
   ·intro w hSw;(try dsimp only at hSw);go_simp
    all_goals with_reducible rfl
   try simp only[Act.put,tk1,tk2,tk3,tk4,tk5,tk6]
   refine tkY 2 ?_ rfl ?_ ?_;rotate_left
   ·intro w hSw;(try dsimp only at hSw);go_simp
    all_goals with_reducible rfl
   try simp only[Act.put,tk1,tk2,tk3,tk4,tk5,tk6]
   refine tkY 3 ?_ rfl ?_ ?_;rotate_left
   ·intro w hSw;(try dsimp only at hSw);go_simp
    all_goals with_reducible rfl
   try simp only[Act.put,tk1,tk2,tk3,tk4,tk5,tk6]
   refine tkY 5 ?_ rfl ?_ ?_;rotate_left
   ·intro w hSw;(try dsimp only at hSw);go_simp
    all_goals with_reducible rfl
   try simp only[Act.put,tk1,tk2,tk3,tk4,tk5,tk6]
   refine wpAnyH_ready (rs:=[4,6]) (by kernel_rfl) (by simp) ?_;refine AllReadyH.cons rfl (fun K hK=>?_) (AllReadyH.cons rfl (fun K hK=>?_) AllReadyH.nil)
   ·have hc4:(wr).cell? ⟨R,1,none⟩=some sv:=(HP.out.below (Below.refl _ _)).blk.cells 1;go_simp
    skip
    go_wp2_with fail;refine hK.out _ _ ?_ (fun hHeld=>?_)
    ·exact HS11.out _ (drewN_below wr.heap.size wr 1)
    clear hK K
    try simp only[Act.put,tk1,tk2,tk3,tk4,tk5,tk6]
    refine wpAnyH_ready (rs:=[6]) (by kernel_rfl) (by simp) ?_;refine AllReadyH.cons rfl (fun K hK=>?_) AllReadyH.nil;go_simp
    skip
    go_wp2_with fail;refine hK.out _ _ ?_ (fun hHeld=>?_)
    ·exact HS11.out _ ((drewN_below wr.heap.size wr 1).alloc (drewN_below wr.heap.size wr 1).size _)
    clear hK K
    try simp only[Act.put,tk1,tk2,tk3,tk4,tk5,tk6]
    refine wpAnyH_ready (rs:=[7]) (by kernel_rfl) (by simp) ?_;refine AllReadyH.cons rfl (fun K hK=>?_) AllReadyH.nil;refine step_push_at wr.drew #[.string nm,.int .i64 tm,.int .i64 td,.slice Av0 brs.length cv0] (by rfl) _ _ 26 (by rfl) (R+1) 76 (.agg #[.string ⟨#[]⟩,.int .i64 0,.int .i64 0,.slice none 0 0]) 4 56 1 Tryz.underlying26 info_sch rfl (by decide) sv ss.length (ss.flatMap scCells) (by rfl) HP.out.s (by rfl) rfl ?_ ?_ ?_ ?_ ?_
    any_goals first|(unfold maxLen;omega)|omega
    ·intro u hu;simp only[List.mem_cons,List.not_mem_nil,or_false] at hu;rcases hu with rfl|rfl|rfl|rfl<;>rfl
    ·have h1:=HP.out.blk.lt;show R+1≤wr.heap.size;omega
    intro v' w11 hown hgr _;obtain⟨Av,cv,rfl,_⟩:=own_rd hown;have HQ:=Lib.hid ((HP.out.below (drewN_below wr.heap.size wr 1)).pushS (⟨nm,tm,td,brs⟩,⟨Av0,brs.length,cv0⟩) ⟨rfl,own_lower HO.out (by have:=HRC.out;omega)⟩ hown hgr);have HKR:Hid (Blk w11 R 29 [fv,sv,pv]):=(hgr.block R HP.out.blk.lt (fun e=>by have h1:=(HP.out.s.lt R e.symm).1;omega)).trans HP.out.blk;have HKC:Hid (Blk w11 C 76 [.string nm,.int .i64 tm,.int .i64 td,.slice Av0 brs.length cv0]):=(hgr.block C hkC.out.lt (fun e=>by have h1:=HSN.out C e.symm;have h2:=HCW.out;omega)).trans hkC.out;have HFR:Hid (FR R w _):=FR.grown (i:=1) (u:=.slice Av (ss.length+1) cv) (bstep HBR.out (drewN_below wr.heap.size wr 1)) (HP.out.below (drewN_below wr.heap.size wr 1)).s (.inr (.inl rfl)) hgr;clear hown hgr;refine hK.out _ _ ?_ (fun hHeld=>?_)
    ·exact⟨HKC.out.cells 0,HKC.out.cells 1,HKC.out.cells 2,HKC.out.cells 3⟩
    clear hK K
    try simp only[Act.put,tk1,tk2,tk3,tk4,tk5,tk6]
    refine tkY 8 ?_ rfl ?_ ?_;rotate_left
    ·intro w hSw;(try dsimp only at hSw);go_simp
     all_goals with_reducible rfl
    try simp only[Act.put,tk1,tk2,tk3,tk4,tk5,tk6]
    refine tkY 9 ?_ rfl ?_ ?_;rotate_left
    ·intro w hSw;(try dsimp only at hSw);go_simp
     all_goals with_reducible rfl
    try simp only[Act.put,tk1,tk2,tk3,tk4,tk5,tk6]
    refine wpAnyH_ready (rs:=[10]) (by kernel_rfl) (by simp) ?_;refine AllReadyH.cons rfl (fun K hK=>?_) AllReadyH.nil;have hkc:=HKR.out.cells;have hkf:=HKR.out.froz;go_simp
    skip
    go_wp2_with fail;refine hK.out _ _ ?_ (fun hHeld=>?_)
    ·exact⟨(HKC.out.other (p:=⟨R,1,none⟩) (by have:=HRC.out;show C≠R;omega) _).cells 0,(HKC.out.other (p:=⟨R,1,none⟩) (by have:=HRC.out;show C≠R;omega) _).cells 1,(HKC.out.other (p:=⟨R,1,none⟩) (by have:=HRC.out;show C≠R;omega) _).cells 2,(HKC.out.other (p:=⟨R,1,none⟩) (by have:=HRC.out;show C≠R;omega) _).cells 3⟩
    clear hK K
    try simp only[Act.put,tk1,tk2,tk3,tk4,tk5,tk6]
    refine wpAnyH_done (by kernel_rfl) ?_ _;refine NoPanic.normal ?_;go_wp2;go_end0;exact⟨rfl,⟨_,_,HQ.out⟩,HFR.out⟩
   ·go_simp
    skip
    go_wp2_with fail;refine hK.out _ _ ?_ (fun hHeld=>?_)
    ·exact HS11.out _ ((drewN_below wr.heap.size wr 1).alloc (drewN_below wr.heap.size wr 1).size _)
    clear hK K
    try simp only[Act.put,tk1,tk2,tk3,tk4,tk5,tk6]
    refine wpAnyH_ready (rs:=[4]) (by kernel_rfl) (by simp) ?_;refine AllReadyH.cons rfl (fun K hK=>?_) AllReadyH.nil;have hc4:(wr.alloc (.cells #[.string nm,.int .i64 tm,.int .i64 td,.slice Av0 brs.length cv0] 76)).cell? ⟨R,1,none⟩=some sv:=(HP.out.below ((Below.refl _ _).alloc (Nat.le_refl _) (.cells #[.string nm,.int .i64 tm,.int .i64 td,.slice Av0 brs.length cv0] 76))).blk.cells 1;go_simp
    skip
    go_wp2_with fail;refine hK.out _ _ ?_ (fun hHeld=>?_)
    ·exact HS11.out _ ((drewN_below wr.heap.size wr 1).alloc (drewN_below wr.heap.size wr 1).size (.cells #[.string nm,.int .i64 tm,.int .i64 td,.slice Av0 brs.length cv0] 76))
    clear hK K
    try simp only[Act.put,tk1,tk2,tk3,tk4,tk5,tk6]
    refine wpAnyH_ready (rs:=[7]) (by kernel_rfl) (by simp) ?_;refine AllReadyH.cons rfl (fun K hK=>?_) AllReadyH.nil;refine step_push_at wr.drew #[.string nm,.int .i64 tm,.int .i64 td,.slice Av0 brs.length cv0] (by rfl) _ _ 26 (by rfl) (R+1) 76 (.agg #[.string ⟨#[]⟩,.int .i64 0,.int .i64 0,.slice none 0 0]) 4 56 1 Tryz.underlying26 info_sch rfl (by decide) sv ss.length (ss.flatMap scCells) (by rfl) HP.out.s (by rfl) rfl ?_ ?_ ?_ ?_ ?_
    any_goals first|(unfold maxLen;omega)|omega
    ·intro u hu;simp only[List.mem_cons,List.not_mem_nil,or_false] at hu;rcases hu with rfl|rfl|rfl|rfl<;>rfl
    ·have h1:=HP.out.blk.lt;show R+1≤wr.heap.size;omega
    intro v' w11 hown hgr _;obtain⟨Av,cv,rfl,_⟩:=own_rd hown;have HQ:=Lib.hid ((HP.out.below (drewN_below wr.heap.size wr 1)).pushS (⟨nm,tm,td,brs⟩,⟨Av0,brs.length,cv0⟩) ⟨rfl,own_lower HO.out (by have:=HRC.out;omega)⟩ hown hgr);have HKR:Hid (Blk w11 R 29 [fv,sv,pv]):=(hgr.block R HP.out.blk.lt (fun e=>by have h1:=(HP.out.s.lt R e.symm).1;omega)).trans HP.out.blk;have HKC:Hid (Blk w11 C 76 [.string nm,.int .i64 tm,.int .i64 td,.slice Av0 brs.length cv0]):=(hgr.block C hkC.out.lt (fun e=>by have h1:=HSN.out C e.symm;have h2:=HCW.out;omega)).trans hkC.out;have HFR:Hid (FR R w _):=FR.grown (i:=1) (u:=.slice Av (ss.length+1) cv) (bstep HBR.out (drewN_below wr.heap.size wr 1)) (HP.out.below (drewN_below wr.heap.size wr 1)).s (.inr (.inl rfl)) hgr;clear hown hgr;refine hK.out _ _ ?_ (fun hHeld=>?_)
    ·exact⟨HKC.out.cells 0,HKC.out.cells 1,HKC.out.cells 2,HKC.out.cells 3⟩
    clear hK K
    try simp only[Act.put,tk1,tk2,tk3,tk4,tk5,tk6]
    refine tkY 8 ?_ rfl ?_ ?_;rotate_left
    ·intro w hSw;(try dsimp only at hSw);go_simp
     all_goals with_reducible rfl
    try simp only[Act.put,tk1,tk2,tk3,tk4,tk5,tk6]
    refine tkY 9 ?_ rfl ?_ ?_;rotate_left
    ·intro w hSw;(try dsimp only at hSw);go_simp
     all_goals with_reducible rfl
    try simp only[Act.put,tk1,tk2,tk3,tk4,tk5,tk6]
    refine wpAnyH_ready (rs:=[10]) (by kernel_rfl) (by simp) ?_;refine AllReadyH.cons rfl (fun K hK=>?_) AllReadyH.nil;have hkc:=HKR.out.cells;have hkf:=HKR.out.froz;go_simp
    skip
    go_wp2_with fail;refine hK.out _ _ ?_ (fun hHeld=>?_)
    ·exact⟨(HKC.out.other (p:=⟨R,1,none⟩) (by have:=HRC.out;show C≠R;omega) _).cells 0,(HKC.out.other (p:=⟨R,1,none⟩) (by have:=HRC.out;show C≠R;omega) _).cells 1,(HKC.out.other (p:=⟨R,1,none⟩) (by have:=HRC.out;show C≠R;omega) _).cells 2,(HKC.out.other (p:=⟨R,1,none⟩) (by have:=HRC.out;show C≠R;omega) _).cells 3⟩
    clear hK K
    try simp only[Act.put,tk1,tk2,tk3,tk4,tk5,tk6]
    refine wpAnyH_done (by kernel_rfl) ?_ _;refine NoPanic.normal ?_;go_wp2;go_end0;exact⟨rfl,⟨_,_,HQ.out⟩,HFR.out⟩
def sFact:ByteArray:=⟨#[102,97,99,116,32]⟩
def sSch:ByteArray:=⟨#[115,99,104,101,100,117,108,101,32]⟩
def sPrv:ByteArray:=⟨#[112,114,111,118,105,115,105,111,110,32]⟩
def sChg:ByteArray:=⟨#[32,99,104,97,114,103,101]⟩
def sStp:ByteArray:=⟨#[32,115,116,101,112,32]⟩
def sCap:ByteArray:=⟨#[32,99,97,112,32]⟩
def sSp:ByteArray:=⟨#[32]⟩
def sNl:ByteArray:=⟨#[10]⟩
def sCs:ByteArray:=⟨#[58,32]⟩
def sSep (k:Nat):ByteArray:=if k=0 then ⟨#[58]⟩ else ⟨#[44]⟩
def bodyT (e:List Nd):ByteArray:=⟨(if checkE e=0 then textE e else []).toArray⟩
def declW (d:Dc):List ByteArray:=[sFact,d.name,sSp,tyText d.ty,sNl]
def schW (s:Sc):List ByteArray:=[sSch,s.name,sSp,tyText ⟨false,s.money,s.days⟩]
def bkW (k:Nat) (b:Bk):List ByteArray:=[sSep k,sSp,textR b.fr,sSp,textR b.rt]
def bksL:Nat→List Bk→List UInt8
 |_,[]=>[]
 |k,b::r=>bytesL (bkW k b)++bksL (k+1) r
def schL (s:Sc):List UInt8:=bytesL (schW s)++bksL 0 s.brs++bytesL [sNl]
def pvW (p:Pv):List ByteArray:=[sPrv,p.name,sSp,tyText p.ty]
def stW (p:Pv):List ByteArray:=[sStp,textR p.step,sCap,textR p.cap]
def pvL (p:Pv):List UInt8:=bytesL (pvW p)++(if p.charge then bytesL [sChg] else [])++(if plainP p then [] else bytesL (stW p))++bytesL [sCs,bodyT p.body,sNl]
def declL (d:Dc):List UInt8:=bytesL (declW d)
def textL (l:Lw):List UInt8:=l.facts.flatMap declL++l.schs.flatMap schL++l.provs.flatMap pvL
theorem flm_take {α:Type} (f:α→List UInt8) {l:List α} {j:Nat} (h:j<l.length):(l.take (j+1)).flatMap f=(l.take j).flatMap f++f l[j]:=by
 rw[List.take_succ_eq_append_getElem h,List.flatMap_append];simp
theorem flm_le {α:Type} (f:α→List UInt8) {l:List α} {j:Nat} (h:j<l.length):((l.take j).flatMap f).length+(f l[j]).length≤(l.flatMap f).length:=by
 have h1:(l.flatMap f)=(l.take (j+1)).flatMap f++(l.drop (j+1)).flatMap f:=by rw[←List.flatMap_append,List.take_append_drop]
 rw[h1,flm_take f h];simp only[List.length_append];omega
theorem bks_append (k:Nat) (a b:List Bk):bksL k (a++b)=bksL k a++bksL (k+a.length) b:=by
 induction a generalizing k with
 |nil=>rfl
 |cons x a ih=>rw[List.cons_append,bksL,bksL,ih,List.append_assoc,List.length_cons,show k+1+a.length=k+(a.length+1) by omega]
theorem bks_take {l:List Bk} {j:Nat} (h:j<l.length):bksL 0 (l.take (j+1))=bksL 0 (l.take j)++bytesL (bkW j l[j]):=by
 rw[List.take_succ_eq_append_getElem h,bks_append,Nat.zero_add,List.length_take,Nat.min_eq_left (Nat.le_of_lt h),bksL,bksL,List.append_nil]
theorem bks_le {l:List Bk} {j:Nat} (h:j<l.length):(bksL 0 (l.take j)).length+(bytesL (bkW j l[j])).length≤(bksL 0 l).length:=by
 have h1:bksL 0 l=bksL 0 (l.take (j+1))++bksL (0+(l.take (j+1)).length) (l.drop (j+1)):=by rw[←bks_append,List.take_append_drop]
 rw[h1,bks_take h];simp only[List.length_append];omega
structure WS (B b:Nat) (w0 w:World) (bs:List UInt8):Prop where
 ib:Lib.IsBuilder 68 5 B b (lc bs) w
 bl:Below B w0 w
 hb:B≤w0.heap.size
theorem WS.size {B b:Nat} {w0 w:World} {bs:List UInt8} (h:WS B b w0 w bs):B≤w.heap.size:=Nat.le_trans h.hb h.bl.size
theorem WS.grow {B b:Nat} {w0 w w':World} {bs:List UInt8} (h:WS B b w0 w bs) (hb:Below w.heap.size w w'):WS B b w0 w' bs:=
 ⟨isb_below h.ib hb,h.bl.trans (hb.mono h.size),h.hb⟩
theorem WS.lt {B b:Nat} {w0 w:World} {bs:List UInt8} (h:WS B b w0 w bs):b<w.heap.size:=isb_lt h.ib
theorem WS.words {B b:Nat} {w0 w:World} {bs:List UInt8} (h:WS B b w0 w bs) (l:List ByteArray) (g n:Nat) (hg:Blk w g 9 (strs l)) (hgb:b<g) (hn:n=l.length) (hm:n≤1000) (h0:l≠[]) (hlen:bs.length+(bytesL l).length≤100000000000000):
  Calls Tryz.prog 38 #[.pointer (some ⟨b,0,none⟩),.slice (some ⟨g,0,none⟩) n n] w fun e w'=>e=.returned (.tuple #[])∧(WS B b w0 w' (bs++bytesL l)∧BF b w w'):=by
 refine (uWords_any B b g n n bs l w h.ib hg (by omega) hn hm h0 hlen h.size).mono ?_;rintro e w' ⟨rfl,hx,hb,hf⟩;exact⟨rfl,⟨.inr hx,h.bl.trans hb,h.hb⟩,hf⟩
set_option maxRecDepth 100000 in
set_option maxHeartbeats 1600000 in
theorem tOf_any (n:Int) (w:World) (h0:0≤n) (h1:n≤9223372036854775807):Calls Tryz.prog 10 #[.int .i64 n] w fun e w'=>e=.returned (.agg #[.bool false,.string (nbs n.toNat),.string (nbs 1)])∧Below w.heap.size w w':=by
 obtain⟨W,hW⟩:∃W,W=w.alloc (.cells #[.bool false,.string ⟨#[]⟩,.string ⟨#[]⟩] 46):=⟨_,rfl⟩
 obtain⟨B,hB⟩:∃B,B=w.heap.size:=⟨_,rfl⟩
 have HK:Hid (Blk W B 46 [.bool false,.string ⟨#[]⟩,.string ⟨#[]⟩]):=by show Blk _ _ _ _;rw[hW,hB];exact Blk.new w _ _
 have HBA:Hid (Below w.heap.size w W):=by show Below _ _ _;rw[hW];exact (Below.refl _ _).alloc (Nat.le_refl _) _
 have HBB:=Lib.hid (Nat.le_of_eq hB.symm);have HO:=Lib.hid (fun W=>rOf_any n W (by omega) h1);have HO1:=Lib.hid (fun W=>rOf_any 1 W (by omega) (by omega));rw[show (1:Int).toNat=1 from rfl] at HO1;have hn:¬n<0:=by omega
 go_enter Tryz.func10,Tryz.ntmps10
 go_upto_region 1 with fail
 simp only[←hW,←hB]
 clear hW hB;go_wp2_with fail;refine (HO.out W).mono ?_;rintro e w1 ⟨rfl,hb1⟩;go_wp2_with fail;refine (HO1.out w1).mono ?_;rintro e w2 ⟨rfl,hb2⟩;have hb12:=bstep hb1 hb2;have HK2:=Lib.hid (HK.out.below hb12 HK.out.lt);have HB2:=Lib.hid (bstep HBA.out hb12);have hkc:=HK2.out.cells;have hkf:=HK2.out.froz;clear hb1 hb2 hb12;go_wp2;have HKF:=((HK2.out.set 0 (.bool false)).set 1 (.string (nbs n.toNat))).set 2 (.string (nbs 1));have hc:=HKF.cells;refine bodyPost_ret (v:=.agg #[.bool false,.string (nbs n.toNat),.string (nbs 1)]) (by simp[results,Tryz.results10,go_sem,hc]) rfl ⟨rfl,?_⟩;exact ((HB2.out.setCell (p:=⟨B,0,none⟩) HBB.out _).setCell (p:=⟨B,1,none⟩) HBB.out _).setCell (p:=⟨B,2,none⟩) HBB.out _
def isName (q:ByteArray) (x:Pv × Hd):Bool:=decide (x.1.name=q)
set_option maxRecDepth 100000 in
set_option maxHeartbeats 800000 in
theorem uFind1_any (x:Pv × Hd) (q:ByteArray) (b:Nat) (t:TypeId) (w:World) (hb:Blk w b t [.string q]):Calls Tryz.prog 27 #[.agg (pvCells x).toArray,.pointer (some ⟨b,0,none⟩)] w fun e w'=>e=.returned (.bool (isName q x))∧Below w.heap.size w w':=by
 obtain⟨⟨nm,⟨tt,tm,td⟩,ch,⟨s1,s2,s3⟩,⟨p1,p2,p3⟩,body⟩,⟨ha,hn,hcc⟩⟩:=x;unfold pvCells isName;simp only
 obtain⟨W,hW⟩:∃W,W=w.alloc (.cells #[.string nm,.bool tt,.int .i64 tm,.int .i64 td,.slice ha hn hcc,.bool ch,.bool s1,.string s2,.string s3,.bool p1,.string p2,.string p3] 48):=⟨_,rfl⟩
 obtain⟨B,hB⟩:∃B,B=w.heap.size:=⟨_,rfl⟩
 have HK:Hid (Blk W B 48 [.string nm,.bool tt,.int .i64 tm,.int .i64 td,.slice ha hn hcc,.bool ch,.bool s1,.string s2,.string s3,.bool p1,.string p2,.string p3]):=by show Blk _ _ _ _;rw[hW,hB];exact Blk.new w _ _
 have HBA:Hid (Below w.heap.size w W):=by show Below _ _ _;rw[hW];exact (Below.refl _ _).alloc (Nat.le_refl _) _
 have hkc:=HK.out.cells;have hqc:W.cell? ⟨b,0,none⟩=some (.string q):=(hb.below HBA.out hb.lt).cells 0
 have HEQ:Hid ((nm.toList==q.toList)=decide (nm=q)):=by
  show _=_;rw[ByteArray.toList_eq,ByteArray.toList_eq]
  cases nm with|mk d=>cases q with|mk d'=>cases d with|mk l=>cases d' with|mk l'=>
   by_cases h:l=l'
   ·subst h;simp
   ·have h2:¬((⟨⟨l⟩⟩:ByteArray)=⟨⟨l'⟩⟩):=fun e=>h (by injection e with e;injection e)
    rw[decide_eq_false h2];simp[h]
 go_enter Tryz.func27,Tryz.ntmps27
 go_upto_region 1 with fail
 simp only[←hW,←hB]
 clear hW hB;go_wp2;go_ret;exact⟨by simp[HEQ.out],HBA.out⟩
def findL (q:ByteArray) (xs:List (Pv × Hd)) [Inhabited (Pv × Hd)]:Int:=Lib.idxBy (fun _ y=>isName q y) xs default
theorem idxPv_at (xs:List (Pv × Hd)) (h:Hd) (q:ByteArray) (b:Nat) (t:TypeId) (w:World) (hb:Blk w b t [.string q]) (hr:RowAt w pvCells xs h) (h0:0<xs.length) [hinh:Inhabited (Pv × Hd)]:
  Calls Tryz.prog 26 #[.slice h.a h.n h.c,.func (.func 27) #[] #[.pointer (some ⟨b,0,none⟩)]] w fun e w'=>e=.returned (.int .i64 (findL q xs))∧Below w.heap.size w w':=by
 have hlen:=hr.len;have hmx:=hr.max;have hcp:=hr.cap;obtain⟨g,off,hA,hg,_⟩:=Rd.row pvCells 12 (fun _=>rfl) (by omega) hr.rd (j:=0) (by omega);have eg:∀args w,(callFunc 27 args).run Tryz.prog w=.ok (.enter 27 args) w:=enters_of Tryz.func27 (by kernel_rfl) rfl;have hrd:=hr.rd;rw[hA] at hrd⊢
 have hh:=AnyQ.slices_IndexFunc Tryz.idxP 12 Tryz.isAgg48 Tryz.sizeOf48 pvCells (fun _=>rfl) (isName q) 27 #[.pointer (some ⟨b,0,none⟩)] eg g off h.n h.c xs w
  (fun W x hW=>(uFind1_any x q b t W (hb.below hW hb.lt)).mono (fun e w' ⟨h1,h2⟩=>⟨h1,bstep hW h2⟩)) (by omega) (by unfold maxLen at hmx;omega) hg (fun j hj i v hv=>by
    obtain⟨b',off',hA',hb',hc'⟩:=Rd.row pvCells 12 (fun _=>rfl) (by omega) hrd hj;injection hA' with hA';injection hA' with h1 h2;subst h1 h2;refine hc' i v ?_;have e:=getElem!_pos xs j hj;rw[e] at hv;exact hv)
 rw[List.take_of_length_le (by omega)] at hh;exact hh
set_option maxRecDepth 100000 in
set_option maxHeartbeats 800000 in
theorem uFind_any (q:ByteArray) (xs:List (Pv × Hd)) (f s p:Hd) (w:World) (hr:RowAt w pvCells xs p) (h0:0<xs.length) [hinh:Inhabited (Pv × Hd)] (z:Int) (hz:findL q xs=z) (hz0:0≤z):
  Calls Tryz.prog 13 #[lawV f s p,.string q] w fun e w'=>e=.returned (.tuple #[.int .i64 z,.bool true])∧Below w.heap.size w w':=by
 obtain⟨fa,fn,fc⟩:=f;obtain⟨sa,sn,sc⟩:=s;obtain⟨pa,pn,pc⟩:=p;unfold lawV;simp only
 obtain⟨W,hW⟩:∃W,W=(w.alloc (.cells #[.slice fa fn fc,.slice sa sn sc,.slice pa pn pc] 29)).alloc (.cells #[.string q] 9):=⟨_,rfl⟩
 obtain⟨B,hB⟩:∃B,B=w.heap.size:=⟨_,rfl⟩
 have HK:Hid (Blk W B 29 [.slice fa fn fc,.slice sa sn sc,.slice pa pn pc]):=by show Blk _ _ _ _;rw[hW,hB];exact (Blk.new w _ _).alloc _
 have HQ:Hid (Blk W (B+1) 9 [.string q]):=by
  show Blk _ _ _ _;rw[hW,hB];have h:=Blk.new (w.alloc (.cells #[.slice fa fn fc,.slice sa sn sc,.slice pa pn pc] 29)) 9 #[.string q];rw[World.size_alloc] at h;exact h
 have HBA:Hid (Below w.heap.size w W):=by show Below _ _ _;rw[hW];exact ((Below.refl _ _).alloc (Nat.le_refl _) _).alloc (by simp) _
 have HF:=Lib.hid (idxPv_at xs ⟨pa,pn,pc⟩ q (B+1) 9 W HQ.out (hr.below HBA.out) h0);rw[hz] at HF;simp only at HF;have hmf:∀(fn:Fn) (first cap:Array Value) (w:World),(Instr.makeFunc fn first cap).run Tryz.prog w=.ok (.func fn first cap) w:=fun _ _ _ _=>rfl
 have hkc:=HK.out.cells;have hmx:max z 0=z:=by omega
 clear hz hr;go_enter Tryz.func13,Tryz.ntmps13
 go_upto_region 1 with fail
 simp only[←hW,←hB]
 clear hW hB;go_wp2_with fail;refine HF.out.mono ?_;rintro e w2 ⟨rfl,hb2⟩;have HB2:=Lib.hid (bstep HBA.out hb2);clear hb2;go_wp2;go_ret2;exact⟨rfl,HB2.out⟩
end Go.Proofs.YtfajelpcfnfjkaaGreatDoor
