/- A part of the proof: Uo Up Uu Uh. -/
import Derived.Deep.RegionHeld3
import Derived.Deep.Cut
import Derived.Deep.CutRange
import Derived.Test.YtmmbjngbeiokeaaGreatDoorF01
import Derived.Test.YtmmbjngbeiokeaaGreatDoorF03
import Derived.Test.YtmmbjngbeiokeaaGreatDoorF29
import Derived.Test.YtmmbjngbeiokeaaGreatDoorF30
import Derived.Test.YtmmbjngbeiokeaaGreatDoorF33
import Derived.Test.YtmmbjngbeiokeaaGreatDoorF34
import Derived.Test.YtmmbjngbeiokeaaGreatDoorF38
set_option linter.unusedVariables false
set_option linter.unusedSimpArgs false
set_option maxRecDepth 100000
set_option maxHeartbeats 40000000
namespace Go.Proofs.YtmmbjngbeiokeaaGreatDoor
open Go.RowKit
theorem info_brk:(Tryz.prog.info? 121).map (fun i=>(i.zero,i.size,i.bytes))=some (some (.agg #[.bool false,.string ⟨#[]⟩,.string ⟨#[]⟩,.bool false,.string ⟨#[]⟩,.string ⟨#[]⟩]),6,80):=by kernel_rfl
theorem info_sch:(Tryz.prog.info? 79).map (fun i=>(i.zero,i.size,i.bytes))=some (some (.agg #[.string ⟨#[]⟩,.int .i64 0,.int .i64 0,.slice none 0 0]),4,56):=by kernel_rfl
def PieceB (p:ByteArray) (b:Bk):Prop:=p.size≤1000000∧∃x y:List UInt8,Lib.cut p.data.toList [32]=(x,y,true)∧x.length≤1000000∧y.length≤1000000∧ratParse ⟨x.toArray⟩=(b.fr,true)∧ratParse ⟨y.toArray⟩=(b.rt,true)
def piecesB (rest:ByteArray):List ByteArray:=Lib.splitB ⟨#[44,32]⟩ 0 (Lib.countB rest ⟨#[44,32]⟩) rest
structure RestB (rest:ByteArray) (brs:List Bk):Prop where
 size:rest.size≤1000000
 n:Lib.countB rest ⟨#[44,32]⟩+1=brs.length
 len:(piecesB rest).length=brs.length
 max:brs.length≤1000
 ok:∀i (h:i<brs.length) (h':i<(piecesB rest).length),PieceB (piecesB rest)[i] brs[i]
theorem uSched_any (w0 w:World) (R g c:Nat) (l:Lw) (ss:List (Sc × Hd)) (ps:List (Pv × Hd)) (fv sv pv:Value) (nm s rest:ByteArray) (tm td:Int) (brs:List Bk) (h:PT w0 w R l ss ps fv sv pv) (hL:LaidK w) (ht:tyIn ⟨false,tm,td⟩=true) (hs:s=tyText ⟨false,tm,td⟩) (hn:ss.length≤1000) (hr:RestB rest brs) (hg:∃cs,Blk w g 9 cs∧cs[1]?=some (.string nm)∧cs[2]?=some (.string s)):
  Calls Tryz.prog 91 #[.pointer (some ⟨R,0,none⟩),.slice (some ⟨g,1,none⟩) 2 c,.string rest] w fun e w'=>e=.returned (.tuple #[])∧(∃v' hd,PT w0 w' R ⟨l.facts,l.schs++[⟨nm,tm,td,brs⟩],l.provs⟩ (ss++[(⟨nm,tm,td,brs⟩,hd)]) ps fv v' pv)∧FR R w w':=by
 obtain⟨cs,hg0,hg1,hg2⟩:=hg;have HT:=zH (fun W (hb:Below w.heap.size w W)=>hs ▸ uTypeOf_any ⟨false,tm,td⟩ W (hL.below hb) ht);have HPT:=zH h;have HLK:Hid (∀W,Below w.heap.size w W→LaidK W):=fun W hb=>hL.below hb
 have HRB:=zH hr;have HSS:Hid (∀W,Below w.heap.size w W→W.cell? ⟨g,1,none⟩=some (.string nm)∧W.cell? ⟨g,2,none⟩=some (.string s)):=fun W hb=>⟨((hg0.below hb hg0.lt).cells 1).trans hg1,((hg0.below hb hg0.lt).cells 2).trans hg2⟩
 have HM:=zH (must_yes w);have hc2:=(HSS.out w (Below.refl _ _)).2;unfold Ty.v at HT;simp only at HT;clear h hL ht hs hg0 hg1 hg2 hr;go_enter Tryz.func91,Tryz.ntmps91;go_wp2_with fail;refine HM.out.mono ?_;rintro e w1 ⟨rfl,hw1⟩;have hw2:=hw1.symm;clear hw1;subst hw2;go_wp2_with fail;refine (HT.out w (Below.refl _ _)).mono ?_;rintro e w1 ⟨rfl,hb1⟩;obtain⟨W1,hW1⟩:=zE (w1.alloc (.cells #[.bool false,.int .i64 tm,.int .i64 td] 35));obtain⟨T,hT⟩:=zE w1.heap.size;have HK:Hid (Blk W1 T 35 [.bool false,.int .i64 tm,.int .i64 td]):=by show Blk _ _ _ _;rw[hW1,hT];exact Blk.new w1 _ _
 have HB1:Hid (Below w.heap.size w W1):=by show Below _ _ _;rw[hW1];exact hb1.alloc hb1.size _
 have hkc:=HK.out.cells;have HM1:=zH (must_yes W1);clear hb1 hc2
 go_upto_region 2 with fail
 simp only[←hW1,←hT]
 clear hW1 hT;go_wp2_with fail;refine HM1.out.mono ?_;rintro e w2 ⟨rfl,hw2⟩;have hw3:=hw2.symm;clear hw2;subst hw3;have hgc:=(HSS.out _ HB1.out).1;have hga:∀o,(W1.alloc o).cell? ⟨g,1,none⟩=some (.string nm):=fun o=>(HSS.out _ (HB1.out.alloc HB1.out.size o)).1
 have hka1:∀o,(W1.alloc o).cell? ⟨T,1,none⟩=some (.int .i64 tm):=fun o=>(HK.out.alloc o).cells 1
 have hka2:∀o,(W1.alloc o).cell? ⟨T,2,none⟩=some (.int .i64 td):=fun o=>(HK.out.alloc o).cells 2
 go_upto_region 3 with fail
 go_region;obtain⟨W3,hW3⟩:=zE ((W1.alloc (.cells #[.string nm,.int .i64 tm,.int .i64 td,.slice none 0 0] 79)).drew);obtain⟨C,hC⟩:=zE W1.heap.size;have HKC:Hid (Blk W3 C 79 [.string nm,.int .i64 tm,.int .i64 td,.slice none 0 0]):=by show Blk _ _ _ _;rw[hW3,hC];exact (Blk.new W1 _ _).drew
 have HB3:Hid (Below w.heap.size w W3):=by show Below _ _ _;rw[hW3];exact (HB1.out.alloc HB1.out.size _).drew
 have HCW:Hid (w.heap.size≤C):=by show _≤C;rw[hC];exact HB1.out.size
 have HOW:Hid (W3.ownsRow (C+1) 121 6 (.slice none 0 0) 0 (([]:List Bk).flatMap Bk.cells)):=World.ownsRow_nil _ _ _ _;obtain⟨m,hm⟩:=(HLK.out _ HB3.out).e.base.cut.2;have HSP:=zH (Tryz.strings_Split rest ⟨#[44,32]⟩ m W3 (by have:=HRB.out.size;omega) hm (by decide));have HPB:Hid (Lib.splitB ⟨#[44,32]⟩ 0 (Lib.countB rest ⟨#[44,32]⟩) rest=piecesB rest):=rfl;have HNB:Hid (Lib.countB rest ⟨#[44,32]⟩+1=brs.length):=HRB.out.n;rw[HPB.out] at HSP;have hn1:brs.length≤1000:=HRB.out.max;generalize hcb:Lib.countB rest ⟨#[44,32]⟩=cb at*;clear hcb hm hkc hgc hga hka1 hka2 HM HM1 HK HPB;go_wp2_with fail;simp only[←hW3,←hC]
 clear hW3 hC;refine HSP.out.mono ?_;rintro e w4 ⟨rfl,hw4⟩;obtain⟨G,hG⟩:=zE W3.heap.size
 have HG:Hid (Blk w4 G 9 (strs (piecesB rest))):=by
  show Blk _ _ _ _;rw[hw4,hG,strs_map];exact Blk.new W3 _ _
 have HA4:Below W3.heap.size W3 w4:=by rw[hw4];exact zB _ _
 have HB4:=zH (bstep HB3.out HA4);have HKC4:Hid (Blk w4 C 79 [.string nm,.int .i64 tm,.int .i64 td,.slice none 0 0]):=HKC.out.below HA4 HKC.out.lt;have HOW4:=zH (own_below HOW.out HA4);have HGC:Hid (G≠C):=by have h1:=HKC.out.lt;show G≠C;omega
 rw[HNB.out];simp only[←hG]
 clear hG hw4 HA4 HKC HOW HB3 HSP;have hcap:=hn1;go_wp2_with fail
 go_loopg [34] brs.length (fun q iv wr=>∃(i:Nat) (Av0:Option Addr) (cv0:Nat),i+q=brs.length∧iv=.int .i64 i∧Hid (Below w.heap.size w wr)∧Hid (Blk wr C 79 [.string nm,.int .i64 tm,.int .i64 td,.slice Av0 i cv0])∧Hid (wr.ownsRow (C+1) 121 6 (.slice Av0 i cv0) i ((brs.take i).flatMap Bk.cells))∧Hid (Blk wr G 9 (strs (piecesB rest))))
 case atStart=>exact⟨0,none,0,by omega,rfl,HB4,HKC4,HOW4,HG⟩
 case round=>
  obtain⟨i,Av0,cv0,hi,rfl,hbr,hkC,hoW,hkG⟩:=hrel;clear HB4 HKC4 HOW4 HG;by_cases hlt:i<brs.length
  ·have hlp:i<(piecesB rest).length:=by rw[HRB.out.len];exact hlt
   have hc:=strs_get hkG.out hlp;have hTK:(brs.take (i+1)).flatMap Bk.cells=(brs.take i).flatMap Bk.cells++brs[i].cells:=by rw[List.take_succ_eq_append_getElem hlt,List.flatMap_append];simp
   obtain⟨hps,x,y,hcut,hx1,hy1,hrx,hry⟩:=HRB.out.ok i hlt hlp;generalize (piecesB rest)[i]=p at*;generalize brs[i]=bk at*;obtain⟨⟨f1,f2,f3⟩,⟨r1,r2,r3⟩⟩:=bk;have HTK:=zH hTK;obtain⟨m,hm⟩:=(HLK.out _ hbr.out).e.base.cut.2;have HCT:=zH (Tryz.strings_Cut p ⟨#[32]⟩ m wr (by omega) hm);rw[show (⟨#[32]⟩:ByteArray).data.toList=[32] from rfl,hcut] at HCT;simp only at HCT hrx hry
   have HNX:Hid (∀W,Laid W→Calls Tryz.prog 92 #[.string ⟨x.toArray⟩] W fun e w'=>e=.returned (.agg #[.bool f1,.string f2,.string f3])∧Below W.heap.size W w'):=fun W hL=>by
    have k:=uNumber_any ⟨x.toArray⟩ W hL (by show x.toArray.size≤_;simp;omega) (by rw[hrx]);rw[hrx] at k;exact k
   have HNY:Hid (∀W,Laid W→Calls Tryz.prog 92 #[.string ⟨y.toArray⟩] W fun e w'=>e=.returned (.agg #[.bool r1,.string r2,.string r3])∧Below W.heap.size W w'):=fun W hL=>by
    have k:=uNumber_any ⟨y.toArray⟩ W hL (by show y.toArray.size≤_;simp;omega) (by rw[hry]);rw[hry] at k;exact k
   clear hTK hps hcut hm hx1 hy1 hrx hry;generalize (⟨x.toArray⟩:ByteArray)=xb at*;generalize (⟨y.toArray⟩:ByteArray)=yb at*;go_wp2_with fail;refine HCT.out.mono ?_;rintro e w5 ⟨rfl,nd,hw5⟩;obtain⟨W2,hW2⟩:=zE (wr.drewN nd);rw[←hW2] at hw5;have hw6:=hw5.symm;clear hw5;subst hw6;have HA2:Below wr.heap.size wr W2:=by rw[hW2];exact drewN_below _ _ _
   have HBW2:=zH (bstep hbr.out HA2);have HKC2:Hid (Blk W2 C 79 [.string nm,.int .i64 tm,.int .i64 td,.slice Av0 i cv0]):=hkC.out.below HA2 hkC.out.lt;have HOW2:=zH (own_below hoW.out HA2);have HG2:Hid (Blk W2 G 9 (strs (piecesB rest))):=hkG.out.below HA2 hkG.out.lt;have HN1:=zH (fun W' (hb:Below W2.heap.size W2 W')=>HNX.out W' (HLK.out _ (bstep HBW2.out hb)).e.base);have HN2:=zH (fun W' (hb:Below W2.heap.size W2 W')=>HNY.out W' (HLK.out _ (bstep HBW2.out hb)).e.base);have HM2:=zH (must_yes W2);clear hW2 HA2 hbr hkC hoW hkG HNX HNY HCT hc;go_wp2_with fail;refine HM2.out.mono ?_;rintro e w5 ⟨rfl,hw5⟩;have hw6:=hw5.symm;clear hw5;subst hw6
   go_upto_region 9 with fail
   refine wp_region_noPanic ?_;refine wp_region_held_drew (S:=(fun w'=>Below w.heap.size w w')) (by kernel_rfl) (bstep HBW2.out (drewN_below W2.heap.size W2 1)) (fun hHeld=>?_);refine tkZ 0 ?_;refine tkZ 2 ?_;refine tkZ 4 ?_;refine tkR2 1 3 (fun K hK=>?_) fun K hK=>?_
   ·have hc4:(W2).cell? ⟨C,3,none⟩=some (.slice Av0 i cv0):=(HKC2.out.below (drewN_below W2.heap.size W2 1) HKC2.out.lt).cells 3;go_simp;go_wp2_with fail;refine tkK hK (bstep HBW2.out (drewN_below W2.heap.size W2 1)) fun hHeld=>?_
    clear hK K;refine tkR 3 fun K hK=>?_
    go_simp;refine (HN1.out _ (drewN_below W2.heap.size W2 1)).mono ?_;rintro e w9 ⟨rfl,hb10⟩;have HB9:=zH (bstep (drewN_below W2.heap.size W2 1) hb10);go_wp2_with fail;refine tkK hK (bstep HBW2.out HB9.out) fun hHeld=>?_
    clear hK K;refine tkR 5 fun K hK=>?_
    go_simp;refine (HN2.out _ HB9.out).mono ?_;rintro e w10 ⟨rfl,hb10⟩;have HB10:=zH (bstep HB9.out hb10);go_wp2_with fail;refine tkK hK (bstep HBW2.out HB10.out) fun hHeld=>?_
    clear hK K;refine tkZ 6 ?_;refine tkR 7 fun K hK=>?_
    go_simp;go_wp2_with fail;refine tkK hK (bstep HBW2.out (HB10.out.alloc HB10.out.size _)) fun hHeld=>?_
    clear hK K;refine tkR 8 fun K hK=>?_
    refine step_push_at w10 #[.bool f1,.string f2,.string f3,.bool r1,.string r2,.string r3] (by rfl) _ _ 77 (by rfl) (C+1) 121 (.agg #[.bool false,.string ⟨#[]⟩,.string ⟨#[]⟩,.bool false,.string ⟨#[]⟩,.string ⟨#[]⟩]) 6 80 1 Tryz.underlying77 info_brk rfl (by decide) (.slice Av0 i cv0) i ((brs.take i).flatMap Bk.cells) (by rfl) (own_below HOW2.out HB10.out) (by rfl) rfl ?_ ?_ ?_ ?_ ?_
    any_goals first|(unfold maxLen;omega)|omega
    ·intro u hu;simp only[List.mem_cons,List.not_mem_nil,or_false] at hu;rcases hu with rfl|rfl|rfl|rfl|rfl|rfl<;>rfl
    ·have h1:=HKC2.out.lt;have h2:=HB10.out.size;omega
    intro v' w11 hown hgr _;obtain⟨Av,cv,rfl,_⟩:=own_rd hown;have hkc:=(HKC2.out.below HB10.out HKC2.out.lt)
    have HTF:=zH (TF.grown (own_below HOW2.out HB10.out) hgr);have HK11:=zH (HTF.out.blk hkc (by decide));have HB11:Hid (Below w.heap.size w w11):=(bstep HBW2.out HB10.out).grown hgr (by have h1:=HBW2.out.size;have h2:=HB10.out.size;omega) (fun k hk=>by have h1:=((own_below HOW2.out HB10.out).lt k hk).1;have h2:=HCW.out;omega);have HG11:=zH (HTF.out.blk (HG2.out.below HB10.out HG2.out.lt) (by decide));have HO11:=zH hown;clear hown hgr hkc;refine tkK hK (HB11.out) fun hHeld=>?_
    clear hK K;refine tkZ 9 ?_;refine tkR 10 fun K hK=>?_
    have hkc:=HK11.out.cells;have hkf:=HK11.out.froz;go_simp;go_wp2_with fail;refine tkK hK (HB11.out.setCell (p:=⟨C,3,none⟩) HCW.out _) fun hHeld=>?_
    clear hK K;refine wpAnyH_done (by kernel_rfl) ?_ _;refine NoPanic.normal ?_;go_wp2
    go_roundg (brs.length-(i+1))
    case measure=>omega
    case rel=>exact⟨i+1,Av,cv,by omega,by go_num,HB11.out.setCell (p:=⟨C,3,none⟩) HCW.out _,HK11.out.set 3 _,(by show World.ownsRow _ _ _ _ _ _ _;rw[HTK.out];exact own_set HO11.out 3 _),HG11.out.other (p:=⟨C,3,none⟩) HGC.out _⟩
   ·go_simp;refine (HN1.out _ (drewN_below W2.heap.size W2 1)).mono ?_;rintro e w9 ⟨rfl,hb10⟩;have HB9:=zH (bstep (drewN_below W2.heap.size W2 1) hb10);go_wp2_with fail;refine tkK hK (bstep HBW2.out HB9.out) fun hHeld=>?_
    clear hK K;refine tkR2 1 5 (fun K hK=>?_) fun K hK=>?_
    ·have hc4:(w9).cell? ⟨C,3,none⟩=some (.slice Av0 i cv0):=(HKC2.out.below HB9.out HKC2.out.lt).cells 3;go_simp;go_wp2_with fail;refine tkK hK (bstep HBW2.out HB9.out) fun hHeld=>?_
     clear hK K;refine tkR 5 fun K hK=>?_
     go_simp;refine (HN2.out _ HB9.out).mono ?_;rintro e w10 ⟨rfl,hb10⟩;have HB10:=zH (bstep HB9.out hb10);go_wp2_with fail;refine tkK hK (bstep HBW2.out HB10.out) fun hHeld=>?_
     clear hK K;refine tkZ 6 ?_;refine tkR 7 fun K hK=>?_
     go_simp;go_wp2_with fail;refine tkK hK (bstep HBW2.out (HB10.out.alloc HB10.out.size _)) fun hHeld=>?_
     clear hK K;refine tkR 8 fun K hK=>?_
     refine step_push_at w10 #[.bool f1,.string f2,.string f3,.bool r1,.string r2,.string r3] (by rfl) _ _ 77 (by rfl) (C+1) 121 (.agg #[.bool false,.string ⟨#[]⟩,.string ⟨#[]⟩,.bool false,.string ⟨#[]⟩,.string ⟨#[]⟩]) 6 80 1 Tryz.underlying77 info_brk rfl (by decide) (.slice Av0 i cv0) i ((brs.take i).flatMap Bk.cells) (by rfl) (own_below HOW2.out HB10.out) (by rfl) rfl ?_ ?_ ?_ ?_ ?_
     any_goals first|(unfold maxLen;omega)|omega
     ·intro u hu;simp only[List.mem_cons,List.not_mem_nil,or_false] at hu;rcases hu with rfl|rfl|rfl|rfl|rfl|rfl<;>rfl
     ·have h1:=HKC2.out.lt;have h2:=HB10.out.size;omega
     intro v' w11 hown hgr _;obtain⟨Av,cv,rfl,_⟩:=own_rd hown;have hkc:=(HKC2.out.below HB10.out HKC2.out.lt)
     have HTF:=zH (TF.grown (own_below HOW2.out HB10.out) hgr);have HK11:=zH (HTF.out.blk hkc (by decide));have HB11:Hid (Below w.heap.size w w11):=(bstep HBW2.out HB10.out).grown hgr (by have h1:=HBW2.out.size;have h2:=HB10.out.size;omega) (fun k hk=>by have h1:=((own_below HOW2.out HB10.out).lt k hk).1;have h2:=HCW.out;omega);have HG11:=zH (HTF.out.blk (HG2.out.below HB10.out HG2.out.lt) (by decide));have HO11:=zH hown;clear hown hgr hkc;refine tkK hK (HB11.out) fun hHeld=>?_
     clear hK K;refine tkZ 9 ?_;refine tkR 10 fun K hK=>?_
     have hkc:=HK11.out.cells;have hkf:=HK11.out.froz;go_simp;go_wp2_with fail;refine tkK hK (HB11.out.setCell (p:=⟨C,3,none⟩) HCW.out _) fun hHeld=>?_
     clear hK K;refine wpAnyH_done (by kernel_rfl) ?_ _;refine NoPanic.normal ?_;go_wp2
     go_roundg (brs.length-(i+1))
     case measure=>omega
     case rel=>exact⟨i+1,Av,cv,by omega,by go_num,HB11.out.setCell (p:=⟨C,3,none⟩) HCW.out _,HK11.out.set 3 _,(by show World.ownsRow _ _ _ _ _ _ _;rw[HTK.out];exact own_set HO11.out 3 _),HG11.out.other (p:=⟨C,3,none⟩) HGC.out _⟩
    ·go_simp;refine (HN2.out _ HB9.out).mono ?_;rintro e w10 ⟨rfl,hb10⟩;have HB10:=zH (bstep HB9.out hb10);go_wp2_with fail;refine tkK hK (bstep HBW2.out HB10.out) fun hHeld=>?_
     clear hK K;refine tkZ 6 ?_;refine tkR2 1 7 (fun K hK=>?_) fun K hK=>?_
     ·have hc4:(w10).cell? ⟨C,3,none⟩=some (.slice Av0 i cv0):=(HKC2.out.below HB10.out HKC2.out.lt).cells 3;go_simp;go_wp2_with fail;refine tkK hK (bstep HBW2.out HB10.out) fun hHeld=>?_
      clear hK K;refine tkR 7 fun K hK=>?_
      go_simp;go_wp2_with fail;refine tkK hK (bstep HBW2.out (HB10.out.alloc HB10.out.size _)) fun hHeld=>?_
      clear hK K;refine tkR 8 fun K hK=>?_
      refine step_push_at w10 #[.bool f1,.string f2,.string f3,.bool r1,.string r2,.string r3] (by rfl) _ _ 77 (by rfl) (C+1) 121 (.agg #[.bool false,.string ⟨#[]⟩,.string ⟨#[]⟩,.bool false,.string ⟨#[]⟩,.string ⟨#[]⟩]) 6 80 1 Tryz.underlying77 info_brk rfl (by decide) (.slice Av0 i cv0) i ((brs.take i).flatMap Bk.cells) (by rfl) (own_below HOW2.out HB10.out) (by rfl) rfl ?_ ?_ ?_ ?_ ?_
      any_goals first|(unfold maxLen;omega)|omega
      ·intro u hu;simp only[List.mem_cons,List.not_mem_nil,or_false] at hu;rcases hu with rfl|rfl|rfl|rfl|rfl|rfl<;>rfl
      ·have h1:=HKC2.out.lt;have h2:=HB10.out.size;omega
      intro v' w11 hown hgr _;obtain⟨Av,cv,rfl,_⟩:=own_rd hown;have hkc:=(HKC2.out.below HB10.out HKC2.out.lt)
      have HTF:=zH (TF.grown (own_below HOW2.out HB10.out) hgr);have HK11:=zH (HTF.out.blk hkc (by decide));have HB11:Hid (Below w.heap.size w w11):=(bstep HBW2.out HB10.out).grown hgr (by have h1:=HBW2.out.size;have h2:=HB10.out.size;omega) (fun k hk=>by have h1:=((own_below HOW2.out HB10.out).lt k hk).1;have h2:=HCW.out;omega);have HG11:=zH (HTF.out.blk (HG2.out.below HB10.out HG2.out.lt) (by decide));have HO11:=zH hown;clear hown hgr hkc;refine tkK hK (HB11.out) fun hHeld=>?_
      clear hK K;refine tkZ 9 ?_;refine tkR 10 fun K hK=>?_
      have hkc:=HK11.out.cells;have hkf:=HK11.out.froz;go_simp;go_wp2_with fail;refine tkK hK (HB11.out.setCell (p:=⟨C,3,none⟩) HCW.out _) fun hHeld=>?_
      clear hK K;refine wpAnyH_done (by kernel_rfl) ?_ _;refine NoPanic.normal ?_;go_wp2
      go_roundg (brs.length-(i+1))
      case measure=>omega
      case rel=>exact⟨i+1,Av,cv,by omega,by go_num,HB11.out.setCell (p:=⟨C,3,none⟩) HCW.out _,HK11.out.set 3 _,(by show World.ownsRow _ _ _ _ _ _ _;rw[HTK.out];exact own_set HO11.out 3 _),HG11.out.other (p:=⟨C,3,none⟩) HGC.out _⟩
     ·go_simp;go_wp2_with fail;refine tkK hK (bstep HBW2.out (HB10.out.alloc HB10.out.size _)) fun hHeld=>?_
      clear hK K;refine tkR 1 fun K hK=>?_
      have hc4:(w10.alloc (.cells #[.bool f1,.string f2,.string f3,.bool r1,.string r2,.string r3] 121)).cell? ⟨C,3,none⟩=some (.slice Av0 i cv0):=(HKC2.out.below (HB10.out.alloc HB10.out.size (.cells #[.bool f1,.string f2,.string f3,.bool r1,.string r2,.string r3] 121)) HKC2.out.lt).cells 3;go_simp;go_wp2_with fail;refine tkK hK (bstep HBW2.out (HB10.out.alloc HB10.out.size (.cells #[.bool f1,.string f2,.string f3,.bool r1,.string r2,.string r3] 121))) fun hHeld=>?_
      clear hK K;refine tkR 8 fun K hK=>?_
      refine step_push_at w10 #[.bool f1,.string f2,.string f3,.bool r1,.string r2,.string r3] (by rfl) _ _ 77 (by rfl) (C+1) 121 (.agg #[.bool false,.string ⟨#[]⟩,.string ⟨#[]⟩,.bool false,.string ⟨#[]⟩,.string ⟨#[]⟩]) 6 80 1 Tryz.underlying77 info_brk rfl (by decide) (.slice Av0 i cv0) i ((brs.take i).flatMap Bk.cells) (by rfl) (own_below HOW2.out HB10.out) (by rfl) rfl ?_ ?_ ?_ ?_ ?_
      any_goals first|(unfold maxLen;omega)|omega
      ·intro u hu;simp only[List.mem_cons,List.not_mem_nil,or_false] at hu;rcases hu with rfl|rfl|rfl|rfl|rfl|rfl<;>rfl
      ·have h1:=HKC2.out.lt;have h2:=HB10.out.size;omega
      intro v' w11 hown hgr _;obtain⟨Av,cv,rfl,_⟩:=own_rd hown;have hkc:=(HKC2.out.below HB10.out HKC2.out.lt)
      have HTF:=zH (TF.grown (own_below HOW2.out HB10.out) hgr);have HK11:=zH (HTF.out.blk hkc (by decide));have HB11:Hid (Below w.heap.size w w11):=(bstep HBW2.out HB10.out).grown hgr (by have h1:=HBW2.out.size;have h2:=HB10.out.size;omega) (fun k hk=>by have h1:=((own_below HOW2.out HB10.out).lt k hk).1;have h2:=HCW.out;omega);have HG11:=zH (HTF.out.blk (HG2.out.below HB10.out HG2.out.lt) (by decide));have HO11:=zH hown;clear hown hgr hkc;refine tkK hK (HB11.out) fun hHeld=>?_
      clear hK K;refine tkZ 9 ?_;refine tkR 10 fun K hK=>?_
      have hkc:=HK11.out.cells;have hkf:=HK11.out.froz;go_simp;go_wp2_with fail;refine tkK hK (HB11.out.setCell (p:=⟨C,3,none⟩) HCW.out _) fun hHeld=>?_
      clear hK K;refine wpAnyH_done (by kernel_rfl) ?_ _;refine NoPanic.normal ?_;go_wp2
      go_roundg (brs.length-(i+1))
      case measure=>omega
      case rel=>exact⟨i+1,Av,cv,by omega,by go_num,HB11.out.setCell (p:=⟨C,3,none⟩) HCW.out _,HK11.out.set 3 _,(by show World.ownsRow _ _ _ _ _ _ _;rw[HTK.out];exact own_set HO11.out 3 _),HG11.out.other (p:=⟨C,3,none⟩) HGC.out _⟩
  ·have hin:i=brs.length:=by omega
   have HO:=hoW;rw[hin,List.take_of_length_le (Nat.le_refl _)] at HO;rw[hin] at hkC;have HP:=zH (HPT.out.below hbr.out);have HRC:Hid (R<C):=by have h1:=HPT.out.blk.lt;have h2:=HCW.out;show R<C;omega
   have HSN:Hid (∀g,sv.ownBlock=some g→g<w.heap.size):=fun g hg=>(HPT.out.s.lt g hg).2
   have HS11:Hid (∀W',Below wr.heap.size wr W'→W'.cell? ⟨C,0,none⟩=some (.string nm)∧W'.cell? ⟨C,1,none⟩=some (.int .i64 tm)∧W'.cell? ⟨C,2,none⟩=some (.int .i64 td)∧W'.cell? ⟨C,3,none⟩=some (.slice Av0 brs.length cv0)):=fun W' hb=>⟨(hkC.out.below hb hkC.out.lt).cells 0,(hkC.out.below hb hkC.out.lt).cells 1,(hkC.out.below hb hkC.out.lt).cells 2,(hkC.out.below hb hkC.out.lt).cells 3⟩
   have HBR:=zH hbr.out;clear hbr hoW hkG hin
   go_upto_region 11 with fail
   refine wp_region_noPanic ?_;refine wp_region_held_drew (S:=(fun w'=>w'.cell? ⟨C,0,none⟩=some (.string nm)∧w'.cell? ⟨C,1,none⟩=some (.int .i64 tm)∧w'.cell? ⟨C,2,none⟩=some (.int .i64 td)∧w'.cell? ⟨C,3,none⟩=some (.slice Av0 brs.length cv0))) (by kernel_rfl) (HS11.out _ (drewN_below wr.heap.size wr 1)) (fun hHeld=>?_);refine tkZ 0 ?_;refine tkZ 1 ?_;refine tkZ 2 ?_;refine tkZ 3 ?_;refine tkZ 5 ?_;refine tkR2 4 6 (fun K hK=>?_) fun K hK=>?_
   ·have hc4:(wr).cell? ⟨R,1,none⟩=some sv:=(HP.out.below (Below.refl _ _)).blk.cells 1;go_simp;go_wp2_with fail;refine tkK hK (HS11.out _ (drewN_below wr.heap.size wr 1)) fun hHeld=>?_
    clear hK K;refine tkR 6 fun K hK=>?_
    go_simp;go_wp2_with fail;refine tkK hK (HS11.out _ ((drewN_below wr.heap.size wr 1).alloc (drewN_below wr.heap.size wr 1).size _)) fun hHeld=>?_
    clear hK K;refine tkR 7 fun K hK=>?_
    refine step_push_at wr.drew #[.string nm,.int .i64 tm,.int .i64 td,.slice Av0 brs.length cv0] (by rfl) _ _ 25 (by rfl) (R+1) 79 (.agg #[.string ⟨#[]⟩,.int .i64 0,.int .i64 0,.slice none 0 0]) 4 56 1 Tryz.underlying25 info_sch rfl (by decide) sv ss.length (ss.flatMap scCells) (by rfl) HP.out.s (by rfl) rfl ?_ ?_ ?_ ?_ ?_
    any_goals first|(unfold maxLen;omega)|omega
    ·intro u hu;simp only[List.mem_cons,List.not_mem_nil,or_false] at hu;rcases hu with rfl|rfl|rfl|rfl<;>rfl
    ·have h1:=HP.out.blk.lt;show R+1≤wr.heap.size;omega
    intro v' w11 hown hgr _;obtain⟨Av,cv,rfl,_⟩:=own_rd hown;have HQ:=zH ((HP.out.below (drewN_below wr.heap.size wr 1)).pushS (⟨nm,tm,td,brs⟩,⟨Av0,brs.length,cv0⟩) ⟨rfl,own_lower HO.out (by have:=HRC.out;omega)⟩ hown hgr);have HKR:Hid (Blk w11 R 28 [fv,sv,pv]):=(hgr.block R HP.out.blk.lt (fun e=>by have h1:=(HP.out.s.lt R e.symm).1;omega)).trans HP.out.blk;have HKC:Hid (Blk w11 C 79 [.string nm,.int .i64 tm,.int .i64 td,.slice Av0 brs.length cv0]):=(hgr.block C hkC.out.lt (fun e=>by have h1:=HSN.out C e.symm;have h2:=HCW.out;omega)).trans hkC.out;have HFR:Hid (FR R w _):=FR.grown (i:=1) (u:=.slice Av (ss.length+1) cv) (bstep HBR.out (drewN_below wr.heap.size wr 1)) (HP.out.below (drewN_below wr.heap.size wr 1)).s (.inr (.inl rfl)) hgr;clear hown hgr;refine tkK hK (⟨HKC.out.cells 0,HKC.out.cells 1,HKC.out.cells 2,HKC.out.cells 3⟩) fun hHeld=>?_
    clear hK K;refine tkZ 8 ?_;refine tkZ 9 ?_;refine tkR 10 fun K hK=>?_
    have hkc:=HKR.out.cells;have hkf:=HKR.out.froz;go_simp;go_wp2_with fail;refine tkK hK (⟨(HKC.out.other (p:=⟨R,1,none⟩) (by have:=HRC.out;show C≠R;omega) _).cells 0,(HKC.out.other (p:=⟨R,1,none⟩) (by have:=HRC.out;show C≠R;omega) _).cells 1,(HKC.out.other (p:=⟨R,1,none⟩) (by have:=HRC.out;show C≠R;omega) _).cells 2,(HKC.out.other (p:=⟨R,1,none⟩) (by have:=HRC.out;show C≠R;omega) _).cells 3⟩) fun hHeld=>?_
    clear hK K;refine wpAnyH_done (by kernel_rfl) ?_ _;refine NoPanic.normal ?_;go_wp2;go_end0;exact⟨rfl,⟨_,_,HQ.out⟩,HFR.out⟩
   ·go_simp;go_wp2_with fail;refine tkK hK (HS11.out _ ((drewN_below wr.heap.size wr 1).alloc (drewN_below wr.heap.size wr 1).size _)) fun hHeld=>?_
    clear hK K;refine tkR 4 fun K hK=>?_
    have hc4:(wr.alloc (.cells #[.string nm,.int .i64 tm,.int .i64 td,.slice Av0 brs.length cv0] 79)).cell? ⟨R,1,none⟩=some sv:=(HP.out.below ((Below.refl _ _).alloc (Nat.le_refl _) (.cells #[.string nm,.int .i64 tm,.int .i64 td,.slice Av0 brs.length cv0] 79))).blk.cells 1;go_simp;go_wp2_with fail;refine tkK hK (HS11.out _ ((drewN_below wr.heap.size wr 1).alloc (drewN_below wr.heap.size wr 1).size (.cells #[.string nm,.int .i64 tm,.int .i64 td,.slice Av0 brs.length cv0] 79))) fun hHeld=>?_
    clear hK K;refine tkR 7 fun K hK=>?_
    refine step_push_at wr.drew #[.string nm,.int .i64 tm,.int .i64 td,.slice Av0 brs.length cv0] (by rfl) _ _ 25 (by rfl) (R+1) 79 (.agg #[.string ⟨#[]⟩,.int .i64 0,.int .i64 0,.slice none 0 0]) 4 56 1 Tryz.underlying25 info_sch rfl (by decide) sv ss.length (ss.flatMap scCells) (by rfl) HP.out.s (by rfl) rfl ?_ ?_ ?_ ?_ ?_
    any_goals first|(unfold maxLen;omega)|omega
    ·intro u hu;simp only[List.mem_cons,List.not_mem_nil,or_false] at hu;rcases hu with rfl|rfl|rfl|rfl<;>rfl
    ·have h1:=HP.out.blk.lt;show R+1≤wr.heap.size;omega
    intro v' w11 hown hgr _;obtain⟨Av,cv,rfl,_⟩:=own_rd hown;have HQ:=zH ((HP.out.below (drewN_below wr.heap.size wr 1)).pushS (⟨nm,tm,td,brs⟩,⟨Av0,brs.length,cv0⟩) ⟨rfl,own_lower HO.out (by have:=HRC.out;omega)⟩ hown hgr);have HKR:Hid (Blk w11 R 28 [fv,sv,pv]):=(hgr.block R HP.out.blk.lt (fun e=>by have h1:=(HP.out.s.lt R e.symm).1;omega)).trans HP.out.blk;have HKC:Hid (Blk w11 C 79 [.string nm,.int .i64 tm,.int .i64 td,.slice Av0 brs.length cv0]):=(hgr.block C hkC.out.lt (fun e=>by have h1:=HSN.out C e.symm;have h2:=HCW.out;omega)).trans hkC.out;have HFR:Hid (FR R w _):=FR.grown (i:=1) (u:=.slice Av (ss.length+1) cv) (bstep HBR.out (drewN_below wr.heap.size wr 1)) (HP.out.below (drewN_below wr.heap.size wr 1)).s (.inr (.inl rfl)) hgr;clear hown hgr;refine tkK hK (⟨HKC.out.cells 0,HKC.out.cells 1,HKC.out.cells 2,HKC.out.cells 3⟩) fun hHeld=>?_
    clear hK K;refine tkZ 8 ?_;refine tkZ 9 ?_;refine tkR 10 fun K hK=>?_
    have hkc:=HKR.out.cells;have hkf:=HKR.out.froz;go_simp;go_wp2_with fail;refine tkK hK (⟨(HKC.out.other (p:=⟨R,1,none⟩) (by have:=HRC.out;show C≠R;omega) _).cells 0,(HKC.out.other (p:=⟨R,1,none⟩) (by have:=HRC.out;show C≠R;omega) _).cells 1,(HKC.out.other (p:=⟨R,1,none⟩) (by have:=HRC.out;show C≠R;omega) _).cells 2,(HKC.out.other (p:=⟨R,1,none⟩) (by have:=HRC.out;show C≠R;omega) _).cells 3⟩) fun hHeld=>?_
    clear hK K;refine wpAnyH_done (by kernel_rfl) ?_ _;refine NoPanic.normal ?_;go_wp2;go_end0;exact⟨rfl,⟨_,_,HQ.out⟩,HFR.out⟩
theorem info_prov:(Tryz.prog.info? 41).map (fun i=>(i.zero,i.size,i.bytes))=some (some (.agg #[.string ⟨#[]⟩,.bool false,.int .i64 0,.int .i64 0,.slice none 0 0,.bool false,.bool false,.string ⟨#[]⟩,.string ⟨#[]⟩,.bool false,.string ⟨#[]⟩,.string ⟨#[]⟩]),12,152):=by kernel_rfl
def sCharge:ByteArray:=⟨#[99,104,97,114,103,101]⟩
def sStep:ByteArray:=⟨#[115,116,101,112]⟩
def sCap1:ByteArray:=⟨#[99,97,112]⟩
def provTl (ch sp:Bool) (x y:ByteArray):List ByteArray:=(if ch then [sCharge] else [])++(if sp then [sStep,x,sCap1,y] else [])
theorem uProv_any (w0 w:World) (R g:Nat) (l:Lw) (ss:List (Sc × Hd)) (ps:List (Pv × Hd)) (fv sv pv:Value) (wd nm s rest x y:ByteArray) (t:Ty) (ch sp:Bool) (st cp:Ra) (body:List Nd) (h:PT w0 w R l ss ps fv sv pv) (hL:LaidK w) (ht:tyIn t=true) (hs:s=tyText t) (hn:ps.length≤1000)
  (hr:rest.data.toList.length≤1048576) (hb:parseE rest.data.toList=(body,0)) (hx:sp=true→x.size≤1048576∧y.size≤1048576∧ratParse x=(st,true)∧ratParse y=(cp,true)) (hz:sp=false→st=zR∧cp=zR) (m:Nat) (hm:m=(provTl ch sp x y).length) (hg:Blk w g 9 (strs (wd::nm::s::provTl ch sp x y))):
  Calls Tryz.prog 93 #[.pointer (some ⟨R,0,none⟩),.slice (some ⟨g,1,none⟩) (m+2:Nat) (m+2:Nat),.string rest] w fun e w'=>e=.returned (.tuple #[])∧(∃v' hd,PT w0 w' R ⟨l.facts,l.schs,l.provs++[⟨nm,t,ch,st,cp,body⟩]⟩ ss (ps++[(⟨nm,t,ch,st,cp,body⟩,hd)]) fv sv v')∧FR R w w':=by
 have HT:=zH (fun W (hb:Below w.heap.size w W)=>hs ▸ uTypeOf_any t W (hL.below hb) ht);have HPT:=zH h;have HLK:Hid (∀W,Below w.heap.size w W→LaidK W):=fun W hb=>hL.below hb
 have HG:Hid (∀W,Below w.heap.size w W→Blk W g 9 (strs (wd::nm::s::provTl ch sp x y))):=fun W hb=>hg.below hb hg.lt
 have HSS:Hid (∀W,Below w.heap.size w W→W.cell? ⟨g,1,none⟩=some (.string nm)∧W.cell? ⟨g,2,none⟩=some (.string s)):=fun W hb=>⟨(HG.out W hb).cells 1,(HG.out W hb).cells 2⟩
 have HX:=zH hx
 have HPA:Hid (∀W,Below w.heap.size w W→Calls Tryz.prog 94 #[.string rest] W (RetEsF (body,0) W)):=fun W hb'=>by
  have k:=eParse_new rest.data.toList body W (hL.below hb').e hr hb;exact k
 have HM:=zH must_yes;have HRW:Hid (R<w.heap.size):=h.blk.lt;have HSN:Hid (∀k,pv.ownBlock=some k→k<w.heap.size):=fun k hk=>(h.p.lt k hk).2
 obtain⟨tt,tm,td⟩:=t;obtain⟨p1,p2,p3⟩:=st;obtain⟨q1,q2,q3⟩:=cp;have HZ:=zH hz;have HMM:=zH hm;unfold Ty.v at HT;simp only at HT;have hm0:(0:Int)<(m:Int)+2:=by omega
 have hm1:(1:Int)<(m:Int)+2:=by omega
 have hm2d:decide ((2:Int)≤(m:Int)+2)=true:=decide_eq_true (by omega);clear h hL ht hs hg hx hr hb hz hm;go_enter Tryz.func93,Tryz.ntmps93;go_wp2_with fail;refine (HM.out w).mono ?_;rintro e w1 ⟨rfl,hw1⟩;have hw2:=hw1.symm;clear hw1;subst hw2
 go_upto_region 1 with fail
 go_cut [6] from 13 to 20 (fun v wc=>∃C,v=.pointer (some ⟨C,0,none⟩)∧Hid (w.heap.size≤C)∧Hid (Blk wc C 41 [.string nm,.bool tt,.int .i64 tm,.int .i64 td,.slice none 0 0,.bool false,.bool false,.string ⟨#[]⟩,.string ⟨#[]⟩,.bool false,.string ⟨#[]⟩,.string ⟨#[]⟩])∧Hid (Below w.heap.size w wc))
 case first=>
  refine wp_region_noPanic ?_;refine wp_region_held_drew (S:=(fun w'=>w'.cell? ⟨g,1,none⟩=some (.string nm)∧w'.cell? ⟨g,2,none⟩=some (.string s))) (by kernel_rfl) (HSS.out _ (Below.drew (Below.refl _ w))) (fun hHeld=>?_);refine tkZ 0 ?_;refine tkZ 1 ?_;refine tkZ 2 ?_;refine tkZ 3 ?_;refine tkZ 4 ?_;refine tkZ 5 ?_;refine tkR2 6 8 (fun K hK=>?_) fun K hK=>?_
  ·go_simp;refine (HT.out _ (drewN_below w.heap.size w 1)).mono ?_;rintro e w10 ⟨rfl,hb10⟩;have HB10:=zH (bstep (drewN_below w.heap.size w 1) hb10);go_wp2_with fail;refine tkK hK (HSS.out _ HB10.out) fun hHeld=>?_
   clear hK K;refine tkZ 7 ?_;refine tkR 8 fun K hK=>?_
   go_simp;go_wp2_with fail;refine tkK hK (HSS.out _ (HB10.out.alloc HB10.out.size _)) fun hHeld=>?_
   clear hK K;obtain⟨W1,hW1⟩:=zE (w10.alloc (.cells #[.string ⟨#[]⟩,.bool false,.int .i64 0,.int .i64 0,.slice none 0 0,.bool false,.bool false,.string ⟨#[]⟩,.string ⟨#[]⟩,.bool false,.string ⟨#[]⟩,.string ⟨#[]⟩] 41));obtain⟨C,hC⟩:=zE w10.heap.size;have HKC:Hid (Blk W1 C 41 [.string ⟨#[]⟩,.bool false,.int .i64 0,.int .i64 0,.slice none 0 0,.bool false,.bool false,.string ⟨#[]⟩,.string ⟨#[]⟩,.bool false,.string ⟨#[]⟩,.string ⟨#[]⟩]):=by show Blk _ _ _ _;rw[hW1,hC];exact Blk.new w10 _ _
   have HB1:Hid (Below w.heap.size w W1):=by show Below _ _ _;rw[hW1];exact HB10.out.alloc HB10.out.size _
   have HCW:Hid (w.heap.size≤C):=by show _≤C;rw[hC];exact HB10.out.size
   simp only[←hW1,←hC]
   clear hW1 hC;refine tkR 9 fun K hK=>?_
   have hkc:=HKC.out.cells;have hkf:=HKC.out.froz;go_simp;go_wp2_with fail;refine tkK hK (HSS.out _ ((((((((((((HB1.out.setCell (p:=⟨C,0,none⟩) HCW.out _).setCell (p:=⟨C,1,none⟩) HCW.out _).setCell (p:=⟨C,2,none⟩) HCW.out _).setCell (p:=⟨C,3,none⟩) HCW.out _).setCell (p:=⟨C,4,none⟩) HCW.out _).setCell (p:=⟨C,5,none⟩) HCW.out _).setCell (p:=⟨C,6,none⟩) HCW.out _).setCell (p:=⟨C,7,none⟩) HCW.out _).setCell (p:=⟨C,8,none⟩) HCW.out _).setCell (p:=⟨C,9,none⟩) HCW.out _).setCell (p:=⟨C,10,none⟩) HCW.out _).setCell (p:=⟨C,11,none⟩) HCW.out _)) fun hHeld=>?_
   clear hK K;refine wpAnyH_done (by kernel_rfl) ?_ _;refine NoPanic.normal ?_;go_wp2
   go_meet
   case rel=>exact⟨C,rfl,HCW,((((((((((((HKC.out.set 0 (.string nm)).set 1 (.bool tt)).set 2 (.int .i64 tm)).set 3 (.int .i64 td)).set 4 (.slice none 0 0)).set 5 (.bool false)).set 6 (.bool false)).set 7 (.string ⟨#[]⟩)).set 8 (.string ⟨#[]⟩)).set 9 (.bool false)).set 10 (.string ⟨#[]⟩)).set 11 (.string ⟨#[]⟩)),((((((((((((HB1.out.setCell (p:=⟨C,0,none⟩) HCW.out _).setCell (p:=⟨C,1,none⟩) HCW.out _).setCell (p:=⟨C,2,none⟩) HCW.out _).setCell (p:=⟨C,3,none⟩) HCW.out _).setCell (p:=⟨C,4,none⟩) HCW.out _).setCell (p:=⟨C,5,none⟩) HCW.out _).setCell (p:=⟨C,6,none⟩) HCW.out _).setCell (p:=⟨C,7,none⟩) HCW.out _).setCell (p:=⟨C,8,none⟩) HCW.out _).setCell (p:=⟨C,9,none⟩) HCW.out _).setCell (p:=⟨C,10,none⟩) HCW.out _).setCell (p:=⟨C,11,none⟩) HCW.out _)⟩
  ·go_simp;go_wp2_with fail;refine tkK hK (HSS.out _ ((drewN_below w.heap.size w 1).alloc (drewN_below w.heap.size w 1).size (.cells #[.string ⟨#[]⟩,.bool false,.int .i64 0,.int .i64 0,.slice none 0 0,.bool false,.bool false,.string ⟨#[]⟩,.string ⟨#[]⟩,.bool false,.string ⟨#[]⟩,.string ⟨#[]⟩] 41))) fun hHeld=>?_
   clear hK K;refine tkR 6 fun K hK=>?_
   go_simp;refine (HT.out _ ((drewN_below w.heap.size w 1).alloc (drewN_below w.heap.size w 1).size (.cells #[.string ⟨#[]⟩,.bool false,.int .i64 0,.int .i64 0,.slice none 0 0,.bool false,.bool false,.string ⟨#[]⟩,.string ⟨#[]⟩,.bool false,.string ⟨#[]⟩,.string ⟨#[]⟩] 41))).mono ?_;rintro e w10 ⟨rfl,hb10⟩;have HB10:=zH (bstep ((drewN_below w.heap.size w 1).alloc (drewN_below w.heap.size w 1).size (.cells #[.string ⟨#[]⟩,.bool false,.int .i64 0,.int .i64 0,.slice none 0 0,.bool false,.bool false,.string ⟨#[]⟩,.string ⟨#[]⟩,.bool false,.string ⟨#[]⟩,.string ⟨#[]⟩] 41)) hb10);go_wp2_with fail;refine tkK hK (HSS.out _ HB10.out) fun hHeld=>?_
   clear hK K;refine tkZ 7 ?_;obtain⟨C,hC⟩:=zE w.heap.size;have HKC:Hid (Blk w10 C 41 [.string ⟨#[]⟩,.bool false,.int .i64 0,.int .i64 0,.slice none 0 0,.bool false,.bool false,.string ⟨#[]⟩,.string ⟨#[]⟩,.bool false,.string ⟨#[]⟩,.string ⟨#[]⟩]):=by show Blk _ _ _ _;rw[hC];exact (Blk.new (w.drewN 1) 41 #[.string ⟨#[]⟩,.bool false,.int .i64 0,.int .i64 0,.slice none 0 0,.bool false,.bool false,.string ⟨#[]⟩,.string ⟨#[]⟩,.bool false,.string ⟨#[]⟩,.string ⟨#[]⟩]).below hb10 (Blk.new (w.drewN 1) 41 #[.string ⟨#[]⟩,.bool false,.int .i64 0,.int .i64 0,.slice none 0 0,.bool false,.bool false,.string ⟨#[]⟩,.string ⟨#[]⟩,.bool false,.string ⟨#[]⟩,.string ⟨#[]⟩]).lt
   have HCW:Hid (w.heap.size≤C):=Nat.le_of_eq hC.symm;simp only[←hC]
   clear hC;refine tkR 9 fun K hK=>?_
   have hkc:=HKC.out.cells;have hkf:=HKC.out.froz;go_simp;go_wp2_with fail;refine tkK hK (HSS.out _ ((((((((((((HB10.out.setCell (p:=⟨C,0,none⟩) HCW.out _).setCell (p:=⟨C,1,none⟩) HCW.out _).setCell (p:=⟨C,2,none⟩) HCW.out _).setCell (p:=⟨C,3,none⟩) HCW.out _).setCell (p:=⟨C,4,none⟩) HCW.out _).setCell (p:=⟨C,5,none⟩) HCW.out _).setCell (p:=⟨C,6,none⟩) HCW.out _).setCell (p:=⟨C,7,none⟩) HCW.out _).setCell (p:=⟨C,8,none⟩) HCW.out _).setCell (p:=⟨C,9,none⟩) HCW.out _).setCell (p:=⟨C,10,none⟩) HCW.out _).setCell (p:=⟨C,11,none⟩) HCW.out _)) fun hHeld=>?_
   clear hK K;refine wpAnyH_done (by kernel_rfl) ?_ _;refine NoPanic.normal ?_;go_wp2
   go_meet
   case rel=>exact⟨C,rfl,HCW,((((((((((((HKC.out.set 0 (.string nm)).set 1 (.bool tt)).set 2 (.int .i64 tm)).set 3 (.int .i64 td)).set 4 (.slice none 0 0)).set 5 (.bool false)).set 6 (.bool false)).set 7 (.string ⟨#[]⟩)).set 8 (.string ⟨#[]⟩)).set 9 (.bool false)).set 10 (.string ⟨#[]⟩)).set 11 (.string ⟨#[]⟩)),((((((((((((HB10.out.setCell (p:=⟨C,0,none⟩) HCW.out _).setCell (p:=⟨C,1,none⟩) HCW.out _).setCell (p:=⟨C,2,none⟩) HCW.out _).setCell (p:=⟨C,3,none⟩) HCW.out _).setCell (p:=⟨C,4,none⟩) HCW.out _).setCell (p:=⟨C,5,none⟩) HCW.out _).setCell (p:=⟨C,6,none⟩) HCW.out _).setCell (p:=⟨C,7,none⟩) HCW.out _).setCell (p:=⟨C,8,none⟩) HCW.out _).setCell (p:=⟨C,9,none⟩) HCW.out _).setCell (p:=⟨C,10,none⟩) HCW.out _).setCell (p:=⟨C,11,none⟩) HCW.out _)⟩
 case rest=>
  obtain⟨C,rfl,HCW,HKC1,HB1⟩:=hcut
  go_upto_region 2 with fail
  go_cut [1] from 21 to 22 (fun v w'=>∃A2,v=.slice A2 (m:Nat) (m:Nat)∧Hid (m≠0→A2=some ⟨g,3,none⟩)∧w'=wc)
  case first=>
   rcases Nat.eq_zero_or_pos m with h0|h0
   ·subst h0;go_wp2
    go_meet
    case rel=>exact⟨_,rfl,fun h=>absurd rfl h,rfl⟩
   ·obtain⟨k,rfl⟩:∃k,m=k+1:=⟨m-1,by omega⟩
    go_wp2
    go_meet
    case rel=>exact⟨_,rfl,fun h=>rfl,rfl⟩
  case rest=>
   obtain⟨A2,rfl,HA2,rfl⟩:=hcut
   go_upto_region 3 with fail
   go_cut [31] from 23 to 31 (fun v w'=>v=.bool ch∧w'=wc)
   case first=>
    have h3:=(HG.out _ HB1.out).cells 3;cases ch<;>cases sp
    ·obtain rfl:m=0:=HMM.out;go_wp2
     go_meet
     case rel=>exact⟨rfl,rfl⟩
    ·obtain rfl:m=4:=HMM.out;obtain rfl:=HA2.out (by decide);replace h3:wc.cell? ⟨g,3,none⟩=some (.string ⟨#[115,116,101,112]⟩):=h3;go_wp2
     go_meet
     case rel=>exact⟨rfl,rfl⟩
    ·obtain rfl:m=1:=HMM.out;obtain rfl:=HA2.out (by decide);replace h3:wc.cell? ⟨g,3,none⟩=some (.string ⟨#[99,104,97,114,103,101]⟩):=h3;go_wp2
     go_meet
     case rel=>exact⟨rfl,rfl⟩
    ·obtain rfl:m=5:=HMM.out;obtain rfl:=HA2.out (by decide);replace h3:wc.cell? ⟨g,3,none⟩=some (.string ⟨#[99,104,97,114,103,101]⟩):=h3;go_wp2
     go_meet
     case rel=>exact⟨rfl,rfl⟩
   case rest=>
    obtain⟨rfl,rfl⟩:=hcut
    go_upto_if 31 with fail
    go_cut [1] from 32 to 34 (fun v w'=>∃(A3:Option Addr) (q o3:Nat),v=.slice A3 q q∧Hid (q=if sp then 4 else 0)∧Hid (o3=if ch then 4 else 3)∧Hid (sp=true→A3=some ⟨g,o3,none⟩)∧Hid (Blk w' C 41 [.string nm,.bool tt,.int .i64 tm,.int .i64 td,.slice none 0 0,.bool ch,.bool false,.string ⟨#[]⟩,.string ⟨#[]⟩,.bool false,.string ⟨#[]⟩,.string ⟨#[]⟩])∧Hid (Below w.heap.size w w'))
    case first=>
     cases ch
     ·go_wp2
      go_meet
      case rel=>
       refine⟨A2,m,3,rfl,?_,rfl,fun h=>HA2.out ?_,HKC1,HB1⟩
       ·show _=_;rw[HMM.out];cases sp<;>rfl
       ·subst h;rw[HMM.out];show (4:Nat)≠0;decide
     ·have hkc:=HKC1.out.cells;have hkf:=HKC1.out.froz;cases sp
      ·obtain rfl:m=1:=HMM.out;obtain rfl:=HA2.out (by decide)
       go_upto_region 4 with fail
       go_region;go_wp2
       go_meet
       case rel=>exact⟨_,0,4,rfl,rfl,rfl,(fun h=>by cases h),HKC1.out.set 5 _,(HB1.out.setCell (p:=⟨C,5,none⟩) HCW.out _).drew⟩
      ·obtain rfl:m=5:=HMM.out;obtain rfl:=HA2.out (by decide)
       go_upto_region 4 with fail
       go_region;go_wp2
       go_meet
       case rel=>exact⟨_,4,4,rfl,rfl,rfl,(fun _=>rfl),HKC1.out.set 5 _,(HB1.out.setCell (p:=⟨C,5,none⟩) HCW.out _).drew⟩
    case rest=>
     obtain⟨A3,q,o3,rfl,HQ4,HO3,HA3,HKC3,HB3⟩:=hcut;clear HKC1 HB1 HMM HA2
     go_upto_if 37 with fail
     go_cut [] from 38 to 63 (fun w'=>Hid (Blk w' C 41 [.string nm,.bool tt,.int .i64 tm,.int .i64 td,.slice none 0 0,.bool ch,.bool p1,.string p2,.string p3,.bool q1,.string q2,.string q3])∧Hid (Below w.heap.size w w'))
     case first=>
      cases sp
      ·obtain rfl:q=0:=HQ4.out;obtain⟨e1,e2⟩:=HZ.out rfl;injection e1 with e1 e3 e4;injection e2 with e2 e5 e6;subst e1 e2 e3 e4 e5 e6;go_wp2
       go_meet
       case rel=>exact⟨HKC3,HB3⟩
      ·obtain rfl:q=4:=HQ4.out;obtain rfl:=HA3.out rfl;obtain⟨hx1,hy1,hrx,hry⟩:=HX.out rfl
       have HC4:Hid (∀W,Below w.heap.size w W→W.cell? ⟨g,o3,none⟩=some (.string ⟨#[115,116,101,112]⟩)∧W.cell? ⟨g,o3+1,none⟩=some (.string x)∧W.cell? ⟨g,o3+2,none⟩=some (.string ⟨#[99,97,112]⟩)∧W.cell? ⟨g,o3+3,none⟩=some (.string y)):=fun W hb=>by
        have k:=(HG.out W hb).cells;cases ch
        ·obtain rfl:o3=3:=HO3.out;exact⟨k 3,k 4,k 5,k 6⟩
        ·obtain rfl:o3=4:=HO3.out;exact⟨k 4,k 5,k 6,k 7⟩
       have HNX:Hid (∀W,Laid W→Calls Tryz.prog 92 #[.string x] W fun e w'=>e=.returned (.agg #[.bool p1,.string p2,.string p3])∧Below W.heap.size W w'):=fun W hL=>by
        have k:=uNumber_any x W hL hx1 (by rw[hrx]);rw[hrx] at k;exact k
       have HNY:Hid (∀W,Laid W→Calls Tryz.prog 92 #[.string y] W fun e w'=>e=.returned (.agg #[.bool q1,.string q2,.string q3])∧Below W.heap.size W w'):=fun W hL=>by
        have k:=uNumber_any y W hL hy1 (by rw[hry]);rw[hry] at k;exact k
       clear hx1 hy1 hrx hry;have h3:=(HC4.out _ HB3.out).1;have h5:=(HC4.out _ HB3.out).2.2.1;obtain⟨W4,hW4⟩:=zE wc;subst hW4;have HM4:=zH (HM.out W4);go_wp2_with fail;refine HM4.out.mono ?_;rintro e w5 ⟨rfl,hw5⟩;have hw6:=hw5.symm;clear hw5;subst hw6;have HKC4:=zH HKC3.out;have HBW4:=zH HB3.out;have HN1:=zH (fun W' (hb:Below W4.heap.size W4 W')=>HNX.out W' (HLK.out _ (bstep HBW4.out hb)).e.base);have HN2:=zH (fun W' (hb:Below W4.heap.size W4 W')=>HNY.out W' (HLK.out _ (bstep HBW4.out hb)).e.base);have HSB:Hid (∀W',Below w.heap.size w W'→W'.cell? ⟨g,o3+1,none⟩=some (.string x)∧W'.cell? ⟨g,o3+3,none⟩=some (.string y)):=fun W' hb=>⟨(HC4.out _ hb).2.1,(HC4.out _ hb).2.2.2⟩
       have HS7:Hid (∀W',Below W4.heap.size W4 W'→W'.cell? ⟨g,o3+1,none⟩=some (.string x)∧W'.cell? ⟨g,o3+3,none⟩=some (.string y)):=fun W' hb=>HSB.out _ (bstep HBW4.out hb)
       clear h3 h5 HNX HNY HKC3 HB3
       go_upto_region 7 with fail
       refine wp_region_noPanic ?_;refine wp_region_held_drew (S:=(fun w'=>w'.cell? ⟨g,o3+1,none⟩=some (.string x)∧w'.cell? ⟨g,o3+3,none⟩=some (.string y))) (by kernel_rfl) (HS7.out _ (drewN_below W4.heap.size W4 1)) (fun hHeld=>?_);refine tkZ 0 ?_;refine tkZ 1 ?_;refine tkZ 2 ?_;refine tkZ 4 ?_;refine tkZ 5 ?_;refine tkZ 6 ?_;refine tkR 3 fun K hK=>?_
       go_simp;refine (HN1.out _ (drewN_below W4.heap.size W4 1)).mono ?_;rintro e w5 ⟨rfl,hb5⟩;have HB5:=zH (bstep (drewN_below W4.heap.size W4 1) hb5);go_wp2_with fail;refine tkK hK (HS7.out _ HB5.out) fun hHeld=>?_
       clear hK K;refine tkZ 8 ?_;refine tkR 7 fun K hK=>?_
       go_simp;refine (HN2.out _ HB5.out).mono ?_;rintro e w6 ⟨rfl,hb6⟩;have HB6:=zH (bstep HB5.out hb6);go_wp2_with fail;refine tkK hK (HS7.out _ HB6.out) fun hHeld=>?_
       clear hK K;have HKC6:Hid (Blk w6 C 41 [.string nm,.bool tt,.int .i64 tm,.int .i64 td,.slice none 0 0,.bool ch,.bool false,.string ⟨#[]⟩,.string ⟨#[]⟩,.bool false,.string ⟨#[]⟩,.string ⟨#[]⟩]):=HKC4.out.below HB6.out HKC4.out.lt;have hkc:=HKC6.out.cells;have hkf:=HKC6.out.froz;refine tkR 9 fun K hK=>?_
       go_simp;go_wp2_with fail;refine tkK hK (HSB.out _ ((((bstep HBW4.out HB6.out).setCell (p:=⟨C,6,none⟩) HCW.out _).setCell (p:=⟨C,7,none⟩) HCW.out _).setCell (p:=⟨C,8,none⟩) HCW.out _)) fun hHeld=>?_
       clear hK K;refine tkZ 10 ?_;have hkc:=(((HKC6.out.set 6 (.bool p1)).set 7 (.string p2)).set 8 (.string p3)).cells;have hkf:=(((HKC6.out.set 6 (.bool p1)).set 7 (.string p2)).set 8 (.string p3)).froz;refine tkR 11 fun K hK=>?_
       go_simp;go_wp2_with fail;refine tkK hK (HSB.out _ (((((((bstep HBW4.out HB6.out).setCell (p:=⟨C,6,none⟩) HCW.out _).setCell (p:=⟨C,7,none⟩) HCW.out _).setCell (p:=⟨C,8,none⟩) HCW.out _).setCell (p:=⟨C,9,none⟩) HCW.out _).setCell (p:=⟨C,10,none⟩) HCW.out _).setCell (p:=⟨C,11,none⟩) HCW.out _)) fun hHeld=>?_
       clear hK K;refine wpAnyH_done (by kernel_rfl) ?_ _;refine NoPanic.normal ?_;go_wp2
       go_meet
       case rel=>exact⟨((((((HKC6.out.set 6 (.bool p1)).set 7 (.string p2)).set 8 (.string p3)).set 9 (.bool q1)).set 10 (.string q2)).set 11 (.string q3)),(((((((bstep HBW4.out HB6.out).setCell (p:=⟨C,6,none⟩) HCW.out _).setCell (p:=⟨C,7,none⟩) HCW.out _).setCell (p:=⟨C,8,none⟩) HCW.out _).setCell (p:=⟨C,9,none⟩) HCW.out _).setCell (p:=⟨C,10,none⟩) HCW.out _).setCell (p:=⟨C,11,none⟩) HCW.out _)⟩
     case rest=>
      obtain⟨HKC5,HB5⟩:=hcut;clear HKC3 HB3 HX HZ HQ4 HO3 HA3;go_wp2_with fail;refine (HPA.out _ HB5.out).mono ?_;rintro e w7 ⟨Ab,nb,cb,rfl,hes,hb7,hown7⟩;obtain rfl:nb=body.length:=hes.len;have HB7:=zH (bstep HB5.out hb7);have HKC7:Hid (Blk w7 C 41 [.string nm,.bool tt,.int .i64 tm,.int .i64 td,.slice none 0 0,.bool ch,.bool p1,.string p2,.string p3,.bool q1,.string q2,.string q3]):=HKC5.out.below hb7 HKC5.out.lt;have HO7:Hid (w7.ownsRow (C+1) 87 5 (.slice Ab body.length cb) body.length (nds body)):=own_lower hown7 (by have:=HKC5.out.lt;omega);have HM7:=zH (HM.out w7);clear hes hb7 hown7;simp only
      go_wp2_with fail;refine HM7.out.mono ?_;rintro e w8 ⟨rfl,hw8⟩;have hw9:=hw8.symm;clear hw8;subst hw9;have hkc:=HKC7.out.cells;have hkf:=HKC7.out.froz
      go_upto_region 11 with fail
      have hkC0:Blk (w7.setCell ⟨C,4,none⟩ (.slice Ab body.length cb)) C 41 [.string nm,.bool tt,.int .i64 tm,.int .i64 td,.slice Ab body.length cb,.bool ch,.bool p1,.string p2,.string p3,.bool q1,.string q2,.string q3]:=HKC7.out.set 4 _;have hbr0:Below w.heap.size w (w7.setCell ⟨C,4,none⟩ (.slice Ab body.length cb)):=HB7.out.setCell (p:=⟨C,4,none⟩) HCW.out _;have hoW0:=own_setB HO7.out (Nat.lt_succ_self C) 4 (.slice Ab body.length cb);generalize w7.setCell ⟨C,4,none⟩ (.slice Ab body.length cb)=wr at*;have hkC:=zH hkC0;have HBR:=zH hbr0;have HO:=zH hoW0;have HP:=zH (HPT.out.below hbr0);have HRC:Hid (R<C):=by have h1:=HRW.out;have h2:=HCW.out;show R<C;omega
      have HS11:Hid (∀W',Below wr.heap.size wr W'→W'.cell? ⟨C,0,none⟩=some (.string nm)∧W'.cell? ⟨C,1,none⟩=some (.bool tt)∧W'.cell? ⟨C,2,none⟩=some (.int .i64 tm)∧W'.cell? ⟨C,3,none⟩=some (.int .i64 td)∧W'.cell? ⟨C,4,none⟩=some (.slice Ab body.length cb)∧W'.cell? ⟨C,5,none⟩=some (.bool ch)∧W'.cell? ⟨C,6,none⟩=some (.bool p1)∧W'.cell? ⟨C,7,none⟩=some (.string p2)∧W'.cell? ⟨C,8,none⟩=some (.string p3)∧W'.cell? ⟨C,9,none⟩=some (.bool q1)∧W'.cell? ⟨C,10,none⟩=some (.string q2)∧W'.cell? ⟨C,11,none⟩=some (.string q3)):=fun W' hb=>⟨(hkC.out.below hb hkC.out.lt).cells 0,(hkC.out.below hb hkC.out.lt).cells 1,(hkC.out.below hb hkC.out.lt).cells 2,(hkC.out.below hb hkC.out.lt).cells 3,(hkC.out.below hb hkC.out.lt).cells 4,(hkC.out.below hb hkC.out.lt).cells 5,(hkC.out.below hb hkC.out.lt).cells 6,(hkC.out.below hb hkC.out.lt).cells 7,(hkC.out.below hb hkC.out.lt).cells 8,(hkC.out.below hb hkC.out.lt).cells 9,(hkC.out.below hb hkC.out.lt).cells 10,(hkC.out.below hb hkC.out.lt).cells 11⟩
      clear hkC0 hbr0 hoW0 HKC7 HB7 HO7 HKC5 HB5 HM7 hkc hkf;refine wp_region_noPanic ?_;refine wp_region_held_drew (S:=(fun w'=>w'.cell? ⟨C,0,none⟩=some (.string nm)∧w'.cell? ⟨C,1,none⟩=some (.bool tt)∧w'.cell? ⟨C,2,none⟩=some (.int .i64 tm)∧w'.cell? ⟨C,3,none⟩=some (.int .i64 td)∧w'.cell? ⟨C,4,none⟩=some (.slice Ab body.length cb)∧w'.cell? ⟨C,5,none⟩=some (.bool ch)∧w'.cell? ⟨C,6,none⟩=some (.bool p1)∧w'.cell? ⟨C,7,none⟩=some (.string p2)∧w'.cell? ⟨C,8,none⟩=some (.string p3)∧w'.cell? ⟨C,9,none⟩=some (.bool q1)∧w'.cell? ⟨C,10,none⟩=some (.string q2)∧w'.cell? ⟨C,11,none⟩=some (.string q3))) (by kernel_rfl) (HS11.out _ (drewN_below wr.heap.size wr 1)) (fun hHeld=>?_);refine tkZ 0 ?_;refine tkZ 1 ?_;refine tkZ 2 ?_;refine tkZ 3 ?_;refine tkZ 5 ?_;refine tkR2 4 6 (fun K hK=>?_) fun K hK=>?_
      ·have hc4:(wr).cell? ⟨R,2,none⟩=some pv:=(HP.out.below (Below.refl _ _)).blk.cells 2;go_simp;go_wp2_with fail;refine tkK hK (HS11.out _ (drewN_below wr.heap.size wr 1)) fun hHeld=>?_
       clear hK K;refine tkR 6 fun K hK=>?_
       go_simp;go_wp2_with fail;refine tkK hK (HS11.out _ ((drewN_below wr.heap.size wr 1).alloc (drewN_below wr.heap.size wr 1).size _)) fun hHeld=>?_
       clear hK K;refine tkR 7 fun K hK=>?_
       refine step_push_at wr.drew #[.string nm,.bool tt,.int .i64 tm,.int .i64 td,.slice Ab body.length cb,.bool ch,.bool p1,.string p2,.string p3,.bool q1,.string q2,.string q3] (by rfl) _ _ 26 (by rfl) (R+1) 41 (.agg #[.string ⟨#[]⟩,.bool false,.int .i64 0,.int .i64 0,.slice none 0 0,.bool false,.bool false,.string ⟨#[]⟩,.string ⟨#[]⟩,.bool false,.string ⟨#[]⟩,.string ⟨#[]⟩]) 12 152 1 Tryz.underlying26 info_prov rfl (by decide) pv ps.length (ps.flatMap pvCells) (by rfl) HP.out.p (by rfl) rfl ?_ ?_ ?_ ?_ ?_
       any_goals first|(unfold maxLen;omega)|omega
       ·intro u hu;simp only[List.mem_cons,List.not_mem_nil,or_false] at hu;rcases hu with rfl|rfl|rfl|rfl|rfl|rfl|rfl|rfl|rfl|rfl|rfl|rfl<;>rfl
       ·have h1:=HP.out.blk.lt;show R+1≤wr.heap.size;omega
       intro v' w11 hown hgr _;obtain⟨Av,cv,rfl,_⟩:=own_rd hown;have HQ:=zH ((HP.out.below (drewN_below wr.heap.size wr 1)).pushP (⟨nm,⟨tt,tm,td⟩,ch,⟨p1,p2,p3⟩,⟨q1,q2,q3⟩,body⟩,⟨Ab,body.length,cb⟩) ⟨rfl,own_lower HO.out (by have:=HRC.out;omega)⟩ hown hgr);have HKR:Hid (Blk w11 R 28 [fv,sv,pv]):=(hgr.block R HP.out.blk.lt (fun e=>by have h1:=(HP.out.p.lt R e.symm).1;omega)).trans HP.out.blk;have HKC:Hid (Blk w11 C 41 [.string nm,.bool tt,.int .i64 tm,.int .i64 td,.slice Ab body.length cb,.bool ch,.bool p1,.string p2,.string p3,.bool q1,.string q2,.string q3]):=(hgr.block C hkC.out.lt (fun e=>by have h1:=HSN.out C e.symm;have h2:=HCW.out;omega)).trans hkC.out;have HFR:Hid (FR R w _):=FR.grown (i:=2) (u:=.slice Av (ps.length+1) cv) (bstep HBR.out (drewN_below wr.heap.size wr 1)) (HP.out.below (drewN_below wr.heap.size wr 1)).p (.inr (.inr rfl)) hgr;clear hown hgr;refine tkK hK (⟨HKC.out.cells 0,HKC.out.cells 1,HKC.out.cells 2,HKC.out.cells 3,HKC.out.cells 4,HKC.out.cells 5,HKC.out.cells 6,HKC.out.cells 7,HKC.out.cells 8,HKC.out.cells 9,HKC.out.cells 10,HKC.out.cells 11⟩) fun hHeld=>?_
       clear hK K;refine tkZ 8 ?_;refine tkZ 9 ?_;refine tkR 10 fun K hK=>?_
       have hkc:=HKR.out.cells;have hkf:=HKR.out.froz;go_simp;go_wp2_with fail;refine tkK hK (by (have hq:=(HKC.out.other (p:=⟨R,2,none⟩) (by have:=HRC.out;show C≠R;omega) (.slice Av (ps.length+1) cv));exact⟨hq.cells 0,hq.cells 1,hq.cells 2,hq.cells 3,hq.cells 4,hq.cells 5,hq.cells 6,hq.cells 7,hq.cells 8,hq.cells 9,hq.cells 10,hq.cells 11⟩)) fun hHeld=>?_
       clear hK K;refine wpAnyH_done (by kernel_rfl) ?_ _;refine NoPanic.normal ?_;go_wp2;go_end0;exact⟨rfl,⟨_,_,HQ.out⟩,HFR.out⟩
      ·go_simp;go_wp2_with fail;refine tkK hK (HS11.out _ ((drewN_below wr.heap.size wr 1).alloc (drewN_below wr.heap.size wr 1).size _)) fun hHeld=>?_
       clear hK K;refine tkR 4 fun K hK=>?_
       have hc4:(wr.alloc (.cells #[.string nm,.bool tt,.int .i64 tm,.int .i64 td,.slice Ab body.length cb,.bool ch,.bool p1,.string p2,.string p3,.bool q1,.string q2,.string q3] 41)).cell? ⟨R,2,none⟩=some pv:=(HP.out.below ((Below.refl _ _).alloc (Nat.le_refl _) (.cells #[.string nm,.bool tt,.int .i64 tm,.int .i64 td,.slice Ab body.length cb,.bool ch,.bool p1,.string p2,.string p3,.bool q1,.string q2,.string q3] 41))).blk.cells 2;go_simp;go_wp2_with fail;refine tkK hK (HS11.out _ ((drewN_below wr.heap.size wr 1).alloc (drewN_below wr.heap.size wr 1).size (.cells #[.string nm,.bool tt,.int .i64 tm,.int .i64 td,.slice Ab body.length cb,.bool ch,.bool p1,.string p2,.string p3,.bool q1,.string q2,.string q3] 41))) fun hHeld=>?_
       clear hK K;refine tkR 7 fun K hK=>?_
       refine step_push_at wr.drew #[.string nm,.bool tt,.int .i64 tm,.int .i64 td,.slice Ab body.length cb,.bool ch,.bool p1,.string p2,.string p3,.bool q1,.string q2,.string q3] (by rfl) _ _ 26 (by rfl) (R+1) 41 (.agg #[.string ⟨#[]⟩,.bool false,.int .i64 0,.int .i64 0,.slice none 0 0,.bool false,.bool false,.string ⟨#[]⟩,.string ⟨#[]⟩,.bool false,.string ⟨#[]⟩,.string ⟨#[]⟩]) 12 152 1 Tryz.underlying26 info_prov rfl (by decide) pv ps.length (ps.flatMap pvCells) (by rfl) HP.out.p (by rfl) rfl ?_ ?_ ?_ ?_ ?_
       any_goals first|(unfold maxLen;omega)|omega
       ·intro u hu;simp only[List.mem_cons,List.not_mem_nil,or_false] at hu;rcases hu with rfl|rfl|rfl|rfl|rfl|rfl|rfl|rfl|rfl|rfl|rfl|rfl<;>rfl
       ·have h1:=HP.out.blk.lt;show R+1≤wr.heap.size;omega
       intro v' w11 hown hgr _;obtain⟨Av,cv,rfl,_⟩:=own_rd hown;have HQ:=zH ((HP.out.below (drewN_below wr.heap.size wr 1)).pushP (⟨nm,⟨tt,tm,td⟩,ch,⟨p1,p2,p3⟩,⟨q1,q2,q3⟩,body⟩,⟨Ab,body.length,cb⟩) ⟨rfl,own_lower HO.out (by have:=HRC.out;omega)⟩ hown hgr);have HKR:Hid (Blk w11 R 28 [fv,sv,pv]):=(hgr.block R HP.out.blk.lt (fun e=>by have h1:=(HP.out.p.lt R e.symm).1;omega)).trans HP.out.blk;have HKC:Hid (Blk w11 C 41 [.string nm,.bool tt,.int .i64 tm,.int .i64 td,.slice Ab body.length cb,.bool ch,.bool p1,.string p2,.string p3,.bool q1,.string q2,.string q3]):=(hgr.block C hkC.out.lt (fun e=>by have h1:=HSN.out C e.symm;have h2:=HCW.out;omega)).trans hkC.out;have HFR:Hid (FR R w _):=FR.grown (i:=2) (u:=.slice Av (ps.length+1) cv) (bstep HBR.out (drewN_below wr.heap.size wr 1)) (HP.out.below (drewN_below wr.heap.size wr 1)).p (.inr (.inr rfl)) hgr;clear hown hgr;refine tkK hK (⟨HKC.out.cells 0,HKC.out.cells 1,HKC.out.cells 2,HKC.out.cells 3,HKC.out.cells 4,HKC.out.cells 5,HKC.out.cells 6,HKC.out.cells 7,HKC.out.cells 8,HKC.out.cells 9,HKC.out.cells 10,HKC.out.cells 11⟩) fun hHeld=>?_
       clear hK K;refine tkZ 8 ?_;refine tkZ 9 ?_;refine tkR 10 fun K hK=>?_
       have hkc:=HKR.out.cells;have hkf:=HKR.out.froz;go_simp;go_wp2_with fail;refine tkK hK (by (have hq:=(HKC.out.other (p:=⟨R,2,none⟩) (by have:=HRC.out;show C≠R;omega) (.slice Av (ps.length+1) cv));exact⟨hq.cells 0,hq.cells 1,hq.cells 2,hq.cells 3,hq.cells 4,hq.cells 5,hq.cells 6,hq.cells 7,hq.cells 8,hq.cells 9,hq.cells 10,hq.cells 11⟩)) fun hHeld=>?_
       clear hK K;refine wpAnyH_done (by kernel_rfl) ?_ _;refine NoPanic.normal ?_;go_wp2;go_end0;exact⟨rfl,⟨_,_,HQ.out⟩,HFR.out⟩
inductive Ln
 |f (d:Dc)
 |s (x:Sc)
 |p (x:Pv)
def Lw.add (l:Lw):Ln→Lw
 |.f d=>⟨l.facts++[d],l.schs,l.provs⟩
 |.s x=>⟨l.facts,l.schs++[x],l.provs⟩
 |.p x=>⟨l.facts,l.schs,l.provs++[x]⟩
def kFact:ByteArray:=⟨#[102,97,99,116]⟩
def kSched:ByteArray:=⟨#[115,99,104,101,100,117,108,101]⟩
def kProv:ByteArray:=⟨#[112,114,111,118,105,115,105,111,110]⟩
def LineOk (s:ByteArray):Ln→Prop
 |.f d=>∃rest,LineW s [kFact,d.name,tyText d.ty] rest false∧nameOk d.name=true∧tyIn d.ty=true
 |.s x=>∃rest,LineW s [kSched,x.name,tyText ⟨false,x.money,x.days⟩] rest true∧nameOk x.name=true∧tyIn ⟨false,x.money,x.days⟩=true∧RestB rest x.brs
 |.p x=>∃(rest:ByteArray) (sp:Bool) (a b:ByteArray),LineW s (kProv::x.name::tyText x.ty::provTl x.charge sp a b) rest true∧nameOk x.name=true∧tyIn x.ty=true∧rest.data.toList.length≤1048576∧parseE rest.data.toList=(x.body,0)∧
   (sp=true→a.size≤1048576∧b.size≤1048576∧ratParse a=(x.step,true)∧ratParse b=(x.cap,true))∧(sp=false→x.step=zR∧x.cap=zR)
theorem line_any (w0 w:World) (R:Nat) (l:Lw) (s:ByteArray) (ln:Ln) (h:PX w0 w R l) (hL:LaidK w) (hf:l.facts.length≤1000) (hs:l.schs.length≤1000) (hp:l.provs.length≤1000) (ho:LineOk s ln):
  Calls Tryz.prog 21 #[.pointer (some ⟨R,0,none⟩),.string s] w fun e w'=>e=.returned (.bool true)∧PX w0 w' R (l.add ln)∧FR R w w':=by
 have hpx:=h;obtain⟨ss,ps,fv,sv,pv,hPT⟩:=h;have hsn:ss.length=l.schs.length:=by rw[←hPT.sl,List.length_map]
 have hpn:ps.length=l.provs.length:=by rw[←hPT.pl,List.length_map]
 cases ln with
 |f d=>
  obtain⟨rest,hw,hn,ht⟩:=ho;obtain⟨nm,t⟩:=d;refine line_core w0 w R l _ s rest kFact nm [tyText t] 0 false hpx hL hw rfl hn 0 _ (.inl ⟨rfl,rfl,rfl,rfl⟩) (fun W G hb hG=>?_);refine (uFact_any w0 W R G 2 l ss ps fv sv pv nm (tyText t) rest t (hPT.below hb) (hL.below hb) ht rfl hf ⟨_,hG,rfl,rfl⟩).mono ?_;rintro e w' ⟨h1,⟨v',h2⟩,h3⟩;exact⟨h1,⟨_,_,_,_,_,h2⟩,h3⟩
 |s x=>
  obtain⟨rest,hw,hn,ht,hr⟩:=ho;obtain⟨nm,tm,td,brs⟩:=x;refine line_core w0 w R l _ s rest kSched nm [tyText ⟨false,tm,td⟩] 0 true hpx hL hw rfl hn 1 _ (.inr (.inl ⟨rfl,rfl,rfl,rfl⟩)) (fun W G hb hG=>?_);refine (uSched_any w0 W R G 2 l ss ps fv sv pv nm (tyText ⟨false,tm,td⟩) rest tm td brs (hPT.below hb) (hL.below hb) ht rfl (by omega) hr ⟨_,hG,rfl,rfl⟩).mono ?_;rintro e w' ⟨h1,⟨v',hd,h2⟩,h3⟩;exact⟨h1,⟨_,_,_,_,_,h2⟩,h3⟩
 |p x=>
  obtain⟨rest,sp,a,b,hw,hn,ht,hr,hb',hx,hz⟩:=ho;obtain⟨nm,t,ch,st,cp,body⟩:=x;refine line_core w0 w R l _ s rest kProv nm (tyText t::provTl ch sp a b) (provTl ch sp a b).length true hpx hL hw rfl hn 2 _ (.inr (.inr ⟨rfl,rfl,rfl,rfl⟩)) (fun W G hb hG=>?_);refine (uProv_any w0 W R G l ss ps fv sv pv kProv nm (tyText t) rest a b t ch sp st cp body (hPT.below hb) (hL.below hb) ht rfl (by omega) hr hb' hx hz _ rfl hG).mono ?_;rintro e w' ⟨h1,⟨v',hd,h2⟩,h3⟩;exact⟨h1,⟨_,_,_,_,_,h2⟩,h3⟩
def textR0 (l:Lw):Value:=.tuple #[.string ⟨(if checkL l=0 then textL l else []).toArray⟩,.int .i64 (checkL l)]
theorem WS.str {B b:Nat} {w0 w:World} {bs:List UInt8} (h:WS B b w0 w bs) (h0:bs≠[]):Calls Tryz.prog 23 #[.pointer (some ⟨b,0,none⟩)] w fun e w'=>e=.returned (.string ⟨bs.toArray⟩)∧Below B w0 w':=by
 rcases h.ib with k|k<;>exact (strW_any B b _ bs w k h0).mono fun e w' r=>⟨r.1,h.bl.trans r.2⟩
theorem WS.fresh (w:World):WS w.heap.size w.heap.size w (w.alloc (.cells #[.pointer none,.slice none 0 0] 71)) []:=by
 refine⟨.inl ⟨Nat.le_refl _,.slice none 0 0,?_,World.ownsRow_nil _ _ _ _,fun e=>by cases e⟩,(Below.refl _ _).alloc (Nat.le_refl _) _,Nat.le_refl _⟩;exact Blk.new w _ _
theorem uText_any (l:Lw) (ss:List (Sc × Hd)) (ps:List (Pv × Hd)) (f s p:Hd) (w:World) (hL:LaidK w) (h:LawAt w l ss ps f s p) (hf:FineL l) (hT:checkL l=0→FineT l∧textL l≠[]∧(textL l).length≤1000000000000):
  Calls Tryz.prog 9 #[lawV f s p] w fun e w'=>e=.returned (textR0 l)∧Below w.heap.size w w':=by
 have HC:=zH (fun W hb=>uCheck_any l ss ps f s p W (hL.below hb) (h.below hb) hf)
 have HW:Hid (checkL l=0→∀W,Below w.heap.size w W→Calls Tryz.prog 22 #[.pointer (some ⟨W.heap.size,0,none⟩),lawV f s p] (W.alloc (.cells #[.pointer none,.slice none 0 0] 71)) fun e w'=>e=.returned (.tuple #[])∧WS W.heap.size W.heap.size W w' (textL l)):=fun hz W hb=>by
  have k:=uWLaw_any l ss ps f s p W.heap.size W.heap.size W _ [] (WS.fresh W) rfl (hL.below hb) (h.below hb) hf (hT hz).1 (by rw[List.length_nil];have:=(hT hz).2.2;omega);rw[List.nil_append] at k;exact k
 have HN:Hid (checkL l=0→textL l≠[]):=fun hz=>(hT hz).2.1
 unfold textR0;obtain⟨z,hz⟩:=zE (checkL l);rw[←hz] at HC HW HN⊢;obtain⟨fa,fn,fc⟩:=f;obtain⟨sa,sn,sc⟩:=s;obtain⟨pa,pn,pc⟩:=p;unfold lawV at HC HW⊢;simp only at HC HW⊢;clear hL h hf hT hz;obtain⟨W,hW⟩:=zE (w.alloc (.cells #[.slice fa fn fc,.slice sa sn sc,.slice pa pn pc] 28));obtain⟨Q,hQ⟩:=zE w.heap.size;have HKL:Hid (Blk W Q 28 [.slice fa fn fc,.slice sa sn sc,.slice pa pn pc]):=by show Blk _ _ _ _;rw[hW,hQ];exact Blk.new w _ _
 have HBA:Hid (Below w.heap.size w W):=by show Below _ _ _;rw[hW];exact zB _ _
 have hkc:=HKL.out.cells;by_cases hz0:z=0
 ·subst hz0;rw[if_pos rfl];have HWW:=zH (HW.out rfl);have HNN:=zH (HN.out rfl);clear HW HN;generalize textL l=tl at*;go_enter Tryz.func9,Tryz.ntmps9
  go_upto_region 1 with fail
  simp only[←hW,←hQ]
  clear hW hQ;go_wp2_with fail;refine (HC.out _ HBA.out).mono ?_;rintro e w1 ⟨rfl,hb1⟩;have HB1:=zH (bstep HBA.out hb1);have HK1:Hid (Blk w1 Q 28 [.slice fa fn fc,.slice sa sn sc,.slice pa pn pc]):=HKL.out.below hb1 HKL.out.lt;have HA1:Hid (Below w1.heap.size w1 (w1.alloc (.cells #[.pointer none,.slice none 0 0] 71))):=(Below.refl _ _).alloc (Nat.le_refl _) _;have hkd:=(HK1.out.below HA1.out HK1.out.lt).cells;clear hb1 hkc;go_wp2_with fail;refine (HWW.out _ HB1.out).mono ?_;rintro e w2 ⟨rfl,hws⟩;have HST:=zH (hws.str HNN.out);clear hws hkd;go_wp2_with fail;refine HST.out.mono ?_;rintro e w3 ⟨rfl,hb3⟩;have HB3:=zH (bstep HB1.out hb3);clear hb3;go_wp2;go_ret2;exact⟨rfl,HB3.out⟩
 ·rw[if_neg hz0];have e1:(z !=0)=true:=by simp[hz0]
  clear HW HN hz0;go_enter Tryz.func9,Tryz.ntmps9
  go_upto_region 1 with fail
  simp only[←hW,←hQ]
  clear hW hQ;go_wp2_with fail;refine (HC.out _ HBA.out).mono ?_;rintro e w1 ⟨rfl,hb1⟩;have HB1:=zH (bstep HBA.out hb1);clear hb1 hkc;go_wp2;go_ret2;exact⟨rfl,HB1.out⟩
end Go.Proofs.YtmmbjngbeiokeaaGreatDoor
