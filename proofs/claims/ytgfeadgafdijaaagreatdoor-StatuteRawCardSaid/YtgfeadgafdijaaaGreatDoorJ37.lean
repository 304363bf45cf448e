/- A part of the proof: Uo Up. -/
import Derived.Deep.RegionHeld3
import Derived.Deep.Cut
import Derived.Deep.CutRange
import Derived.Test.YtgfeadgafdijaaaGreatDoorJ01
import Derived.Test.YtgfeadgafdijaaaGreatDoorJ03
import Derived.Test.YtgfeadgafdijaaaGreatDoorJ28
import Derived.Test.YtgfeadgafdijaaaGreatDoorJ30
import Derived.Test.YtgfeadgafdijaaaGreatDoorJ35
import Derived.Test.YtgfeadgafdijaaaGreatDoorJ36
set_option linter.unusedVariables false
set_option linter.unusedSimpArgs false
set_option maxRecDepth 100000
set_option maxHeartbeats 40000000
namespace Go.Proofs.YtgfeadgafdijaaaGreatDoor
open Go.RowKit
theorem yD:(Tryz.prog.info? 42).map (fun i=>(i.zero,i.size,i.bytes))=some (some (.agg #[.bool false,.string ⟨#[]⟩,.string ⟨#[]⟩,.bool false,.string ⟨#[]⟩,.string ⟨#[]⟩]),6,80):=by kernel_rfl
theorem GN:(Tryz.prog.info? 37).map (fun i=>(i.zero,i.size,i.bytes))=some (some (.agg #[.string ⟨#[]⟩,.int .i64 0,.int .i64 0,.slice none 0 0]),4,56):=by kernel_rfl
def Jg (p:ByteArray) (b:Bk):Prop:=p.size≤1000000∧∃x y:List UInt8,Lib.cut p.data.toList [32]=(x,y,true)∧x.length≤1000000∧y.length≤1000000∧fM ⟨x.toArray⟩=(b.fr,true)∧fM ⟨y.toArray⟩=(b.rt,true)
def ou (rest:ByteArray):List ByteArray:=Lib.splitB ⟨#[44,32]⟩ 0 (Lib.countB rest ⟨#[44,32]⟩) rest
structure Jh (rest:ByteArray) (bQ:List Bk):Prop where
 size:rest.size≤1000000
 n:Lib.countB rest ⟨#[44,32]⟩+1=bQ.length
 len:(ou rest).length=bQ.length
 max:bQ.length≤1000
 ok:∀i (h:i<bQ.length) (h':i<(ou rest).length),Jg (ou rest)[i] bQ[i]
theorem UZ (w0 w:World) (R g c:Nat) (l:Lw) (ss:List (Sc × Hd)) (ps:List (Pv × Hd)) (fv sv pv:Value) (nm s rest:ByteArray) (tm td:Int) (bQ:List Bk) (h:PT w0 w R l ss ps fv sv pv) (hL:bZ w) (ht:Eo ⟨false,tm,td⟩=true) (hs:s=bV ⟨false,tm,td⟩) (hn:ss.length≤1000) (hr:Jh rest bQ) (hg:∃cs,aj w g 9 cs∧cs[1]?=some (.string nm)∧cs[2]?=some (.string s)):
  Calls Tryz.prog 96 #[.pointer (some ⟨R,0,none⟩),.slice (some ⟨g,1,none⟩) 2 c,.string rest] w fun e w'=>e=.returned (.tuple #[])∧(∃v' hd,PT w0 w' R ⟨l.facts,l.bI++[⟨nm,tm,td,bQ⟩],l.aP⟩ (ss++[(⟨nm,tm,td,bQ⟩,hd)]) ps fv v' pv)∧FR R w w':=by
 obtain⟨cs,hg0,hg1,hg2⟩:=hg;have HT:=zH (fun W (hb:Below w.heap.size w W)=>hs ▸ zI ⟨false,tm,td⟩ W (hL.below hb) ht);have tZ:=zH h;have kD:Hid (∀W,Below w.heap.size w W→bZ W):=fun W hb=>hL.below hb
 have IV:=zH hr;have dW:Hid (∀W,Below w.heap.size w W→W.cell? ⟨g,1,none⟩=some (.string nm)∧W.cell? ⟨g,2,none⟩=some (.string s)):=fun W hb=>⟨((hg0.below hb hg0.lt).cells 1).trans hg1,((hg0.below hb hg0.lt).cells 2).trans hg2⟩
 have HM:=zH (qR w);have hc2:=(dW.out w (Below.refl _ _)).2;unfold Ty.v at HT;simp only at HT;clear h hL ht hs hg0 hg1 hg2 hr;go_enter Tryz.func96,Tryz.ntmps96;go_wp2_with fail;refine HM.out.mono ?_;rintro e w1 ⟨rfl,hw1⟩;have hw2:=hw1.symm;clear hw1;subst hw2;go_wp2_with fail;refine (HT.out w (Below.refl _ _)).mono ?_;rintro e w1 ⟨rfl,hb1⟩;obtain⟨W1,hW1⟩:=zE (w1.alloc (.cells #[.bool false,.int .i64 tm,.int .i64 td] 32));obtain⟨T,hT⟩:=zE w1.heap.size;have HK:Hid (aj W1 T 32 [.bool false,.int .i64 tm,.int .i64 td]):=by show aj _ _ _ _;rw[hW1,hT];exact aj.new w1 _ _
 have HB1:Hid (Below w.heap.size w W1):=by show Below _ _ _;rw[hW1];exact hb1.alloc hb1.size _
 have hkc:=HK.out.cells;have jU:=zH (qR W1);clear hb1 hc2
 go_upto_region 2 with fail
 simp only[←hW1,←hT]
 clear hW1 hT;go_wp2_with fail;refine jU.out.mono ?_;rintro e w2 ⟨rfl,hw2⟩;have hw3:=hw2.symm;clear hw2;subst hw3;have hgc:=(dW.out _ HB1.out).1;have hga:∀o,(W1.alloc o).cell? ⟨g,1,none⟩=some (.string nm):=fun o=>(dW.out _ (HB1.out.alloc HB1.out.size o)).1
 have ahh:∀o,(W1.alloc o).cell? ⟨T,1,none⟩=some (.int .i64 tm):=fun o=>(HK.out.alloc o).cells 1
 have ahi:∀o,(W1.alloc o).cell? ⟨T,2,none⟩=some (.int .i64 td):=fun o=>(HK.out.alloc o).cells 2
 go_upto_region 3 with fail
 go_region;obtain⟨W3,hW3⟩:=zE ((W1.alloc (.cells #[.string nm,.int .i64 tm,.int .i64 td,.slice none 0 0] 37)).drew);obtain⟨C,hC⟩:=zE W1.heap.size;have dP:Hid (aj W3 C 37 [.string nm,.int .i64 tm,.int .i64 td,.slice none 0 0]):=by show aj _ _ _ _;rw[hW3,hC];exact (aj.new W1 _ _).drew
 have HB3:Hid (Below w.heap.size w W3):=by show Below _ _ _;rw[hW3];exact (HB1.out.alloc HB1.out.size _).drew
 have cZ:Hid (w.heap.size≤C):=by show _≤C;rw[hC];exact HB1.out.size
 have HOW:Hid (W3.ownsRow (C+1) 42 6 (.slice none 0 0) 0 (([]:List Bk).flatMap Bk.cells)):=World.ownsRow_nil _ _ _ _;obtain⟨m,hm⟩:=(kD.out _ HB3.out).e.base.cut.2;have Hw:=zH (Tryz.strings_Split rest ⟨#[44,32]⟩ m W3 (by have:=IV.out.size;omega) hm (by decide));have Jb:Hid (Lib.splitB ⟨#[44,32]⟩ 0 (Lib.countB rest ⟨#[44,32]⟩) rest=ou rest):=rfl;have jc:Hid (Lib.countB rest ⟨#[44,32]⟩+1=bQ.length):=IV.out.n;rw[Jb.out] at Hw;have hn1:bQ.length≤1000:=IV.out.max;generalize hcb:Lib.countB rest ⟨#[44,32]⟩=cb at*;clear hcb hm hkc hgc hga ahh ahi HM jU HK Jb;go_wp2_with fail;simp only[←hW3,←hC]
 clear hW3 hC;refine Hw.out.mono ?_;rintro e w4 ⟨rfl,hw4⟩;obtain⟨G,hG⟩:=zE W3.heap.size
 have HG:Hid (aj w4 G 9 (strs (ou rest))):=by
  show aj _ _ _ _;rw[hw4,hG,Gy];exact aj.new W3 _ _
 have HA4:Below W3.heap.size W3 w4:=by rw[hw4];exact zB _ _
 have HB4:=zH (ah HB3.out HA4);have Ph:Hid (aj w4 C 37 [.string nm,.int .i64 tm,.int .i64 td,.slice none 0 0]):=dP.out.below HA4 dP.out.lt;have ad1:=zH (own_below HOW.out HA4);have HGC:Hid (G≠C):=by have h1:=dP.out.lt;show G≠C;omega
 rw[jc.out];simp only[←hG]
 clear hG hw4 HA4 dP HOW HB3 Hw;have hcap:=hn1;go_wp2_with fail
 go_loopg [34] bQ.length (fun q iv wr=>∃(i:Nat) (pF:Option Addr) (pG:Nat),i+q=bQ.length∧iv=.int .i64 i∧Hid (Below w.heap.size w wr)∧Hid (aj wr C 37 [.string nm,.int .i64 tm,.int .i64 td,.slice pF i pG])∧Hid (wr.ownsRow (C+1) 42 6 (.slice pF i pG) i ((bQ.take i).flatMap Bk.cells))∧Hid (aj wr G 9 (strs (ou rest))))
 case atStart=>exact⟨0,none,0,by omega,rfl,HB4,Ph,ad1,HG⟩
 case round=>
  obtain⟨i,pF,pG,hi,rfl,hbr,iD,hoW,uf⟩:=hrel;clear HB4 Ph ad1 HG;by_cases hlt:i<bQ.length
  ·have hlp:i<(ou rest).length:=by rw[IV.out.len];exact hlt
   have hc:=strs_get uf.out hlp;have hTK:(bQ.take (i+1)).flatMap Bk.cells=(bQ.take i).flatMap Bk.cells++bQ[i].cells:=by rw[List.take_succ_eq_append_getElem hlt,List.flatMap_append];simp
   obtain⟨hps,x,y,hcut,hx1,hy1,hrx,Hu⟩:=IV.out.ok i hlt hlp;generalize (ou rest)[i]=p at*;generalize bQ[i]=bk at*;obtain⟨⟨f1,f2,f3⟩,⟨r1,r2,r3⟩⟩:=bk;have ny:=zH hTK;obtain⟨m,hm⟩:=(kD.out _ hbr.out).e.base.cut.2;have FU:=zH (Tryz.strings_Cut p ⟨#[32]⟩ m wr (by omega) hm);rw[show (⟨#[32]⟩:ByteArray).data.toList=[32] from rfl,hcut] at FU;simp only at FU hrx Hu
   have O5:Hid (∀W,Laid W→Calls Tryz.prog 97 #[.string ⟨x.toArray⟩] W fun e w'=>e=.returned (.agg #[.bool f1,.string f2,.string f3])∧Below W.heap.size W w'):=fun W hL=>by
    have k:=uV ⟨x.toArray⟩ W hL (by show x.toArray.size≤_;simp;omega) (by rw[hrx]);rw[hrx] at k;exact k
   have XT:Hid (∀W,Laid W→Calls Tryz.prog 97 #[.string ⟨y.toArray⟩] W fun e w'=>e=.returned (.agg #[.bool r1,.string r2,.string r3])∧Below W.heap.size W w'):=fun W hL=>by
    have k:=uV ⟨y.toArray⟩ W hL (by show y.toArray.size≤_;simp;omega) (by rw[Hu]);rw[Hu] at k;exact k
   clear hTK hps hcut hm hx1 hy1 hrx Hu;generalize (⟨x.toArray⟩:ByteArray)=xb at*;generalize (⟨y.toArray⟩:ByteArray)=yb at*;go_wp2_with fail;refine FU.out.mono ?_;rintro e w5 ⟨rfl,nd,hw5⟩;obtain⟨W2,hW2⟩:=zE (wr.drewN nd);rw[←hW2] at hw5;have hw6:=hw5.symm;clear hw5;subst hw6;have HA2:Below wr.heap.size wr W2:=by rw[hW2];exact ak _ _ _
   have ku:=zH (ah hbr.out HA2);have mW:Hid (aj W2 C 37 [.string nm,.int .i64 tm,.int .i64 td,.slice pF i pG]):=iD.out.below HA2 iD.out.lt;have wC:=zH (own_below hoW.out HA2);have HG2:Hid (aj W2 G 9 (strs (ou rest))):=uf.out.below HA2 uf.out.lt;have CQ:=zH (fun W' (hb:Below W2.heap.size W2 W')=>O5.out W' (kD.out _ (ah ku.out hb)).e.base);have Ji:=zH (fun W' (hb:Below W2.heap.size W2 W')=>XT.out W' (kD.out _ (ah ku.out hb)).e.base);have qx:=zH (qR W2);clear hW2 HA2 hbr iD hoW uf O5 XT FU hc;go_wp2_with fail;refine qx.out.mono ?_;rintro e w5 ⟨rfl,hw5⟩;have hw6:=hw5.symm;clear hw5;subst hw6
   go_upto_region 9 with fail
   refine wp_region_noPanic ?_;refine wp_region_held_drew (S:=(fun w'=>Below w.heap.size w w')) (by kernel_rfl) (ah ku.out (ak W2.heap.size W2 1)) (fun hHeld=>?_);refine ay 0 ?_;refine ay 2 ?_;refine ay 4 ?_;refine Ap 1 3 (fun K hK=>?_) fun K hK=>?_
   ·have hc4:(W2).cell? ⟨C,3,none⟩=some (.slice pF i pG):=(mW.out.below (ak W2.heap.size W2 1) mW.out.lt).cells 3;go_simp;go_wp2_with fail;refine aT hK (ah ku.out (ak W2.heap.size W2 1)) fun hHeld=>?_
    clear hK K;refine bJ 3 fun K hK=>?_
    go_simp;refine (CQ.out _ (ak W2.heap.size W2 1)).mono ?_;rintro e w9 ⟨rfl,dA⟩;have lG:=zH (ah (ak W2.heap.size W2 1) dA);go_wp2_with fail;refine aT hK (ah ku.out lG.out) fun hHeld=>?_
    clear hK K;refine bJ 5 fun K hK=>?_
    go_simp;refine (Ji.out _ lG.out).mono ?_;rintro e w10 ⟨rfl,dA⟩;have aY:=zH (ah lG.out dA);go_wp2_with fail;refine aT hK (ah ku.out aY.out) fun hHeld=>?_
    clear hK K;refine ay 6 ?_;refine bJ 7 fun K hK=>?_
    go_simp;go_wp2_with fail;refine aT hK (ah ku.out (aY.out.alloc aY.out.size _)) fun hHeld=>?_
    clear hK K;refine bJ 8 fun K hK=>?_
    refine gG w10 #[.bool f1,.string f2,.string f3,.bool r1,.string r2,.string r3] (by rfl) _ _ 35 (by rfl) (C+1) 42 (.agg #[.bool false,.string ⟨#[]⟩,.string ⟨#[]⟩,.bool false,.string ⟨#[]⟩,.string ⟨#[]⟩]) 6 80 1 Tryz.underlying35 yD rfl (by decide) (.slice pF i pG) i ((bQ.take i).flatMap Bk.cells) (by rfl) (own_below wC.out aY.out) (by rfl) rfl ?_ ?_ ?_ ?_ ?_
    any_goals first|(unfold maxLen;omega)|omega
    ·intro u hu;simp only[List.mem_cons,List.not_mem_nil,or_false] at hu;rcases hu with rfl|rfl|rfl|rfl|rfl|rfl<;>rfl
    ·have h1:=mW.out.lt;have h2:=aY.out.size;omega
    intro v' lW hown hgr _;obtain⟨Av,cv,rfl,_⟩:=bM hown;have hkc:=(mW.out.below aY.out mW.out.lt)
    have vP:=zH (TF.grown (own_below wC.out aY.out) hgr);have qU:=zH (vP.out.blk hkc (by decide));have qV:Hid (Below w.heap.size w lW):=(ah ku.out aY.out).grown hgr (by have h1:=ku.out.size;have h2:=aY.out.size;omega) (fun k hk=>by have h1:=((own_below wC.out aY.out).lt k hk).1;have h2:=cZ.out;omega);have GR:=zH (vP.out.blk (HG2.out.below aY.out HG2.out.lt) (by decide));have GU:=zH hown;clear hown hgr hkc;refine aT hK (qV.out) fun hHeld=>?_
    clear hK K;refine ay 9 ?_;refine bJ 10 fun K hK=>?_
    have hkc:=qU.out.cells;have rO:=qU.out.aF;go_simp;go_wp2_with fail;refine aT hK (qV.out.setCell (p:=⟨C,3,none⟩) cZ.out _) fun hHeld=>?_
    clear hK K;refine wpAnyH_done (by kernel_rfl) ?_ _;refine NoPanic.normal ?_;go_wp2
    go_roundg (bQ.length-(i+1))
    case measure=>omega
    case rel=>exact⟨i+1,Av,cv,by omega,by go_num,qV.out.setCell (p:=⟨C,3,none⟩) cZ.out _,qU.out.set 3 _,(by show World.ownsRow _ _ _ _ _ _ _;rw[ny.out];exact eU GU.out 3 _),GR.out.other (p:=⟨C,3,none⟩) HGC.out _⟩
   ·go_simp;refine (CQ.out _ (ak W2.heap.size W2 1)).mono ?_;rintro e w9 ⟨rfl,dA⟩;have lG:=zH (ah (ak W2.heap.size W2 1) dA);go_wp2_with fail;refine aT hK (ah ku.out lG.out) fun hHeld=>?_
    clear hK K;refine Ap 1 5 (fun K hK=>?_) fun K hK=>?_
    ·have hc4:(w9).cell? ⟨C,3,none⟩=some (.slice pF i pG):=(mW.out.below lG.out mW.out.lt).cells 3;go_simp;go_wp2_with fail;refine aT hK (ah ku.out lG.out) fun hHeld=>?_
     clear hK K;refine bJ 5 fun K hK=>?_
     go_simp;refine (Ji.out _ lG.out).mono ?_;rintro e w10 ⟨rfl,dA⟩;have aY:=zH (ah lG.out dA);go_wp2_with fail;refine aT hK (ah ku.out aY.out) fun hHeld=>?_
     clear hK K;refine ay 6 ?_;refine bJ 7 fun K hK=>?_
     go_simp;go_wp2_with fail;refine aT hK (ah ku.out (aY.out.alloc aY.out.size _)) fun hHeld=>?_
     clear hK K;refine bJ 8 fun K hK=>?_
     refine gG w10 #[.bool f1,.string f2,.string f3,.bool r1,.string r2,.string r3] (by rfl) _ _ 35 (by rfl) (C+1) 42 (.agg #[.bool false,.string ⟨#[]⟩,.string ⟨#[]⟩,.bool false,.string ⟨#[]⟩,.string ⟨#[]⟩]) 6 80 1 Tryz.underlying35 yD rfl (by decide) (.slice pF i pG) i ((bQ.take i).flatMap Bk.cells) (by rfl) (own_below wC.out aY.out) (by rfl) rfl ?_ ?_ ?_ ?_ ?_
     any_goals first|(unfold maxLen;omega)|omega
     ·intro u hu;simp only[List.mem_cons,List.not_mem_nil,or_false] at hu;rcases hu with rfl|rfl|rfl|rfl|rfl|rfl<;>rfl
     ·have h1:=mW.out.lt;have h2:=aY.out.size;omega
     intro v' lW hown hgr _;obtain⟨Av,cv,rfl,_⟩:=bM hown;have hkc:=(mW.out.below aY.out mW.out.lt)
     have vP:=zH (TF.grown (own_below wC.out aY.out) hgr);have qU:=zH (vP.out.blk hkc (by decide));have qV:Hid (Below w.heap.size w lW):=(ah ku.out aY.out).grown hgr (by have h1:=ku.out.size;have h2:=aY.out.size;omega) (fun k hk=>by have h1:=((own_below wC.out aY.out).lt k hk).1;have h2:=cZ.out;omega);have GR:=zH (vP.out.blk (HG2.out.below aY.out HG2.out.lt) (by decide));have GU:=zH hown;clear hown hgr hkc;refine aT hK (qV.out) fun hHeld=>?_
     clear hK K;refine ay 9 ?_;refine bJ 10 fun K hK=>?_
     have hkc:=qU.out.cells;have rO:=qU.out.aF;go_simp;go_wp2_with fail;refine aT hK (qV.out.setCell (p:=⟨C,3,none⟩) cZ.out _) fun hHeld=>?_
     clear hK K;refine wpAnyH_done (by kernel_rfl) ?_ _;refine NoPanic.normal ?_;go_wp2
     go_roundg (bQ.length-(i+1))
     case measure=>omega
     case rel=>exact⟨i+1,Av,cv,by omega,by go_num,qV.out.setCell (p:=⟨C,3,none⟩) cZ.out _,qU.out.set 3 _,(by show World.ownsRow _ _ _ _ _ _ _;rw[ny.out];exact eU GU.out 3 _),GR.out.other (p:=⟨C,3,none⟩) HGC.out _⟩
    ·go_simp;refine (Ji.out _ lG.out).mono ?_;rintro e w10 ⟨rfl,dA⟩;have aY:=zH (ah lG.out dA);go_wp2_with fail;refine aT hK (ah ku.out aY.out) fun hHeld=>?_
     clear hK K;refine ay 6 ?_;refine Ap 1 7 (fun K hK=>?_) fun K hK=>?_
     ·have hc4:(w10).cell? ⟨C,3,none⟩=some (.slice pF i pG):=(mW.out.below aY.out mW.out.lt).cells 3;go_simp;go_wp2_with fail;refine aT hK (ah ku.out aY.out) fun hHeld=>?_
      clear hK K;refine bJ 7 fun K hK=>?_
      go_simp;go_wp2_with fail;refine aT hK (ah ku.out (aY.out.alloc aY.out.size _)) fun hHeld=>?_
      clear hK K;refine bJ 8 fun K hK=>?_
      refine gG w10 #[.bool f1,.string f2,.string f3,.bool r1,.string r2,.string r3] (by rfl) _ _ 35 (by rfl) (C+1) 42 (.agg #[.bool false,.string ⟨#[]⟩,.string ⟨#[]⟩,.bool false,.string ⟨#[]⟩,.string ⟨#[]⟩]) 6 80 1 Tryz.underlying35 yD rfl (by decide) (.slice pF i pG) i ((bQ.take i).flatMap Bk.cells) (by rfl) (own_below wC.out aY.out) (by rfl) rfl ?_ ?_ ?_ ?_ ?_
      any_goals first|(unfold maxLen;omega)|omega
      ·intro u hu;simp only[List.mem_cons,List.not_mem_nil,or_false] at hu;rcases hu with rfl|rfl|rfl|rfl|rfl|rfl<;>rfl
      ·have h1:=mW.out.lt;have h2:=aY.out.size;omega
      intro v' lW hown hgr _;obtain⟨Av,cv,rfl,_⟩:=bM hown;have hkc:=(mW.out.below aY.out mW.out.lt)
      have vP:=zH (TF.grown (own_below wC.out aY.out) hgr);have qU:=zH (vP.out.blk hkc (by decide));have qV:Hid (Below w.heap.size w lW):=(ah ku.out aY.out).grown hgr (by have h1:=ku.out.size;have h2:=aY.out.size;omega) (fun k hk=>by have h1:=((own_below wC.out aY.out).lt k hk).1;have h2:=cZ.out;omega);have GR:=zH (vP.out.blk (HG2.out.below aY.out HG2.out.lt) (by decide));have GU:=zH hown;clear hown hgr hkc;refine aT hK (qV.out) fun hHeld=>?_
      clear hK K;refine ay 9 ?_;refine bJ 10 fun K hK=>?_
      have hkc:=qU.out.cells;have rO:=qU.out.aF;go_simp;go_wp2_with fail;refine aT hK (qV.out.setCell (p:=⟨C,3,none⟩) cZ.out _) fun hHeld=>?_
      clear hK K;refine wpAnyH_done (by kernel_rfl) ?_ _;refine NoPanic.normal ?_;go_wp2
      go_roundg (bQ.length-(i+1))
      case measure=>omega
      case rel=>exact⟨i+1,Av,cv,by omega,by go_num,qV.out.setCell (p:=⟨C,3,none⟩) cZ.out _,qU.out.set 3 _,(by show World.ownsRow _ _ _ _ _ _ _;rw[ny.out];exact eU GU.out 3 _),GR.out.other (p:=⟨C,3,none⟩) HGC.out _⟩
     ·go_simp;go_wp2_with fail;refine aT hK (ah ku.out (aY.out.alloc aY.out.size _)) fun hHeld=>?_
      clear hK K;refine bJ 1 fun K hK=>?_
      have hc4:(w10.alloc (.cells #[.bool f1,.string f2,.string f3,.bool r1,.string r2,.string r3] 42)).cell? ⟨C,3,none⟩=some (.slice pF i pG):=(mW.out.below (aY.out.alloc aY.out.size (.cells #[.bool f1,.string f2,.string f3,.bool r1,.string r2,.string r3] 42)) mW.out.lt).cells 3;go_simp;go_wp2_with fail;refine aT hK (ah ku.out (aY.out.alloc aY.out.size (.cells #[.bool f1,.string f2,.string f3,.bool r1,.string r2,.string r3] 42))) fun hHeld=>?_
      clear hK K;refine bJ 8 fun K hK=>?_
      refine gG w10 #[.bool f1,.string f2,.string f3,.bool r1,.string r2,.string r3] (by rfl) _ _ 35 (by rfl) (C+1) 42 (.agg #[.bool false,.string ⟨#[]⟩,.string ⟨#[]⟩,.bool false,.string ⟨#[]⟩,.string ⟨#[]⟩]) 6 80 1 Tryz.underlying35 yD rfl (by decide) (.slice pF i pG) i ((bQ.take i).flatMap Bk.cells) (by rfl) (own_below wC.out aY.out) (by rfl) rfl ?_ ?_ ?_ ?_ ?_
      any_goals first|(unfold maxLen;omega)|omega
      ·intro u hu;simp only[List.mem_cons,List.not_mem_nil,or_false] at hu;rcases hu with rfl|rfl|rfl|rfl|rfl|rfl<;>rfl
      ·have h1:=mW.out.lt;have h2:=aY.out.size;omega
      intro v' lW hown hgr _;obtain⟨Av,cv,rfl,_⟩:=bM hown;have hkc:=(mW.out.below aY.out mW.out.lt)
      have vP:=zH (TF.grown (own_below wC.out aY.out) hgr);have qU:=zH (vP.out.blk hkc (by decide));have qV:Hid (Below w.heap.size w lW):=(ah ku.out aY.out).grown hgr (by have h1:=ku.out.size;have h2:=aY.out.size;omega) (fun k hk=>by have h1:=((own_below wC.out aY.out).lt k hk).1;have h2:=cZ.out;omega);have GR:=zH (vP.out.blk (HG2.out.below aY.out HG2.out.lt) (by decide));have GU:=zH hown;clear hown hgr hkc;refine aT hK (qV.out) fun hHeld=>?_
      clear hK K;refine ay 9 ?_;refine bJ 10 fun K hK=>?_
      have hkc:=qU.out.cells;have rO:=qU.out.aF;go_simp;go_wp2_with fail;refine aT hK (qV.out.setCell (p:=⟨C,3,none⟩) cZ.out _) fun hHeld=>?_
      clear hK K;refine wpAnyH_done (by kernel_rfl) ?_ _;refine NoPanic.normal ?_;go_wp2
      go_roundg (bQ.length-(i+1))
      case measure=>omega
      case rel=>exact⟨i+1,Av,cv,by omega,by go_num,qV.out.setCell (p:=⟨C,3,none⟩) cZ.out _,qU.out.set 3 _,(by show World.ownsRow _ _ _ _ _ _ _;rw[ny.out];exact eU GU.out 3 _),GR.out.other (p:=⟨C,3,none⟩) HGC.out _⟩
  ·have hin:i=bQ.length:=by omega
   have HO:=hoW;rw[hin,List.take_of_length_le (Nat.le_refl _)] at HO;rw[hin] at iD;have HP:=zH (tZ.out.below hbr.out);have vS:Hid (R<C):=by have h1:=tZ.out.blk.lt;have h2:=cZ.out;show R<C;omega
   have oZ:Hid (∀g,sv.ownBlock=some g→g<w.heap.size):=fun g hg=>(tZ.out.s.lt g hg).2
   have yE:Hid (∀W',Below wr.heap.size wr W'→W'.cell? ⟨C,0,none⟩=some (.string nm)∧W'.cell? ⟨C,1,none⟩=some (.int .i64 tm)∧W'.cell? ⟨C,2,none⟩=some (.int .i64 td)∧W'.cell? ⟨C,3,none⟩=some (.slice pF bQ.length pG)):=fun W' hb=>⟨(iD.out.below hb iD.out.lt).cells 0,(iD.out.below hb iD.out.lt).cells 1,(iD.out.below hb iD.out.lt).cells 2,(iD.out.below hb iD.out.lt).cells 3⟩
   have fQ:=zH hbr.out;clear hbr hoW uf hin
   go_upto_region 11 with fail
   refine wp_region_noPanic ?_;refine wp_region_held_drew (S:=(fun w'=>w'.cell? ⟨C,0,none⟩=some (.string nm)∧w'.cell? ⟨C,1,none⟩=some (.int .i64 tm)∧w'.cell? ⟨C,2,none⟩=some (.int .i64 td)∧w'.cell? ⟨C,3,none⟩=some (.slice pF bQ.length pG))) (by kernel_rfl) (yE.out _ (ak wr.heap.size wr 1)) (fun hHeld=>?_);refine ay 0 ?_;refine ay 1 ?_;refine ay 2 ?_;refine ay 3 ?_;refine ay 5 ?_;refine Ap 4 6 (fun K hK=>?_) fun K hK=>?_
   ·have hc4:(wr).cell? ⟨R,1,none⟩=some sv:=(HP.out.below (Below.refl _ _)).blk.cells 1;go_simp;go_wp2_with fail;refine aT hK (yE.out _ (ak wr.heap.size wr 1)) fun hHeld=>?_
    clear hK K;refine bJ 6 fun K hK=>?_
    go_simp;go_wp2_with fail;refine aT hK (yE.out _ ((ak wr.heap.size wr 1).alloc (ak wr.heap.size wr 1).size _)) fun hHeld=>?_
    clear hK K;refine bJ 7 fun K hK=>?_
    refine gG wr.drew #[.string nm,.int .i64 tm,.int .i64 td,.slice pF bQ.length pG] (by rfl) _ _ 23 (by rfl) (R+1) 37 (.agg #[.string ⟨#[]⟩,.int .i64 0,.int .i64 0,.slice none 0 0]) 4 56 1 Tryz.underlying23 GN rfl (by decide) sv ss.length (ss.flatMap fU) (by rfl) HP.out.s (by rfl) rfl ?_ ?_ ?_ ?_ ?_
    any_goals first|(unfold maxLen;omega)|omega
    ·intro u hu;simp only[List.mem_cons,List.not_mem_nil,or_false] at hu;rcases hu with rfl|rfl|rfl|rfl<;>rfl
    ·have h1:=HP.out.blk.lt;show R+1≤wr.heap.size;omega
    intro v' lW hown hgr _;obtain⟨Av,cv,rfl,_⟩:=bM hown;have HQ:=zH ((HP.out.below (ak wr.heap.size wr 1)).UY (⟨nm,tm,td,bQ⟩,⟨pF,bQ.length,pG⟩) ⟨rfl,lT HO.out (by have:=vS.out;omega)⟩ hown hgr);have Ep:Hid (aj lW R 26 [fv,sv,pv]):=(hgr.block R HP.out.blk.lt (fun e=>by have h1:=(HP.out.s.lt R e.symm).1;omega)).trans HP.out.blk;have dP:Hid (aj lW C 37 [.string nm,.int .i64 tm,.int .i64 td,.slice pF bQ.length pG]):=(hgr.block C iD.out.lt (fun e=>by have h1:=oZ.out C e.symm;have h2:=cZ.out;omega)).trans iD.out;have qB:Hid (FR R w _):=FR.grown (i:=1) (u:=.slice Av (ss.length+1) cv) (ah fQ.out (ak wr.heap.size wr 1)) (HP.out.below (ak wr.heap.size wr 1)).s (.inr (.inl rfl)) hgr;clear hown hgr;refine aT hK (⟨dP.out.cells 0,dP.out.cells 1,dP.out.cells 2,dP.out.cells 3⟩) fun hHeld=>?_
    clear hK K;refine ay 8 ?_;refine ay 9 ?_;refine bJ 10 fun K hK=>?_
    have hkc:=Ep.out.cells;have rO:=Ep.out.aF;go_simp;go_wp2_with fail;refine aT hK (⟨(dP.out.other (p:=⟨R,1,none⟩) (by have:=vS.out;show C≠R;omega) _).cells 0,(dP.out.other (p:=⟨R,1,none⟩) (by have:=vS.out;show C≠R;omega) _).cells 1,(dP.out.other (p:=⟨R,1,none⟩) (by have:=vS.out;show C≠R;omega) _).cells 2,(dP.out.other (p:=⟨R,1,none⟩) (by have:=vS.out;show C≠R;omega) _).cells 3⟩) fun hHeld=>?_
    clear hK K;refine wpAnyH_done (by kernel_rfl) ?_ _;refine NoPanic.normal ?_;go_wp2;go_end0;exact⟨rfl,⟨_,_,HQ.out⟩,qB.out⟩
   ·go_simp;go_wp2_with fail;refine aT hK (yE.out _ ((ak wr.heap.size wr 1).alloc (ak wr.heap.size wr 1).size _)) fun hHeld=>?_
    clear hK K;refine bJ 4 fun K hK=>?_
    have hc4:(wr.alloc (.cells #[.string nm,.int .i64 tm,.int .i64 td,.slice pF bQ.length pG] 37)).cell? ⟨R,1,none⟩=some sv:=(HP.out.below ((Below.refl _ _).alloc (Nat.le_refl _) (.cells #[.string nm,.int .i64 tm,.int .i64 td,.slice pF bQ.length pG] 37))).blk.cells 1;go_simp;go_wp2_with fail;refine aT hK (yE.out _ ((ak wr.heap.size wr 1).alloc (ak wr.heap.size wr 1).size (.cells #[.string nm,.int .i64 tm,.int .i64 td,.slice pF bQ.length pG] 37))) fun hHeld=>?_
    clear hK K;refine bJ 7 fun K hK=>?_
    refine gG wr.drew #[.string nm,.int .i64 tm,.int .i64 td,.slice pF bQ.length pG] (by rfl) _ _ 23 (by rfl) (R+1) 37 (.agg #[.string ⟨#[]⟩,.int .i64 0,.int .i64 0,.slice none 0 0]) 4 56 1 Tryz.underlying23 GN rfl (by decide) sv ss.length (ss.flatMap fU) (by rfl) HP.out.s (by rfl) rfl ?_ ?_ ?_ ?_ ?_
    any_goals first|(unfold maxLen;omega)|omega
    ·intro u hu;simp only[List.mem_cons,List.not_mem_nil,or_false] at hu;rcases hu with rfl|rfl|rfl|rfl<;>rfl
    ·have h1:=HP.out.blk.lt;show R+1≤wr.heap.size;omega
    intro v' lW hown hgr _;obtain⟨Av,cv,rfl,_⟩:=bM hown;have HQ:=zH ((HP.out.below (ak wr.heap.size wr 1)).UY (⟨nm,tm,td,bQ⟩,⟨pF,bQ.length,pG⟩) ⟨rfl,lT HO.out (by have:=vS.out;omega)⟩ hown hgr);have Ep:Hid (aj lW R 26 [fv,sv,pv]):=(hgr.block R HP.out.blk.lt (fun e=>by have h1:=(HP.out.s.lt R e.symm).1;omega)).trans HP.out.blk;have dP:Hid (aj lW C 37 [.string nm,.int .i64 tm,.int .i64 td,.slice pF bQ.length pG]):=(hgr.block C iD.out.lt (fun e=>by have h1:=oZ.out C e.symm;have h2:=cZ.out;omega)).trans iD.out;have qB:Hid (FR R w _):=FR.grown (i:=1) (u:=.slice Av (ss.length+1) cv) (ah fQ.out (ak wr.heap.size wr 1)) (HP.out.below (ak wr.heap.size wr 1)).s (.inr (.inl rfl)) hgr;clear hown hgr;refine aT hK (⟨dP.out.cells 0,dP.out.cells 1,dP.out.cells 2,dP.out.cells 3⟩) fun hHeld=>?_
    clear hK K;refine ay 8 ?_;refine ay 9 ?_;refine bJ 10 fun K hK=>?_
    have hkc:=Ep.out.cells;have rO:=Ep.out.aF;go_simp;go_wp2_with fail;refine aT hK (⟨(dP.out.other (p:=⟨R,1,none⟩) (by have:=vS.out;show C≠R;omega) _).cells 0,(dP.out.other (p:=⟨R,1,none⟩) (by have:=vS.out;show C≠R;omega) _).cells 1,(dP.out.other (p:=⟨R,1,none⟩) (by have:=vS.out;show C≠R;omega) _).cells 2,(dP.out.other (p:=⟨R,1,none⟩) (by have:=vS.out;show C≠R;omega) _).cells 3⟩) fun hHeld=>?_
    clear hK K;refine wpAnyH_done (by kernel_rfl) ?_ _;refine NoPanic.normal ?_;go_wp2;go_end0;exact⟨rfl,⟨_,_,HQ.out⟩,qB.out⟩
theorem Et:(Tryz.prog.info? 46).map (fun i=>(i.zero,i.size,i.bytes))=some (some (.agg #[.string ⟨#[]⟩,.bool false,.int .i64 0,.int .i64 0,.slice none 0 0,.bool false,.bool false,.string ⟨#[]⟩,.string ⟨#[]⟩,.bool false,.string ⟨#[]⟩,.string ⟨#[]⟩]),12,152):=by kernel_rfl
def abX:ByteArray:=⟨#[99,104,97,114,103,101]⟩
def aeN:ByteArray:=⟨#[115,116,101,112]⟩
def aeO:ByteArray:=⟨#[99,97,112]⟩
def Aj (ch sp:Bool) (x y:ByteArray):List ByteArray:=(if ch then [abX] else [])++(if sp then [aeN,x,aeO,y] else [])
theorem XU (w0 w:World) (R g:Nat) (l:Lw) (ss:List (Sc × Hd)) (ps:List (Pv × Hd)) (fv sv pv:Value) (wd nm s rest x y:ByteArray) (t:Ty) (ch sp:Bool) (st cp:Ra) (body:List Nd) (h:PT w0 w R l ss ps fv sv pv) (hL:bZ w) (ht:Eo t=true) (hs:s=bV t) (hn:ps.length≤1000)
  (hr:rest.data.toList.length≤1048576) (hb:IU rest.data.toList=(body,0)) (hx:sp=true→x.size≤1048576∧y.size≤1048576∧fM x=(st,true)∧fM y=(cp,true)) (hz:sp=false→st=zR∧cp=zR) (m:Nat) (hm:m=(Aj ch sp x y).length) (hg:aj w g 9 (strs (wd::nm::s::Aj ch sp x y))):
  Calls Tryz.prog 98 #[.pointer (some ⟨R,0,none⟩),.slice (some ⟨g,1,none⟩) (m+2:Nat) (m+2:Nat),.string rest] w fun e w'=>e=.returned (.tuple #[])∧(∃v' hd,PT w0 w' R ⟨l.facts,l.bI,l.aP++[⟨nm,t,ch,st,cp,body⟩]⟩ ss (ps++[(⟨nm,t,ch,st,cp,body⟩,hd)]) fv sv v')∧FR R w w':=by
 have HT:=zH (fun W (hb:Below w.heap.size w W)=>hs ▸ zI t W (hL.below hb) ht);have tZ:=zH h;have kD:Hid (∀W,Below w.heap.size w W→bZ W):=fun W hb=>hL.below hb
 have HG:Hid (∀W,Below w.heap.size w W→aj W g 9 (strs (wd::nm::s::Aj ch sp x y))):=fun W hb=>hg.below hb hg.lt
 have dW:Hid (∀W,Below w.heap.size w W→W.cell? ⟨g,1,none⟩=some (.string nm)∧W.cell? ⟨g,2,none⟩=some (.string s)):=fun W hb=>⟨(HG.out W hb).cells 1,(HG.out W hb).cells 2⟩
 have HX:=zH hx
 have HPA:Hid (∀W,Below w.heap.size w W→Calls Tryz.prog 99 #[.string rest] W (OL (body,0) W)):=fun W hb'=>by
  have k:=Uo rest.data.toList body W (hL.below hb').e hr hb;exact k
 have HM:=zH qR;have HRW:Hid (R<w.heap.size):=h.blk.lt;have oZ:Hid (∀k,pv.ownBlock=some k→k<w.heap.size):=fun k hk=>(h.p.lt k hk).2
 obtain⟨tt,tm,td⟩:=t;obtain⟨p1,p2,p3⟩:=st;obtain⟨q1,q2,q3⟩:=cp;have HZ:=zH hz;have FQ:=zH hm;unfold Ty.v at HT;simp only at HT;have hm0:(0:Int)<(m:Int)+2:=by omega
 have hm1:(1:Int)<(m:Int)+2:=by omega
 have ajh:decide ((2:Int)≤(m:Int)+2)=true:=decide_eq_true (by omega);clear h hL ht hs hg hx hr hb hz hm;go_enter Tryz.func98,Tryz.ntmps98;go_wp2_with fail;refine (HM.out w).mono ?_;rintro e w1 ⟨rfl,hw1⟩;have hw2:=hw1.symm;clear hw1;subst hw2
 go_upto_region 1 with fail
 go_cut [6] from 13 to 20 (fun v wc=>∃C,v=.pointer (some ⟨C,0,none⟩)∧Hid (w.heap.size≤C)∧Hid (aj wc C 46 [.string nm,.bool tt,.int .i64 tm,.int .i64 td,.slice none 0 0,.bool false,.bool false,.string ⟨#[]⟩,.string ⟨#[]⟩,.bool false,.string ⟨#[]⟩,.string ⟨#[]⟩])∧Hid (Below w.heap.size w wc))
 case first=>
  refine wp_region_noPanic ?_;refine wp_region_held_drew (S:=(fun w'=>w'.cell? ⟨g,1,none⟩=some (.string nm)∧w'.cell? ⟨g,2,none⟩=some (.string s))) (by kernel_rfl) (dW.out _ (Below.drew (Below.refl _ w))) (fun hHeld=>?_);refine ay 0 ?_;refine ay 1 ?_;refine ay 2 ?_;refine ay 3 ?_;refine ay 4 ?_;refine ay 5 ?_;refine Ap 6 8 (fun K hK=>?_) fun K hK=>?_
  ·go_simp;refine (HT.out _ (ak w.heap.size w 1)).mono ?_;rintro e w10 ⟨rfl,dA⟩;have aY:=zH (ah (ak w.heap.size w 1) dA);go_wp2_with fail;refine aT hK (dW.out _ aY.out) fun hHeld=>?_
   clear hK K;refine ay 7 ?_;refine bJ 8 fun K hK=>?_
   go_simp;go_wp2_with fail;refine aT hK (dW.out _ (aY.out.alloc aY.out.size _)) fun hHeld=>?_
   clear hK K;obtain⟨W1,hW1⟩:=zE (w10.alloc (.cells #[.string ⟨#[]⟩,.bool false,.int .i64 0,.int .i64 0,.slice none 0 0,.bool false,.bool false,.string ⟨#[]⟩,.string ⟨#[]⟩,.bool false,.string ⟨#[]⟩,.string ⟨#[]⟩] 46));obtain⟨C,hC⟩:=zE w10.heap.size;have dP:Hid (aj W1 C 46 [.string ⟨#[]⟩,.bool false,.int .i64 0,.int .i64 0,.slice none 0 0,.bool false,.bool false,.string ⟨#[]⟩,.string ⟨#[]⟩,.bool false,.string ⟨#[]⟩,.string ⟨#[]⟩]):=by show aj _ _ _ _;rw[hW1,hC];exact aj.new w10 _ _
   have HB1:Hid (Below w.heap.size w W1):=by show Below _ _ _;rw[hW1];exact aY.out.alloc aY.out.size _
   have cZ:Hid (w.heap.size≤C):=by show _≤C;rw[hC];exact aY.out.size
   simp only[←hW1,←hC]
   clear hW1 hC;refine bJ 9 fun K hK=>?_
   have hkc:=dP.out.cells;have rO:=dP.out.aF;go_simp;go_wp2_with fail;refine aT hK (dW.out _ ((((((((((((HB1.out.setCell (p:=⟨C,0,none⟩) cZ.out _).setCell (p:=⟨C,1,none⟩) cZ.out _).setCell (p:=⟨C,2,none⟩) cZ.out _).setCell (p:=⟨C,3,none⟩) cZ.out _).setCell (p:=⟨C,4,none⟩) cZ.out _).setCell (p:=⟨C,5,none⟩) cZ.out _).setCell (p:=⟨C,6,none⟩) cZ.out _).setCell (p:=⟨C,7,none⟩) cZ.out _).setCell (p:=⟨C,8,none⟩) cZ.out _).setCell (p:=⟨C,9,none⟩) cZ.out _).setCell (p:=⟨C,10,none⟩) cZ.out _).setCell (p:=⟨C,11,none⟩) cZ.out _)) fun hHeld=>?_
   clear hK K;refine wpAnyH_done (by kernel_rfl) ?_ _;refine NoPanic.normal ?_;go_wp2
   go_meet
   case rel=>exact⟨C,rfl,cZ,((((((((((((dP.out.set 0 (.string nm)).set 1 (.bool tt)).set 2 (.int .i64 tm)).set 3 (.int .i64 td)).set 4 (.slice none 0 0)).set 5 (.bool false)).set 6 (.bool false)).set 7 (.string ⟨#[]⟩)).set 8 (.string ⟨#[]⟩)).set 9 (.bool false)).set 10 (.string ⟨#[]⟩)).set 11 (.string ⟨#[]⟩)),((((((((((((HB1.out.setCell (p:=⟨C,0,none⟩) cZ.out _).setCell (p:=⟨C,1,none⟩) cZ.out _).setCell (p:=⟨C,2,none⟩) cZ.out _).setCell (p:=⟨C,3,none⟩) cZ.out _).setCell (p:=⟨C,4,none⟩) cZ.out _).setCell (p:=⟨C,5,none⟩) cZ.out _).setCell (p:=⟨C,6,none⟩) cZ.out _).setCell (p:=⟨C,7,none⟩) cZ.out _).setCell (p:=⟨C,8,none⟩) cZ.out _).setCell (p:=⟨C,9,none⟩) cZ.out _).setCell (p:=⟨C,10,none⟩) cZ.out _).setCell (p:=⟨C,11,none⟩) cZ.out _)⟩
  ·go_simp;go_wp2_with fail;refine aT hK (dW.out _ ((ak w.heap.size w 1).alloc (ak w.heap.size w 1).size (.cells #[.string ⟨#[]⟩,.bool false,.int .i64 0,.int .i64 0,.slice none 0 0,.bool false,.bool false,.string ⟨#[]⟩,.string ⟨#[]⟩,.bool false,.string ⟨#[]⟩,.string ⟨#[]⟩] 46))) fun hHeld=>?_
   clear hK K;refine bJ 6 fun K hK=>?_
   go_simp;refine (HT.out _ ((ak w.heap.size w 1).alloc (ak w.heap.size w 1).size (.cells #[.string ⟨#[]⟩,.bool false,.int .i64 0,.int .i64 0,.slice none 0 0,.bool false,.bool false,.string ⟨#[]⟩,.string ⟨#[]⟩,.bool false,.string ⟨#[]⟩,.string ⟨#[]⟩] 46))).mono ?_;rintro e w10 ⟨rfl,dA⟩;have aY:=zH (ah ((ak w.heap.size w 1).alloc (ak w.heap.size w 1).size (.cells #[.string ⟨#[]⟩,.bool false,.int .i64 0,.int .i64 0,.slice none 0 0,.bool false,.bool false,.string ⟨#[]⟩,.string ⟨#[]⟩,.bool false,.string ⟨#[]⟩,.string ⟨#[]⟩] 46)) dA);go_wp2_with fail;refine aT hK (dW.out _ aY.out) fun hHeld=>?_
   clear hK K;refine ay 7 ?_;obtain⟨C,hC⟩:=zE w.heap.size;have dP:Hid (aj w10 C 46 [.string ⟨#[]⟩,.bool false,.int .i64 0,.int .i64 0,.slice none 0 0,.bool false,.bool false,.string ⟨#[]⟩,.string ⟨#[]⟩,.bool false,.string ⟨#[]⟩,.string ⟨#[]⟩]):=by show aj _ _ _ _;rw[hC];exact (aj.new (w.drewN 1) 46 #[.string ⟨#[]⟩,.bool false,.int .i64 0,.int .i64 0,.slice none 0 0,.bool false,.bool false,.string ⟨#[]⟩,.string ⟨#[]⟩,.bool false,.string ⟨#[]⟩,.string ⟨#[]⟩]).below dA (aj.new (w.drewN 1) 46 #[.string ⟨#[]⟩,.bool false,.int .i64 0,.int .i64 0,.slice none 0 0,.bool false,.bool false,.string ⟨#[]⟩,.string ⟨#[]⟩,.bool false,.string ⟨#[]⟩,.string ⟨#[]⟩]).lt
   have cZ:Hid (w.heap.size≤C):=Nat.le_of_eq hC.symm;simp only[←hC]
   clear hC;refine bJ 9 fun K hK=>?_
   have hkc:=dP.out.cells;have rO:=dP.out.aF;go_simp;go_wp2_with fail;refine aT hK (dW.out _ ((((((((((((aY.out.setCell (p:=⟨C,0,none⟩) cZ.out _).setCell (p:=⟨C,1,none⟩) cZ.out _).setCell (p:=⟨C,2,none⟩) cZ.out _).setCell (p:=⟨C,3,none⟩) cZ.out _).setCell (p:=⟨C,4,none⟩) cZ.out _).setCell (p:=⟨C,5,none⟩) cZ.out _).setCell (p:=⟨C,6,none⟩) cZ.out _).setCell (p:=⟨C,7,none⟩) cZ.out _).setCell (p:=⟨C,8,none⟩) cZ.out _).setCell (p:=⟨C,9,none⟩) cZ.out _).setCell (p:=⟨C,10,none⟩) cZ.out _).setCell (p:=⟨C,11,none⟩) cZ.out _)) fun hHeld=>?_
   clear hK K;refine wpAnyH_done (by kernel_rfl) ?_ _;refine NoPanic.normal ?_;go_wp2
   go_meet
   case rel=>exact⟨C,rfl,cZ,((((((((((((dP.out.set 0 (.string nm)).set 1 (.bool tt)).set 2 (.int .i64 tm)).set 3 (.int .i64 td)).set 4 (.slice none 0 0)).set 5 (.bool false)).set 6 (.bool false)).set 7 (.string ⟨#[]⟩)).set 8 (.string ⟨#[]⟩)).set 9 (.bool false)).set 10 (.string ⟨#[]⟩)).set 11 (.string ⟨#[]⟩)),((((((((((((aY.out.setCell (p:=⟨C,0,none⟩) cZ.out _).setCell (p:=⟨C,1,none⟩) cZ.out _).setCell (p:=⟨C,2,none⟩) cZ.out _).setCell (p:=⟨C,3,none⟩) cZ.out _).setCell (p:=⟨C,4,none⟩) cZ.out _).setCell (p:=⟨C,5,none⟩) cZ.out _).setCell (p:=⟨C,6,none⟩) cZ.out _).setCell (p:=⟨C,7,none⟩) cZ.out _).setCell (p:=⟨C,8,none⟩) cZ.out _).setCell (p:=⟨C,9,none⟩) cZ.out _).setCell (p:=⟨C,10,none⟩) cZ.out _).setCell (p:=⟨C,11,none⟩) cZ.out _)⟩
 case rest=>
  obtain⟨C,rfl,cZ,JQ,HB1⟩:=hcut
  go_upto_region 2 with fail
  go_cut [1] from 21 to 22 (fun v w'=>∃A2,v=.slice A2 (m:Nat) (m:Nat)∧Hid (m≠0→A2=some ⟨g,3,none⟩)∧w'=wc)
  case first=>
   rcases Nat.eq_zero_or_pos m with h0|h0
   ·subst h0;go_wp2
    go_meet
    case rel=>exact⟨_,rfl,fun h=>absurd rfl h,rfl⟩
   ·obtain⟨k,rfl⟩:∃k,m=k+1:=⟨m-1,by omega⟩
    go_wp2
    go_meet
    case rel=>exact⟨_,rfl,fun h=>rfl,rfl⟩
  case rest=>
   obtain⟨A2,rfl,HA2,rfl⟩:=hcut
   go_upto_region 3 with fail
   go_cut [31] from 23 to 31 (fun v w'=>v=.bool ch∧w'=wc)
   case first=>
    have h3:=(HG.out _ HB1.out).cells 3;cases ch<;>cases sp
    ·obtain rfl:m=0:=FQ.out;go_wp2
     go_meet
     case rel=>exact⟨rfl,rfl⟩
    ·obtain rfl:m=4:=FQ.out;obtain rfl:=HA2.out (by decide);replace h3:wc.cell? ⟨g,3,none⟩=some (.string ⟨#[115,116,101,112]⟩):=h3;go_wp2
     go_meet
     case rel=>exact⟨rfl,rfl⟩
    ·obtain rfl:m=1:=FQ.out;obtain rfl:=HA2.out (by decide);replace h3:wc.cell? ⟨g,3,none⟩=some (.string ⟨#[99,104,97,114,103,101]⟩):=h3;go_wp2
     go_meet
     case rel=>exact⟨rfl,rfl⟩
    ·obtain rfl:m=5:=FQ.out;obtain rfl:=HA2.out (by decide);replace h3:wc.cell? ⟨g,3,none⟩=some (.string ⟨#[99,104,97,114,103,101]⟩):=h3;go_wp2
     go_meet
     case rel=>exact⟨rfl,rfl⟩
   case rest=>
    obtain⟨rfl,rfl⟩:=hcut
    go_upto_if 31 with fail
    go_cut [1] from 32 to 34 (fun v w'=>∃(A3:Option Addr) (q o3:Nat),v=.slice A3 q q∧Hid (q=if sp then 4 else 0)∧Hid (o3=if ch then 4 else 3)∧Hid (sp=true→A3=some ⟨g,o3,none⟩)∧Hid (aj w' C 46 [.string nm,.bool tt,.int .i64 tm,.int .i64 td,.slice none 0 0,.bool ch,.bool false,.string ⟨#[]⟩,.string ⟨#[]⟩,.bool false,.string ⟨#[]⟩,.string ⟨#[]⟩])∧Hid (Below w.heap.size w w'))
    case first=>
     cases ch
     ·go_wp2
      go_meet
      case rel=>
       refine⟨A2,m,3,rfl,?_,rfl,fun h=>HA2.out ?_,JQ,HB1⟩
       ·show _=_;rw[FQ.out];cases sp<;>rfl
       ·subst h;rw[FQ.out];show (4:Nat)≠0;decide
     ·have hkc:=JQ.out.cells;have rO:=JQ.out.aF;cases sp
      ·obtain rfl:m=1:=FQ.out;obtain rfl:=HA2.out (by decide)
       go_upto_region 4 with fail
       go_region;go_wp2
       go_meet
       case rel=>exact⟨_,0,4,rfl,rfl,rfl,(fun h=>by cases h),JQ.out.set 5 _,(HB1.out.setCell (p:=⟨C,5,none⟩) cZ.out _).drew⟩
      ·obtain rfl:m=5:=FQ.out;obtain rfl:=HA2.out (by decide)
       go_upto_region 4 with fail
       go_region;go_wp2
       go_meet
       case rel=>exact⟨_,4,4,rfl,rfl,rfl,(fun _=>rfl),JQ.out.set 5 _,(HB1.out.setCell (p:=⟨C,5,none⟩) cZ.out _).drew⟩
    case rest=>
     obtain⟨A3,q,o3,rfl,HQ4,yQ,RF,U0,HB3⟩:=hcut;clear JQ HB1 FQ HA2
     go_upto_if 37 with fail
     go_cut [] from 38 to 63 (fun w'=>Hid (aj w' C 46 [.string nm,.bool tt,.int .i64 tm,.int .i64 td,.slice none 0 0,.bool ch,.bool p1,.string p2,.string p3,.bool q1,.string q2,.string q3])∧Hid (Below w.heap.size w w'))
     case first=>
      cases sp
      ·obtain rfl:q=0:=HQ4.out;obtain⟨e1,e2⟩:=HZ.out rfl;injection e1 with e1 e3 e4;injection e2 with e2 e5 e6;subst e1 e2 e3 e4 e5 e6;go_wp2
       go_meet
       case rel=>exact⟨U0,HB3⟩
      ·obtain rfl:q=4:=HQ4.out;obtain rfl:=RF.out rfl;obtain⟨hx1,hy1,hrx,Hu⟩:=HX.out rfl
       have HC4:Hid (∀W,Below w.heap.size w W→W.cell? ⟨g,o3,none⟩=some (.string ⟨#[115,116,101,112]⟩)∧W.cell? ⟨g,o3+1,none⟩=some (.string x)∧W.cell? ⟨g,o3+2,none⟩=some (.string ⟨#[99,97,112]⟩)∧W.cell? ⟨g,o3+3,none⟩=some (.string y)):=fun W hb=>by
        have k:=(HG.out W hb).cells;cases ch
        ·obtain rfl:o3=3:=yQ.out;exact⟨k 3,k 4,k 5,k 6⟩
        ·obtain rfl:o3=4:=yQ.out;exact⟨k 4,k 5,k 6,k 7⟩
       have O5:Hid (∀W,Laid W→Calls Tryz.prog 97 #[.string x] W fun e w'=>e=.returned (.agg #[.bool p1,.string p2,.string p3])∧Below W.heap.size W w'):=fun W hL=>by
        have k:=uV x W hL hx1 (by rw[hrx]);rw[hrx] at k;exact k
       have XT:Hid (∀W,Laid W→Calls Tryz.prog 97 #[.string y] W fun e w'=>e=.returned (.agg #[.bool q1,.string q2,.string q3])∧Below W.heap.size W w'):=fun W hL=>by
        have k:=uV y W hL hy1 (by rw[Hu]);rw[Hu] at k;exact k
       clear hx1 hy1 hrx Hu;have h3:=(HC4.out _ HB3.out).1;have h5:=(HC4.out _ HB3.out).2.2.1;obtain⟨W4,hW4⟩:=zE wc;subst hW4;have HM4:=zH (HM.out W4);go_wp2_with fail;refine HM4.out.mono ?_;rintro e w5 ⟨rfl,hw5⟩;have hw6:=hw5.symm;clear hw5;subst hw6;have Ph:=zH U0.out;have JR:=zH HB3.out;have CQ:=zH (fun W' (hb:Below W4.heap.size W4 W')=>O5.out W' (kD.out _ (ah JR.out hb)).e.base);have Ji:=zH (fun W' (hb:Below W4.heap.size W4 W')=>XT.out W' (kD.out _ (ah JR.out hb)).e.base);have jh:Hid (∀W',Below w.heap.size w W'→W'.cell? ⟨g,o3+1,none⟩=some (.string x)∧W'.cell? ⟨g,o3+3,none⟩=some (.string y)):=fun W' hb=>⟨(HC4.out _ hb).2.1,(HC4.out _ hb).2.2.2⟩
       have HS7:Hid (∀W',Below W4.heap.size W4 W'→W'.cell? ⟨g,o3+1,none⟩=some (.string x)∧W'.cell? ⟨g,o3+3,none⟩=some (.string y)):=fun W' hb=>jh.out _ (ah JR.out hb)
       clear h3 h5 O5 XT U0 HB3
       go_upto_region 7 with fail
       refine wp_region_noPanic ?_;refine wp_region_held_drew (S:=(fun w'=>w'.cell? ⟨g,o3+1,none⟩=some (.string x)∧w'.cell? ⟨g,o3+3,none⟩=some (.string y))) (by kernel_rfl) (HS7.out _ (ak W4.heap.size W4 1)) (fun hHeld=>?_);refine ay 0 ?_;refine ay 1 ?_;refine ay 2 ?_;refine ay 4 ?_;refine ay 5 ?_;refine ay 6 ?_;refine bJ 3 fun K hK=>?_
       go_simp;refine (CQ.out _ (ak W4.heap.size W4 1)).mono ?_;rintro e w5 ⟨rfl,hb5⟩;have eF:=zH (ah (ak W4.heap.size W4 1) hb5);go_wp2_with fail;refine aT hK (HS7.out _ eF.out) fun hHeld=>?_
       clear hK K;refine ay 8 ?_;refine bJ 7 fun K hK=>?_
       go_simp;refine (Ji.out _ eF.out).mono ?_;rintro e w6 ⟨rfl,hb6⟩;have mg:=zH (ah eF.out hb6);go_wp2_with fail;refine aT hK (HS7.out _ mg.out) fun hHeld=>?_
       clear hK K;have Pj:Hid (aj w6 C 46 [.string nm,.bool tt,.int .i64 tm,.int .i64 td,.slice none 0 0,.bool ch,.bool false,.string ⟨#[]⟩,.string ⟨#[]⟩,.bool false,.string ⟨#[]⟩,.string ⟨#[]⟩]):=Ph.out.below mg.out Ph.out.lt;have hkc:=Pj.out.cells;have rO:=Pj.out.aF;refine bJ 9 fun K hK=>?_
       go_simp;go_wp2_with fail;refine aT hK (jh.out _ ((((ah JR.out mg.out).setCell (p:=⟨C,6,none⟩) cZ.out _).setCell (p:=⟨C,7,none⟩) cZ.out _).setCell (p:=⟨C,8,none⟩) cZ.out _)) fun hHeld=>?_
       clear hK K;refine ay 10 ?_;have hkc:=(((Pj.out.set 6 (.bool p1)).set 7 (.string p2)).set 8 (.string p3)).cells;have rO:=(((Pj.out.set 6 (.bool p1)).set 7 (.string p2)).set 8 (.string p3)).aF;refine bJ 11 fun K hK=>?_
       go_simp;go_wp2_with fail;refine aT hK (jh.out _ (((((((ah JR.out mg.out).setCell (p:=⟨C,6,none⟩) cZ.out _).setCell (p:=⟨C,7,none⟩) cZ.out _).setCell (p:=⟨C,8,none⟩) cZ.out _).setCell (p:=⟨C,9,none⟩) cZ.out _).setCell (p:=⟨C,10,none⟩) cZ.out _).setCell (p:=⟨C,11,none⟩) cZ.out _)) fun hHeld=>?_
       clear hK K;refine wpAnyH_done (by kernel_rfl) ?_ _;refine NoPanic.normal ?_;go_wp2
       go_meet
       case rel=>exact⟨((((((Pj.out.set 6 (.bool p1)).set 7 (.string p2)).set 8 (.string p3)).set 9 (.bool q1)).set 10 (.string q2)).set 11 (.string q3)),(((((((ah JR.out mg.out).setCell (p:=⟨C,6,none⟩) cZ.out _).setCell (p:=⟨C,7,none⟩) cZ.out _).setCell (p:=⟨C,8,none⟩) cZ.out _).setCell (p:=⟨C,9,none⟩) cZ.out _).setCell (p:=⟨C,10,none⟩) cZ.out _).setCell (p:=⟨C,11,none⟩) cZ.out _)⟩
     case rest=>
      obtain⟨U3,eF⟩:=hcut;clear U0 HB3 HX HZ HQ4 yQ RF;go_wp2_with fail;refine (HPA.out _ eF.out).mono ?_;rintro e w7 ⟨Ab,nb,cb,rfl,hes,hb7,aa3⟩;obtain rfl:nb=body.length:=hes.len;have fA:=zH (ah eF.out hb7);have U4:Hid (aj w7 C 46 [.string nm,.bool tt,.int .i64 tm,.int .i64 td,.slice none 0 0,.bool ch,.bool p1,.string p2,.string p3,.bool q1,.string q2,.string q3]):=U3.out.below hb7 U3.out.lt;have Ll:Hid (w7.ownsRow (C+1) 48 5 (.slice Ab body.length cb) body.length (oV body)):=lT aa3 (by have:=U3.out.lt;omega);have HM7:=zH (HM.out w7);clear hes hb7 aa3;simp only
      go_wp2_with fail;refine HM7.out.mono ?_;rintro e w8 ⟨rfl,hw8⟩;have hw9:=hw8.symm;clear hw8;subst hw9;have hkc:=U4.out.cells;have rO:=U4.out.aF
      go_upto_region 11 with fail
      have ad4:aj (w7.setCell ⟨C,4,none⟩ (.slice Ab body.length cb)) C 46 [.string nm,.bool tt,.int .i64 tm,.int .i64 td,.slice Ab body.length cb,.bool ch,.bool p1,.string p2,.string p3,.bool q1,.string q2,.string q3]:=U4.out.set 4 _;have jr:Below w.heap.size w (w7.setCell ⟨C,4,none⟩ (.slice Ab body.length cb)):=fA.out.setCell (p:=⟨C,4,none⟩) cZ.out _;have ad5:=uH Ll.out (Nat.lt_succ_self C) 4 (.slice Ab body.length cb);generalize w7.setCell ⟨C,4,none⟩ (.slice Ab body.length cb)=wr at*;have iD:=zH ad4;have fQ:=zH jr;have HO:=zH ad5;have HP:=zH (tZ.out.below jr);have vS:Hid (R<C):=by have h1:=HRW.out;have h2:=cZ.out;show R<C;omega
      have yE:Hid (∀W',Below wr.heap.size wr W'→W'.cell? ⟨C,0,none⟩=some (.string nm)∧W'.cell? ⟨C,1,none⟩=some (.bool tt)∧W'.cell? ⟨C,2,none⟩=some (.int .i64 tm)∧W'.cell? ⟨C,3,none⟩=some (.int .i64 td)∧W'.cell? ⟨C,4,none⟩=some (.slice Ab body.length cb)∧W'.cell? ⟨C,5,none⟩=some (.bool ch)∧W'.cell? ⟨C,6,none⟩=some (.bool p1)∧W'.cell? ⟨C,7,none⟩=some (.string p2)∧W'.cell? ⟨C,8,none⟩=some (.string p3)∧W'.cell? ⟨C,9,none⟩=some (.bool q1)∧W'.cell? ⟨C,10,none⟩=some (.string q2)∧W'.cell? ⟨C,11,none⟩=some (.string q3)):=fun W' hb=>⟨(iD.out.below hb iD.out.lt).cells 0,(iD.out.below hb iD.out.lt).cells 1,(iD.out.below hb iD.out.lt).cells 2,(iD.out.below hb iD.out.lt).cells 3,(iD.out.below hb iD.out.lt).cells 4,(iD.out.below hb iD.out.lt).cells 5,(iD.out.below hb iD.out.lt).cells 6,(iD.out.below hb iD.out.lt).cells 7,(iD.out.below hb iD.out.lt).cells 8,(iD.out.below hb iD.out.lt).cells 9,(iD.out.below hb iD.out.lt).cells 10,(iD.out.below hb iD.out.lt).cells 11⟩
      clear ad4 jr ad5 U4 fA Ll U3 eF HM7 hkc rO;refine wp_region_noPanic ?_;refine wp_region_held_drew (S:=(fun w'=>w'.cell? ⟨C,0,none⟩=some (.string nm)∧w'.cell? ⟨C,1,none⟩=some (.bool tt)∧w'.cell? ⟨C,2,none⟩=some (.int .i64 tm)∧w'.cell? ⟨C,3,none⟩=some (.int .i64 td)∧w'.cell? ⟨C,4,none⟩=some (.slice Ab body.length cb)∧w'.cell? ⟨C,5,none⟩=some (.bool ch)∧w'.cell? ⟨C,6,none⟩=some (.bool p1)∧w'.cell? ⟨C,7,none⟩=some (.string p2)∧w'.cell? ⟨C,8,none⟩=some (.string p3)∧w'.cell? ⟨C,9,none⟩=some (.bool q1)∧w'.cell? ⟨C,10,none⟩=some (.string q2)∧w'.cell? ⟨C,11,none⟩=some (.string q3))) (by kernel_rfl) (yE.out _ (ak wr.heap.size wr 1)) (fun hHeld=>?_);refine ay 0 ?_;refine ay 1 ?_;refine ay 2 ?_;refine ay 3 ?_;refine ay 5 ?_;refine Ap 4 6 (fun K hK=>?_) fun K hK=>?_
      ·have hc4:(wr).cell? ⟨R,2,none⟩=some pv:=(HP.out.below (Below.refl _ _)).blk.cells 2;go_simp;go_wp2_with fail;refine aT hK (yE.out _ (ak wr.heap.size wr 1)) fun hHeld=>?_
       clear hK K;refine bJ 6 fun K hK=>?_
       go_simp;go_wp2_with fail;refine aT hK (yE.out _ ((ak wr.heap.size wr 1).alloc (ak wr.heap.size wr 1).size _)) fun hHeld=>?_
       clear hK K;refine bJ 7 fun K hK=>?_
       refine gG wr.drew #[.string nm,.bool tt,.int .i64 tm,.int .i64 td,.slice Ab body.length cb,.bool ch,.bool p1,.string p2,.string p3,.bool q1,.string q2,.string q3] (by rfl) _ _ 24 (by rfl) (R+1) 46 (.agg #[.string ⟨#[]⟩,.bool false,.int .i64 0,.int .i64 0,.slice none 0 0,.bool false,.bool false,.string ⟨#[]⟩,.string ⟨#[]⟩,.bool false,.string ⟨#[]⟩,.string ⟨#[]⟩]) 12 152 1 Tryz.underlying24 Et rfl (by decide) pv ps.length (ps.flatMap bg) (by rfl) HP.out.p (by rfl) rfl ?_ ?_ ?_ ?_ ?_
       any_goals first|(unfold maxLen;omega)|omega
       ·intro u hu;simp only[List.mem_cons,List.not_mem_nil,or_false] at hu;rcases hu with rfl|rfl|rfl|rfl|rfl|rfl|rfl|rfl|rfl|rfl|rfl|rfl<;>rfl
       ·have h1:=HP.out.blk.lt;show R+1≤wr.heap.size;omega
       intro v' lW hown hgr _;obtain⟨Av,cv,rfl,_⟩:=bM hown;have HQ:=zH ((HP.out.below (ak wr.heap.size wr 1)).pushP (⟨nm,⟨tt,tm,td⟩,ch,⟨p1,p2,p3⟩,⟨q1,q2,q3⟩,body⟩,⟨Ab,body.length,cb⟩) ⟨rfl,lT HO.out (by have:=vS.out;omega)⟩ hown hgr);have Ep:Hid (aj lW R 26 [fv,sv,pv]):=(hgr.block R HP.out.blk.lt (fun e=>by have h1:=(HP.out.p.lt R e.symm).1;omega)).trans HP.out.blk;have dP:Hid (aj lW C 46 [.string nm,.bool tt,.int .i64 tm,.int .i64 td,.slice Ab body.length cb,.bool ch,.bool p1,.string p2,.string p3,.bool q1,.string q2,.string q3]):=(hgr.block C iD.out.lt (fun e=>by have h1:=oZ.out C e.symm;have h2:=cZ.out;omega)).trans iD.out;have qB:Hid (FR R w _):=FR.grown (i:=2) (u:=.slice Av (ps.length+1) cv) (ah fQ.out (ak wr.heap.size wr 1)) (HP.out.below (ak wr.heap.size wr 1)).p (.inr (.inr rfl)) hgr;clear hown hgr;refine aT hK (⟨dP.out.cells 0,dP.out.cells 1,dP.out.cells 2,dP.out.cells 3,dP.out.cells 4,dP.out.cells 5,dP.out.cells 6,dP.out.cells 7,dP.out.cells 8,dP.out.cells 9,dP.out.cells 10,dP.out.cells 11⟩) fun hHeld=>?_
       clear hK K;refine ay 8 ?_;refine ay 9 ?_;refine bJ 10 fun K hK=>?_
       have hkc:=Ep.out.cells;have rO:=Ep.out.aF;go_simp;go_wp2_with fail;refine aT hK (by (have hq:=(dP.out.other (p:=⟨R,2,none⟩) (by have:=vS.out;show C≠R;omega) (.slice Av (ps.length+1) cv));exact⟨hq.cells 0,hq.cells 1,hq.cells 2,hq.cells 3,hq.cells 4,hq.cells 5,hq.cells 6,hq.cells 7,hq.cells 8,hq.cells 9,hq.cells 10,hq.cells 11⟩)) fun hHeld=>?_
       clear hK K;refine wpAnyH_done (by kernel_rfl) ?_ _;refine NoPanic.normal ?_;go_wp2;go_end0;exact⟨rfl,⟨_,_,HQ.out⟩,qB.out⟩
      ·go_simp;go_wp2_with fail;refine aT hK (yE.out _ ((ak wr.heap.size wr 1).alloc (ak wr.heap.size wr 1).size _)) fun hHeld=>?_
       clear hK K;refine bJ 4 fun K hK=>?_
       have hc4:(wr.alloc (.cells #[.string nm,.bool tt,.int .i64 tm,.int .i64 td,.slice Ab body.length cb,.bool ch,.bool p1,.string p2,.string p3,.bool q1,.string q2,.string q3] 46)).cell? ⟨R,2,none⟩=some pv:=(HP.out.below ((Below.refl _ _).alloc (Nat.le_refl _) (.cells #[.string nm,.bool tt,.int .i64 tm,.int .i64 td,.slice Ab body.length cb,.bool ch,.bool p1,.string p2,.string p3,.bool q1,.string q2,.string q3] 46))).blk.cells 2;go_simp;go_wp2_with fail;refine aT hK (yE.out _ ((ak wr.heap.size wr 1).alloc (ak wr.heap.size wr 1).size (.cells #[.string nm,.bool tt,.int .i64 tm,.int .i64 td,.slice Ab body.length cb,.bool ch,.bool p1,.string p2,.string p3,.bool q1,.string q2,.string q3] 46))) fun hHeld=>?_
       clear hK K;refine bJ 7 fun K hK=>?_
       refine gG wr.drew #[.string nm,.bool tt,.int .i64 tm,.int .i64 td,.slice Ab body.length cb,.bool ch,.bool p1,.string p2,.string p3,.bool q1,.string q2,.string q3] (by rfl) _ _ 24 (by rfl) (R+1) 46 (.agg #[.string ⟨#[]⟩,.bool false,.int .i64 0,.int .i64 0,.slice none 0 0,.bool false,.bool false,.string ⟨#[]⟩,.string ⟨#[]⟩,.bool false,.string ⟨#[]⟩,.string ⟨#[]⟩]) 12 152 1 Tryz.underlying24 Et rfl (by decide) pv ps.length (ps.flatMap bg) (by rfl) HP.out.p (by rfl) rfl ?_ ?_ ?_ ?_ ?_
       any_goals first|(unfold maxLen;omega)|omega
       ·intro u hu;simp only[List.mem_cons,List.not_mem_nil,or_false] at hu;rcases hu with rfl|rfl|rfl|rfl|rfl|rfl|rfl|rfl|rfl|rfl|rfl|rfl<;>rfl
       ·have h1:=HP.out.blk.lt;show R+1≤wr.heap.size;omega
       intro v' lW hown hgr _;obtain⟨Av,cv,rfl,_⟩:=bM hown;have HQ:=zH ((HP.out.below (ak wr.heap.size wr 1)).pushP (⟨nm,⟨tt,tm,td⟩,ch,⟨p1,p2,p3⟩,⟨q1,q2,q3⟩,body⟩,⟨Ab,body.length,cb⟩) ⟨rfl,lT HO.out (by have:=vS.out;omega)⟩ hown hgr);have Ep:Hid (aj lW R 26 [fv,sv,pv]):=(hgr.block R HP.out.blk.lt (fun e=>by have h1:=(HP.out.p.lt R e.symm).1;omega)).trans HP.out.blk;have dP:Hid (aj lW C 46 [.string nm,.bool tt,.int .i64 tm,.int .i64 td,.slice Ab body.length cb,.bool ch,.bool p1,.string p2,.string p3,.bool q1,.string q2,.string q3]):=(hgr.block C iD.out.lt (fun e=>by have h1:=oZ.out C e.symm;have h2:=cZ.out;omega)).trans iD.out;have qB:Hid (FR R w _):=FR.grown (i:=2) (u:=.slice Av (ps.length+1) cv) (ah fQ.out (ak wr.heap.size wr 1)) (HP.out.below (ak wr.heap.size wr 1)).p (.inr (.inr rfl)) hgr;clear hown hgr;refine aT hK (⟨dP.out.cells 0,dP.out.cells 1,dP.out.cells 2,dP.out.cells 3,dP.out.cells 4,dP.out.cells 5,dP.out.cells 6,dP.out.cells 7,dP.out.cells 8,dP.out.cells 9,dP.out.cells 10,dP.out.cells 11⟩) fun hHeld=>?_
       clear hK K;refine ay 8 ?_;refine ay 9 ?_;refine bJ 10 fun K hK=>?_
       have hkc:=Ep.out.cells;have rO:=Ep.out.aF;go_simp;go_wp2_with fail;refine aT hK (by (have hq:=(dP.out.other (p:=⟨R,2,none⟩) (by have:=vS.out;show C≠R;omega) (.slice Av (ps.length+1) cv));exact⟨hq.cells 0,hq.cells 1,hq.cells 2,hq.cells 3,hq.cells 4,hq.cells 5,hq.cells 6,hq.cells 7,hq.cells 8,hq.cells 9,hq.cells 10,hq.cells 11⟩)) fun hHeld=>?_
       clear hK K;refine wpAnyH_done (by kernel_rfl) ?_ _;refine NoPanic.normal ?_;go_wp2;go_end0;exact⟨rfl,⟨_,_,HQ.out⟩,qB.out⟩
end Go.Proofs.YtgfeadgafdijaaaGreatDoor
