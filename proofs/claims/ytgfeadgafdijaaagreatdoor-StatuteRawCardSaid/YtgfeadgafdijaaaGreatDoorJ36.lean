/- A part of the proof: Ug Uh Yy Yx Yk Uj Uk Um. -/
import Derived.Deep.Cut
import Derived.Deep.CutRange
import Derived.Test.YtgfeadgafdijaaaGreatDoorJ01
import Derived.Test.YtgfeadgafdijaaaGreatDoorJ21
import Derived.Test.YtgfeadgafdijaaaGreatDoorJ22
import Derived.Test.YtgfeadgafdijaaaGreatDoorJ26
import Derived.Test.YtgfeadgafdijaaaGreatDoorJ27
import Derived.Test.YtgfeadgafdijaaaGreatDoorJ28
import Derived.Test.YtgfeadgafdijaaaGreatDoorJ30
import Derived.Test.YtgfeadgafdijaaaGreatDoorJ32
import Derived.Test.YtgfeadgafdijaaaGreatDoorJ33
import Derived.Test.YtgfeadgafdijaaaGreatDoorJ35
set_option linter.unusedVariables false
set_option linter.unusedSimpArgs false
set_option maxRecDepth 100000
set_option maxHeartbeats 40000000
namespace Go.Proofs.YtgfeadgafdijaaaGreatDoor
open Go.RowKit
def yB (t:Ty):Prop:=(-1000≤t.aH∧t.aH≤1000)∧(-1000≤t.days∧t.days≤1000)∧iw (aW t.aH)∧iw (aW t.days)
structure EU (l:Lw):Prop where
 f:∀d∈l.facts,yB d.ty
 s:∀x∈l.bI,yB ⟨false,x.aH,x.days⟩
 p:∀x∈l.aP,yB x.ty
 b:∀x∈l.bI,x.bQ.length≤1000
structure TX (b:Nat) (w0 W:World) (tot R:List UInt8) (X:World):Prop where
 t:∃t0,WS w0.heap.size b w0 X t0∧t0++R=tot
 f:BF b W X
section
variable {b:Nat} {w0 W W2 X X':World} {tot R R':List UInt8}
theorem TX.bl (h:TX b w0 W tot R X):Below w0.heap.size w0 X:=let ⟨_,h1,_⟩:=h.t;h1.bl
theorem TX.lt (h:TX b w0 W tot R X):b<X.heap.size:=let ⟨_,h1,_⟩:=h.t;h1.lt
theorem TX.grow (h:TX b w0 W tot R X) (hb:Below X.heap.size X X'):TX b w0 W tot R X':=let ⟨t0,h1,h2⟩:=h.t;⟨⟨t0,h1.grow hb,h2⟩,h.f.trans (BF.of_below hb)⟩
theorem TX.here (h:TX b w0 W tot R X):TX b w0 X tot R X:=⟨h.t,BF.refl _ _⟩
theorem TX.back (h:TX b w0 X tot R X') (hf:BF b W X):TX b w0 W tot R X':=⟨h.t,hf.trans h.f⟩
theorem TX.as (h:TX b w0 W tot R X) (e:R=R'):TX b w0 W tot R' X:=e ▸ h
theorem TX.words (l:List ByteArray) (h:TX b w0 W tot (bD l++R) X) (ht:tot.length≤10000000000000) (hm:l.length≤1000:=by simp) (h0:l≠[]:=by simp):
  Calls Tryz.prog 48 #[.pointer (some ⟨b,0,none⟩),.slice (some ⟨X.heap.size,0,none⟩) l.length l.length] (X.alloc (.cells (strs l).toArray 9)) fun e X'=>e=.returned (.tuple #[])∧TX b w0 W tot R X'∧BF b X X':=by
 obtain⟨t0,h1,h2⟩:=h.t;have hb:=zB X (.cells (strs l).toArray 9);refine ((h1.grow hb).words l X.heap.size l.length (aj.new X _ _) h1.lt rfl hm h0 (by have:=congrArg List.length h2;simp only[List.length_append] at this;omega)).mono ?_;rintro e X' ⟨rfl,hx,hf⟩;have hf':=(BF.of_below (b:=b) hb).trans hf;exact⟨rfl,⟨⟨_,hx,by rw[List.append_assoc];exact h2⟩,h.f.trans hf'⟩,hf'⟩
end
theorem JL {α:Type} (f:α→List UInt8) {l:List α} {j:Nat} (h:j<l.length):(l.drop j).flatMap f=f l[j]++(l.drop (j+1)).flatMap f:=by rw[List.drop_eq_getElem_cons h,List.flatMap_cons]
theorem abV {l:List Bk} {j:Nat} (h:j<l.length):zG j (l.drop j)=bD (bkW j l[j])++zG (j+1) (l.drop (j+1)):=by rw[List.drop_eq_getElem_cons h];rfl
theorem XO (l:Lw) (ss:List (Sc × Hd)) (ps:List (Pv × Hd)) (f s p:Hd) (B b:Nat) (w0 w:World) (bs:List UInt8) (hS:WS B b w0 w bs) (hB0:B=w0.heap.size) (hL:bZ w0) (h:fG w0 l ss ps f s p) (hf:lU l) (hT:EU l) (hlen:bs.length+(gI l).length≤10000000000000):
  Calls Tryz.prog 22 #[.pointer (some ⟨b,0,none⟩),dQ f s p] w fun e w'=>e=.returned (.tuple #[])∧WS B b w0 w' (bs++gI l):=by
 subst hB0;obtain⟨fa,fn,fc⟩:=f;obtain⟨sa,sn,sc⟩:=s;obtain⟨pa,pn,pc⟩:=p;have hfn:fn≤1000:=by have:=h.f.len;have:=hf.fn;simp only at*;omega
 have hsn:sn≤1000:=by have h1:=h.s.len;have h2:=congrArg List.length h.sl;have:=hf.sn;rw[List.length_map] at h2;simp only at*;omega
 have hpn:pn≤1000:=by have h1:=h.p.len;have h2:=congrArg List.length h.pl;have:=hf.pn;rw[List.length_map] at h2;simp only at*;omega
 have hlt:(bs++gI l).length≤10000000000000:=by rw[List.length_append];exact hlen
 obtain⟨tot,htot⟩:=zE (bs++gI l);rw[←htot] at hlt⊢;have hX:TX b w0 w tot (l.facts.flatMap xq++(l.bI.flatMap uM++l.aP.flatMap vT)) w:=⟨⟨bs,hS,by rw[htot];unfold gI;simp only[List.append_assoc]⟩,BF.refl _ _⟩
 clear htot hlen hS;unfold dQ;go_enter Tryz.func22,Tryz.ntmps22
 go_upto_region 1 with fail
 generalize hW:w.alloc _=W;obtain⟨hQ,hg⟩:=zA hW;have hne:w.heap.size≠b:=by have:=hX.lt;omega
 replace hX:=(hX.grow hg).here;have hc:=fun (X:World) (k:BF b W X)=>show X.cell? ⟨w.heap.size,0,none⟩=some (Value.slice fa fn fc)∧X.cell? ⟨w.heap.size,1,none⟩=some (Value.slice sa sn sc)∧X.cell? ⟨w.heap.size,2,none⟩=some (Value.slice pa pn pc) from⟨(k.blk hQ (by decide) hne).cells 0,(k.blk hQ (by decide) hne).cells 1,(k.blk hQ (by decide) hne).cells 2⟩
 clear hW hQ hg hne;generalize w.heap.size=Q at hc⊢;have hW:=BF.refl b W;go_wp2
 go_loopg [17] fn (fun g iv wr=>∃j:Nat,j+g=fn∧iv=.int .i64 j∧TX b w0 W tot ((l.facts.drop j).flatMap xq++(l.bI.flatMap uM++l.aP.flatMap vT)) wr)
 case atStart=>exact⟨0,by omega,rfl,hX⟩
 case round=>
  clear hX hW;obtain⟨j,hj,rfl,hX⟩:=hrel;have hW:=hX.f;by_cases hlj:j<fn
  ·have hbl:=hX.bl;obtain⟨bb,off,nm,t,m,d,rfl,_,hx,hxe,hd⟩:=ES h.f hlj;have hty:=hT.f _ (List.getElem_mem hx);rw[hxe] at hty;replace hX:=hX.as (R':=bD [xk,nm,jW,bV ⟨t,m,d⟩,tH]++((l.facts.drop (j+1)).flatMap xq++(l.bI.flatMap uM++l.aP.flatMap vT))) (by rw[JL xq hx,hxe,List.append_assoc];rfl);clear hxe
   go_upto_region 4 with fail
   generalize hY:wr.alloc _=Y;obtain⟨hK,hg⟩:=zA hY;have hne:wr.heap.size≠b:=by have:=hX.lt;omega
   have hk:=fun (X:World) (k:BF b Y X)=>show X.cell? ⟨wr.heap.size,0,none⟩=some (.string nm)∧X.cell? ⟨wr.heap.size,1,none⟩=some (.bool t)∧X.cell? ⟨wr.heap.size,2,none⟩=some (.int .i64 m)∧X.cell? ⟨wr.heap.size,3,none⟩=some (.int .i64 d) from⟨(k.blk hK (by decide) hne).cells 0,(k.blk hK (by decide) hne).cells 1,(k.blk hK (by decide) hne).cells 2,(k.blk hK (by decide) hne).cells 3⟩
   replace hW:=hW.trans (BF.of_below hg);replace hX:=(hX.grow hg).here;clear hY hK hg hne hd hbl;generalize wr.heap.size=K at hk⊢;refine gy (BF b Y) 99 (BF.of_below (ak _ _ 1)) (fun w1 h1 hS=>?_);replace hX:=hX.grow h1
   iterate 5 refine bU ?_
   refine eY 5 (qL ⟨t,m,d⟩ w1 (hL.below hX.bl) hty.1 hty.2.1 hty.2.2.1 hty.2.2.2) ?_;rintro e w2 ⟨rfl,hb2⟩;replace hX:=hX.grow hb2;refine⟨_,rfl,hX.f,fun hS=>?_⟩;refine lF 6 (fun _=>hS.trans (BF.of_below (zB _ _))) (fun _=>?_);refine eY 7 (TX.words [xk,nm,jW,bV ⟨t,m,d⟩,tH] hX hlt) ?_;rintro e w3 ⟨rfl,hX,_⟩;refine⟨_,rfl,hX.f,fun hS=>?_⟩;refine dY ?_;go_wp2
   go_roundg (fn-(j+1))
   case measure=>omega
   case rel=>exact⟨j+1,by omega,by go_num,hX.back hW⟩
  ·replace hX:=hX.as (R':=l.bI.flatMap uM++l.aP.flatMap vT) (by rw[List.drop_of_length_le (by have:=h.f.len;simp only at this;omega)];rfl);go_wp2
   go_loopg [33] sn (fun g iv wr=>∃j:Nat,j+g=sn∧iv=.int .i64 j∧TX b w0 W tot ((l.bI.drop j).flatMap uM++l.aP.flatMap vT) wr)
   case atStart=>exact⟨0,by omega,rfl,hX⟩
   case round=>
    clear hX hW;obtain⟨j,hj,rfl,hX⟩:=hrel;have hW:=hX.f;by_cases hlj:j<sn
    ·have hbl:=hX.bl;obtain⟨bb,off,nm,m,d,bQ,⟨ha,hn,hcc⟩,rfl,_,hx,hxe,hd⟩:=Bv h.s hlj;have hxl:j<l.bI.length:=by rw[←h.sl,List.length_map];exact hx
     have hle:l.bI[j]=⟨nm,m,d,bQ⟩:=by have e:=h.sl;simp[←e,hxe]
     have hmem:=List.getElem_mem hxl;rw[hle] at hmem;have hty:=hT.s _ hmem;have hbn:=hT.b _ hmem;have hbf:=hf.sb _ hmem;have hbr:aU w0 Bk.cells bQ ⟨ha,hn,hcc⟩:=by have:=h.sb _ (List.getElem_mem hx);rw[hxe] at this;exact this
     have hhn:hn≤1000:=by have:=hbr.len;simp only at this hbn;omega
     simp only at hty hbn;obtain⟨R,hR⟩:=zE ((l.bI.drop (j+1)).flatMap uM++l.aP.flatMap vT);replace hX:=hX.as (R':=bD [BD,nm,jW,bV ⟨false,m,d⟩]++(zG 0 (bQ.drop 0)++(bD [tH]++R))) (by rw[JL uM hxl,hle,hR];unfold uM UN;simp only[List.append_assoc,List.drop_zero]);clear hxe hle hmem
     go_upto_region 9 with fail
     generalize hZ:wr.alloc _=Y;obtain⟨hK,hg⟩:=zA hZ;have hne:wr.heap.size≠b:=by have:=hX.lt;omega
     have hk:=fun (X:World) (k:BF b Y X)=>show X.cell? ⟨wr.heap.size,0,none⟩=some (.string nm)∧X.cell? ⟨wr.heap.size,1,none⟩=some (.int .i64 m)∧X.cell? ⟨wr.heap.size,2,none⟩=some (.int .i64 d)∧X.cell? ⟨wr.heap.size,3,none⟩=some (.slice ha hn hcc) from⟨(k.blk hK (by decide) hne).cells 0,(k.blk hK (by decide) hne).cells 1,(k.blk hK (by decide) hne).cells 2,(k.blk hK (by decide) hne).cells 3⟩
     replace hW:=hW.trans (BF.of_below hg);replace hX:=(hX.grow hg).here;clear hZ hK hg hne hd hbl;generalize wr.heap.size=K at hk⊢;refine gy (BF b Y) 99 (BF.of_below (ak _ _ 1)) (fun w1 h1 hS=>?_);replace hX:=hX.grow h1
     iterate 6 refine bU ?_
     refine eY 6 (qL ⟨false,m,d⟩ w1 (hL.below hX.bl) hty.1 hty.2.1 hty.2.2.1 hty.2.2.2) ?_;rintro e w2 ⟨rfl,hb2⟩;replace hX:=hX.grow hb2;refine⟨_,rfl,hX.f,fun hS=>?_⟩;refine lF 7 (fun _=>hS.trans (BF.of_below (zB _ _))) (fun _=>?_);refine eY 8 (TX.words [BD,nm,jW,bV ⟨false,m,d⟩] hX hlt) ?_;rintro e w3 ⟨rfl,hX,_⟩;refine⟨_,rfl,hX.f,fun hS=>?_⟩;refine dY ?_;have hY:=hX.f;go_wp2
     go_loopg [49] hn (fun g iv wr=>∃q:Nat,q+g=hn∧iv=.int .i64 q∧TX b w0 Y tot (zG q (bQ.drop q)++(bD [tH]++R)) wr)
     case atStart=>exact⟨0,by omega,rfl,hX⟩
     case round=>
      clear hX hY;obtain⟨q,hq,rfl,hX⟩:=hrel;have hY:=hX.f;by_cases hlq:q<hn
      ·have hbl:=hX.bl;obtain⟨b2,off2,rfl,_,hx2,hd0⟩:=hbr.at 6 (fun _=>rfl) (by omega) hlq;obtain⟨x,hx⟩:=zE bQ[q]
       have hd:=fun (X:World) (k:Below w0.heap.size w0 X)=>show X.cell? ⟨b2,off2+q*6,none⟩=some (.bool x.fr.neg)∧X.cell? ⟨b2,off2+q*6+1,none⟩=some (.string x.fr.num)∧X.cell? ⟨b2,off2+q*6+2,none⟩=some (.string x.fr.den)∧X.cell? ⟨b2,off2+q*6+3,none⟩=some (.bool x.rt.neg)∧X.cell? ⟨b2,off2+q*6+4,none⟩=some (.string x.rt.num)∧X.cell? ⟨b2,off2+q*6+5,none⟩=some (.string x.rt.den) from by
        rw[hx];exact⟨hd0 X k 0 _ rfl,hd0 X k 1 _ rfl,hd0 X k 2 _ rfl,hd0 X k 3 _ rfl,hd0 X k 4 _ rfl,hd0 X k 5 _ rfl⟩
       have hfx:=hbf _ (List.getElem_mem hx2);rw[←hx] at hfx;replace hX:=hX.as (R':=bD [wu q,jW,aZ x.fr,jW,aZ x.rt]++(zG (q+1) (bQ.drop (q+1))++(bD [tH]++R))) (by rw[abV hx2,←hx,List.append_assoc];rfl);clear hd0 hx
       go_upto_region 13 with fail
       generalize hZ:wr.alloc _=Y2;obtain⟨hK,hg⟩:=zA hZ;have hne:wr.heap.size≠b:=by have:=hX.lt;omega
       have hk2:=fun (X:World) (k:BF b Y2 X)=>show X.cell? ⟨wr.heap.size,0,none⟩=some (.bool x.fr.neg)∧X.cell? ⟨wr.heap.size,1,none⟩=some (.string x.fr.num)∧X.cell? ⟨wr.heap.size,2,none⟩=some (.string x.fr.den)∧X.cell? ⟨wr.heap.size,3,none⟩=some (.bool x.rt.neg)∧X.cell? ⟨wr.heap.size,4,none⟩=some (.string x.rt.num)∧X.cell? ⟨wr.heap.size,5,none⟩=some (.string x.rt.den) from⟨(k.blk hK (by decide) hne).cells 0,(k.blk hK (by decide) hne).cells 1,(k.blk hK (by decide) hne).cells 2,(k.blk hK (by decide) hne).cells 3,(k.blk hK (by decide) hne).cells 4,(k.blk hK (by decide) hne).cells 5⟩
       replace hY:=hY.trans (BF.of_below hg);replace hX:=(hX.grow hg).here;clear hZ hK hg hne hd hbl
       obtain⟨mm,hmn,hm2,hsp⟩:∃mm:Nat,min (q:Int) 1=(mm:Int)∧mm<2∧([.string ⟨#[58]⟩,.string ⟨#[44]⟩]:List Value)[mm]?=some (.string (wu q)):=by
        by_cases h0:q=0
        ·subst h0;exact⟨0,rfl,by omega,rfl⟩
        ·exact⟨1,by omega,by omega,by unfold wu;rw[if_neg h0];rfl⟩
       have mm0:(0:Int)≤(mm:Int):=by omega
       have mm1:(mm:Int)<2:=by omega
       generalize wr.heap.size=K at hk2⊢;refine gy (BF b Y2) 99 (BF.of_below (ak _ _ 1)) (fun w1 h1 hS=>?_);replace hX:=hX.grow h1;clear h1;refine bW 0 ?_;refine bW 2 ?_;refine bW 3 ?_;refine bW 6 ?_;refine bW 7 ?_;refine bW 9 ?_;refine bW 10 ?_;refine Hg 1 8 (Kq (fun _=>hS.trans (BF.of_below (zB _ _))) (fun hS=>?_)) (opC (jG x.fr _ (hL.below hX.bl).e.base hfx.1.1 hfx.1.2) ?_)
       ·have hzb:w1.heap.size≠b:=by have:=hX.lt;omega
        generalize hZ:w1.alloc _=w9 at hS⊢;obtain⟨hk9,LU⟩:=zA hZ;replace hX:=hX.grow LU;have FC:=fun (X:World) (k:BF b Y2 X∧aj X w1.heap.size 9 [.string ⟨#[58]⟩,.string ⟨#[44]⟩])=>show X.cell? ⟨w1.heap.size,mm,none⟩=some (.string (wu q)) from by rw[k.2.cells mm];exact hsp
        refine reM (fun X=>BF b Y2 X∧aj X w1.heap.size 9 [.string ⟨#[58]⟩,.string ⟨#[44]⟩]) ⟨hS,hk9⟩ (fun _ h=>h.1) (fun hS=>?_);clear hZ hk9 LU;generalize w1.heap.size=Z at FC hS hzb⊢;refine bW 4 ?_;refine bW 5 ?_;refine eY 8 (jG x.fr _ (hL.below hX.bl).e.base hfx.1.1 hfx.1.2) ?_;rintro e w2 ⟨rfl,hb2⟩;replace hX:=hX.grow hb2;refine⟨_,rfl,⟨hS.1.trans (BF.of_below hb2),hS.2.below hb2 hS.2.lt⟩,fun hS=>?_⟩;clear hb2;refine eY 11 (jG x.rt _ (hL.below hX.bl).e.base hfx.2.1 hfx.2.2) ?_;rintro e w2 ⟨rfl,hb2⟩;replace hX:=hX.grow hb2;refine⟨_,rfl,⟨hS.1.trans (BF.of_below hb2),hS.2.below hb2 hS.2.lt⟩,fun hS=>?_⟩;clear hb2;refine lF 12 (fun _=>⟨hS.1.trans (BF.of_below (zB _ _)),hS.2.alloc _⟩) (fun _=>?_);refine eY 13 (TX.words [wu q,jW,aZ x.fr,jW,aZ x.rt] hX hlt) ?_;rintro e w5 ⟨rfl,hX,hf5⟩;refine⟨_,rfl,⟨hX.f,(hf5.blk (hS.2) (by decide) hzb)⟩,fun hS=>?_⟩;refine dY ?_;go_wp2
        go_roundg (hn-(q+1))
        case measure=>omega
        case rel=>exact⟨q+1,by omega,by go_num,hX.back hY⟩
       ·rintro e w2 ⟨rfl,hb2⟩;replace hX:=hX.grow hb2;refine⟨_,rfl,hS.trans (BF.of_below hb2),fun hS=>?_⟩;clear hb2;refine Hg 1 11 (Kq (fun _=>hS.trans (BF.of_below (zB _ _))) (fun hS=>?_)) (opC (jG x.rt _ (hL.below hX.bl).e.base hfx.2.1 hfx.2.2) ?_)
        ·have hzb:w2.heap.size≠b:=by have:=hX.lt;omega
         generalize hZ:w2.alloc _=w9 at hS⊢;obtain⟨hk9,LU⟩:=zA hZ;replace hX:=hX.grow LU;have FC:=fun (X:World) (k:BF b Y2 X∧aj X w2.heap.size 9 [.string ⟨#[58]⟩,.string ⟨#[44]⟩])=>show X.cell? ⟨w2.heap.size,mm,none⟩=some (.string (wu q)) from by rw[k.2.cells mm];exact hsp
         refine reM (fun X=>BF b Y2 X∧aj X w2.heap.size 9 [.string ⟨#[58]⟩,.string ⟨#[44]⟩]) ⟨hS,hk9⟩ (fun _ h=>h.1) (fun hS=>?_);clear hZ hk9 LU;generalize w2.heap.size=Z at FC hS hzb⊢;refine bW 4 ?_;refine bW 5 ?_;refine eY 11 (jG x.rt _ (hL.below hX.bl).e.base hfx.2.1 hfx.2.2) ?_;rintro e w2 ⟨rfl,hb2⟩;replace hX:=hX.grow hb2;refine⟨_,rfl,⟨hS.1.trans (BF.of_below hb2),hS.2.below hb2 hS.2.lt⟩,fun hS=>?_⟩;clear hb2;refine lF 12 (fun _=>⟨hS.1.trans (BF.of_below (zB _ _)),hS.2.alloc _⟩) (fun _=>?_);refine eY 13 (TX.words [wu q,jW,aZ x.fr,jW,aZ x.rt] hX hlt) ?_;rintro e w5 ⟨rfl,hX,hf5⟩;refine⟨_,rfl,⟨hX.f,(hf5.blk (hS.2) (by decide) hzb)⟩,fun hS=>?_⟩;refine dY ?_;go_wp2
         go_roundg (hn-(q+1))
         case measure=>omega
         case rel=>exact⟨q+1,by omega,by go_num,hX.back hY⟩
        ·rintro e w2 ⟨rfl,hb2⟩;replace hX:=hX.grow hb2;refine⟨_,rfl,hS.trans (BF.of_below hb2),fun hS=>?_⟩;clear hb2;refine lF 1 (fun _=>hS.trans (BF.of_below (zB _ _))) (fun hS=>?_);have hzb:w2.heap.size≠b:=by have:=hX.lt;omega
         generalize hZ:w2.alloc _=w9 at hS⊢;obtain⟨hk9,LU⟩:=zA hZ;replace hX:=hX.grow LU;have FC:=fun (X:World) (k:BF b Y2 X∧aj X w2.heap.size 9 [.string ⟨#[58]⟩,.string ⟨#[44]⟩])=>show X.cell? ⟨w2.heap.size,mm,none⟩=some (.string (wu q)) from by rw[k.2.cells mm];exact hsp
         refine reM (fun X=>BF b Y2 X∧aj X w2.heap.size 9 [.string ⟨#[58]⟩,.string ⟨#[44]⟩]) ⟨hS,hk9⟩ (fun _ h=>h.1) (fun hS=>?_);clear hZ hk9 LU;generalize w2.heap.size=Z at FC hS hzb⊢;refine bW 4 ?_;refine bW 5 ?_;refine lF 12 (fun _=>⟨hS.1.trans (BF.of_below (zB _ _)),hS.2.alloc _⟩) (fun _=>?_);refine eY 13 (TX.words [wu q,jW,aZ x.fr,jW,aZ x.rt] hX hlt) ?_;rintro e w5 ⟨rfl,hX,hf5⟩;refine⟨_,rfl,⟨hX.f,(hf5.blk (hS.2) (by decide) hzb)⟩,fun hS=>?_⟩;refine dY ?_;go_wp2
         go_roundg (hn-(q+1))
         case measure=>omega
         case rel=>exact⟨q+1,by omega,by go_num,hX.back hY⟩
      ·replace hX:=hX.as (R':=bD [tH]++R) (by rw[List.drop_of_length_le (by have:=hbr.len;simp only at this;omega)];rfl);go_wp2_with fail;refine (TX.words [tH] hX hlt).mono ?_;rintro e w3 ⟨rfl,hX,_⟩;go_wp2
       go_roundg (sn-(j+1))
       case measure=>omega
       case rel=>exact⟨j+1,by omega,by go_num,(hX.as hR).back hW⟩
    ·replace hX:=hX.as (R':=l.aP.flatMap vT) (by rw[List.drop_of_length_le (by have h1:=h.s.len;have h2:=congrArg List.length h.sl;rw[List.length_map] at h2;simp only at h1;omega)];rfl);go_wp2
     go_loopg [76] pn (fun g iv wr=>∃j:Nat,j+g=pn∧iv=.int .i64 j∧TX b w0 W tot ((l.aP.drop j).flatMap vT) wr)
     case atStart=>exact⟨0,by omega,rfl,hX⟩
     case round=>
      clear hX hW;obtain⟨j,hj,rfl,hX⟩:=hrel;have hW:=hX.f;by_cases hlj:j<pn
      ·have hbl:=hX.bl;obtain⟨bb,off,x,rfl,_,hx,hxe,hd⟩:=Bz h.p hlj;have hxl:j<l.aP.length:=by rw[←h.pl,List.length_map];exact hx
       have hle:l.aP[j]=x.1:=by have e:=h.pl;simp[←e,hxe]
       have hmem:=List.getElem_mem hxl;rw[hle] at hmem;have hty:=hT.p _ hmem;have hfp:=hf.pb _ hmem;have hbr:aU w0 Nd.cells x.1.body x.2:=by have:=h.pb _ (List.getElem_mem hx);rw[hxe] at this;exact this
       obtain⟨R,hR⟩:=zE ((l.aP.drop (j+1)).flatMap vT);replace hX:=hX.as (R':=bD [GH,x.1.name,jW,bV x.1.ty]++((if x.1.jI then bD [BG] else [])++((if je x.1 then [] else bD [zD,aZ x.1.step,sCap,aZ x.1.cap])++(bD [tY,bodyT x.1.body,tH]++R)))) (by rw[JL vT hxl,hle,hR];unfold vT XK Rz;simp only[List.append_assoc]);clear hxe hle hmem
       go_upto_region 20 with fail
       generalize hZ:wr.alloc _=Y;obtain⟨hK,hg⟩:=zA hZ;have hne:wr.heap.size≠b:=by have:=hX.lt;omega
       have hk:=fun (X:World) (k:BF b Y X)=>show X.cell? ⟨wr.heap.size,0,none⟩=some (.string x.1.name)∧X.cell? ⟨wr.heap.size,1,none⟩=some (.bool x.1.ty.truth)∧X.cell? ⟨wr.heap.size,2,none⟩=some (.int .i64 x.1.ty.aH)∧X.cell? ⟨wr.heap.size,3,none⟩=some (.int .i64 x.1.ty.days)∧X.cell? ⟨wr.heap.size,4,none⟩=some (.slice x.2.a x.2.n x.2.c)∧X.cell? ⟨wr.heap.size,5,none⟩=some (.bool x.1.jI)∧X.cell? ⟨wr.heap.size,6,none⟩=some (.bool x.1.step.neg)∧X.cell? ⟨wr.heap.size,7,none⟩=some (.string x.1.step.num)∧X.cell? ⟨wr.heap.size,8,none⟩=some (.string x.1.step.den)∧X.cell? ⟨wr.heap.size,9,none⟩=some (.bool x.1.cap.neg)∧X.cell? ⟨wr.heap.size,10,none⟩=some (.string x.1.cap.num)∧X.cell? ⟨wr.heap.size,11,none⟩=some (.string x.1.cap.den) from⟨(k.blk hK (by decide) hne).cells 0,(k.blk hK (by decide) hne).cells 1,(k.blk hK (by decide) hne).cells 2,(k.blk hK (by decide) hne).cells 3,(k.blk hK (by decide) hne).cells 4,(k.blk hK (by decide) hne).cells 5,(k.blk hK (by decide) hne).cells 6,(k.blk hK (by decide) hne).cells 7,(k.blk hK (by decide) hne).cells 8,(k.blk hK (by decide) hne).cells 9,(k.blk hK (by decide) hne).cells 10,(k.blk hK (by decide) hne).cells 11⟩
       replace hW:=hW.trans (BF.of_below hg);replace hX:=(hX.grow hg).here;clear hZ hK hg hne hd hbl;generalize wr.heap.size=K at hk⊢;refine gy (BF b Y) 99 (BF.of_below (ak _ _ 1)) (fun w1 h1 hS=>?_);replace hX:=hX.grow h1
       iterate 5 refine bU ?_
       refine eY 5 (qL x.1.ty w1 (hL.below hX.bl) hty.1 hty.2.1 hty.2.2.1 hty.2.2.2) ?_;rintro e w2 ⟨rfl,hb2⟩;replace hX:=hX.grow hb2;refine⟨_,rfl,hX.f,fun hS=>?_⟩;refine lF 6 (fun _=>hS.trans (BF.of_below (zB _ _))) (fun _=>?_);refine eY 7 (TX.words [GH,x.1.name,jW,bV x.1.ty] hX hlt) ?_;rintro e w3 ⟨rfl,hX,_⟩;refine⟨_,rfl,hX.f,fun hS=>?_⟩;refine dY ?_;have hkw:=hk _ hX.f
       go_upto_if 89 with fail
       go_cut [] from 77 to 92 (fun X=>TX b w0 Y tot ((if je x.1 then [] else bD [zD,aZ x.1.step,sCap,aZ x.1.cap])++(bD [tY,bodyT x.1.body,tH]++R)) X)
       case first=>
        cases hch:x.1.jI
        ·rw[hch] at hX;go_wp2
         go_meet
         case rel=>exact hX
        ·rw[hch] at hX;go_wp2_with fail;refine (TX.words [BG] hX hlt).mono ?_;rintro e w4 ⟨rfl,hX,_⟩;go_wp2
         go_meet
         case rel=>exact hX
       case rest=>
        clear hX hkw;have hX:=hcut;clear hcut;have hkw:=hk _ hX.f;go_wp2_with fail;refine (IZ x wc).mono ?_;rintro e w4 ⟨rfl,hb4⟩;replace hX:=hX.grow hb4;clear hkw hb4
        go_upto_if 95 with fail
        go_cut [] from 93 to 104 (fun X=>TX b w0 Y tot (bD [tY,bodyT x.1.body,tH]++R) X)
        case first=>
         cases hpl:je x.1
         ·rw[hpl] at hX;go_wp2;refine gy (BF b Y) 99 (hX.f.trans (BF.of_below (ak _ _ 1))) (fun w1 h1 hS=>?_);replace hX:=hX.grow h1;refine bW 0 ?_;refine bW 1 ?_;refine bW 2 ?_;refine bW 4 ?_;refine bW 5 ?_;refine eY 3 (jG x.1.step _ (hL.below hX.bl).e.base hfp.1.1 hfp.1.2) ?_;rintro e w5 ⟨rfl,hb5⟩;replace hX:=hX.grow hb5;refine⟨_,rfl,hX.f,fun hS=>?_⟩;refine eY 6 (jG x.1.cap _ (hL.below hX.bl).e.base hfp.2.1.1 hfp.2.1.2) ?_;rintro e w6 ⟨rfl,hb6⟩;replace hX:=hX.grow hb6;refine⟨_,rfl,hX.f,fun hS=>?_⟩;refine lF 7 (fun _=>hS.trans (BF.of_below (zB _ _))) (fun _=>?_);refine eY 8 (TX.words [zD,aZ x.1.step,sCap,aZ x.1.cap] hX hlt) ?_;rintro e w7 ⟨rfl,hX,_⟩;refine⟨_,rfl,hX.f,fun hS=>?_⟩;refine dY ?_;go_wp2
          go_meet
          case rel=>exact hX
         ·rw[hpl] at hX;go_wp2
          go_meet
          case rel=>exact hX
        case rest=>
         clear hX;have hX:=hcut;clear hcut;have hkw:=hk _ hX.f;go_wp2_with fail;refine ((Lj x.1.body x.2.a x.2.n x.2.c wc (hL.below hX.bl).e (let r:=hbr.below hX.bl;⟨r.len,r.cap,r.max,r.rd⟩) hfp.2.2).mono fun e w' h=>(⟨⟨_,h.1⟩,h.2⟩:(∃z,e=.returned (.tuple #[.string (bodyT x.1.body),.int .i64 z]))∧Below wc.heap.size wc w')).mono ?_;rintro e w5 ⟨⟨z,rfl⟩,hb5⟩;replace hX:=hX.grow hb5;go_wp2_with fail;refine (TX.words [tY,bodyT x.1.body,tH] hX hlt).mono ?_;rintro e w6 ⟨rfl,hX,_⟩;go_wp2
         go_roundg (pn-(j+1))
         case measure=>omega
         case rel=>exact⟨j+1,by omega,by go_num,(hX.as hR).back hW⟩
      ·replace hX:=hX.as (R':=[]) (by rw[List.drop_of_length_le (by have h1:=h.p.len;have h2:=congrArg List.length h.pl;rw[List.length_map] at h2;simp only at h1;omega)];rfl);obtain⟨t0,h1,h2⟩:=hX.t;rw[List.append_nil] at h2;subst h2;go_wp2;go_end0;exact⟨rfl,h1⟩
def pz (l:Lw):Value:=.tuple #[.string ⟨(if bT l=0 then gI l else []).toArray⟩,.int .i64 (bT l)]
theorem WS.str {B b:Nat} {w0 w:World} {bs:List UInt8} (h:WS B b w0 w bs) (h0:bs≠[]):Calls Tryz.prog 23 #[.pointer (some ⟨b,0,none⟩)] w fun e w'=>e=.returned (.string ⟨bs.toArray⟩)∧Below B w0 w':=by
 rcases h.ib with k|k<;>exact (ZQ B b _ bs w k h0).mono fun e w' r=>⟨r.1,h.bl.trans r.2⟩
theorem WS.fresh (w:World):WS w.heap.size w.heap.size w (w.alloc (.cells #[.pointer none,.slice none 0 0] 76)) []:=by
 refine⟨.inl ⟨Nat.le_refl _,.slice none 0 0,?_,World.ownsRow_nil _ _ _ _,fun e=>by cases e⟩,(Below.refl _ _).alloc (Nat.le_refl _) _,Nat.le_refl _⟩;exact aj.new w _ _
theorem Ei (l:Lw) (ss:List (Sc × Hd)) (ps:List (Pv × Hd)) (f s p:Hd) (w:World) (hL:bZ w) (h:fG w l ss ps f s p) (hf:lU l) (hT:bT l=0→EU l∧gI l≠[]∧(gI l).length≤1000000000000):
  Calls Tryz.prog 9 #[dQ f s p] w fun e w'=>e=.returned (pz l)∧Below w.heap.size w w':=by
 have HC:=zH (fun W hb=>tu l ss ps f s p W (hL.below hb) (h.below hb) hf)
 have HW:Hid (bT l=0→∀W,Below w.heap.size w W→Calls Tryz.prog 22 #[.pointer (some ⟨W.heap.size,0,none⟩),dQ f s p] (W.alloc (.cells #[.pointer none,.slice none 0 0] 76)) fun e w'=>e=.returned (.tuple #[])∧WS W.heap.size W.heap.size W w' (gI l)):=fun hz W hb=>by
  have k:=XO l ss ps f s p W.heap.size W.heap.size W _ [] (WS.fresh W) rfl (hL.below hb) (h.below hb) hf (hT hz).1 (by rw[List.length_nil];have:=(hT hz).2.2;omega);rw[List.nil_append] at k;exact k
 have HN:Hid (bT l=0→gI l≠[]):=fun hz=>(hT hz).2.1
 unfold pz;obtain⟨z,hz⟩:=zE (bT l);rw[←hz] at HC HW HN⊢;obtain⟨fa,fn,fc⟩:=f;obtain⟨sa,sn,sc⟩:=s;obtain⟨pa,pn,pc⟩:=p;unfold dQ at HC HW⊢;simp only at HC HW⊢;clear hL h hf hT hz;obtain⟨W,hW⟩:=zE (w.alloc (.cells #[.slice fa fn fc,.slice sa sn sc,.slice pa pn pc] 26));obtain⟨Q,hQ⟩:=zE w.heap.size;have lS:Hid (aj W Q 26 [.slice fa fn fc,.slice sa sn sc,.slice pa pn pc]):=by show aj _ _ _ _;rw[hW,hQ];exact aj.new w _ _
 have aK:Hid (Below w.heap.size w W):=by show Below _ _ _;rw[hW];exact zB _ _
 have hkc:=lS.out.cells;by_cases hz0:z=0
 ·subst hz0;rw[if_pos rfl];have HWW:=zH (HW.out rfl);have HNN:=zH (HN.out rfl);clear HW HN;generalize gI l=tl at*;go_enter Tryz.func9,Tryz.ntmps9
  go_upto_region 1 with fail
  simp only[←hW,←hQ]
  clear hW hQ;go_wp2_with fail;refine (HC.out _ aK.out).mono ?_;rintro e w1 ⟨rfl,hb1⟩;have HB1:=zH (ah aK.out hb1);have jL:Hid (aj w1 Q 26 [.slice fa fn fc,.slice sa sn sc,.slice pa pn pc]):=lS.out.below hb1 lS.out.lt;have HA1:Hid (Below w1.heap.size w1 (w1.alloc (.cells #[.pointer none,.slice none 0 0] 76))):=(Below.refl _ _).alloc (Nat.le_refl _) _;have hkd:=(jL.out.below HA1.out jL.out.lt).cells;clear hb1 hkc;go_wp2_with fail;refine (HWW.out _ HB1.out).mono ?_;rintro e w2 ⟨rfl,hws⟩;have HST:=zH (hws.str HNN.out);clear hws hkd;go_wp2_with fail;refine HST.out.mono ?_;rintro e w3 ⟨rfl,hb3⟩;have HB3:=zH (ah HB1.out hb3);clear hb3;go_wp2;go_ret2;exact⟨rfl,HB3.out⟩
 ·rw[if_neg hz0];have e1:(z !=0)=true:=by simp[hz0]
  clear HW HN hz0;go_enter Tryz.func9,Tryz.ntmps9
  go_upto_region 1 with fail
  simp only[←hW,←hQ]
  clear hW hQ;go_wp2_with fail;refine (HC.out _ aK.out).mono ?_;rintro e w1 ⟨rfl,hb1⟩;have HB1:=zH (ah aK.out hb1);clear hb1 hkc;go_wp2;go_ret2;exact⟨rfl,HB1.out⟩
def RD:Lw:=⟨[],[],[]⟩
theorem adW:bT RD=0:=by decide
theorem UU (b:Nat) (w:World) (h:aj w b 76 [.pointer none,.slice none 0 0]):
  Calls Tryz.prog 23 #[.pointer (some ⟨b,0,none⟩)] w fun e w'=>e=.returned (.string ⟨#[]⟩)∧Below w.heap.size w w':=by
 have c1:w.cell? ⟨b,1,none⟩=some (.slice none 0 0):=h.cells 1;have hSD:(Builtin.unsafeSliceData_ #[72] 110 #[.slice none 0 0]).run Tryz.prog w.drew=.ok (.pointer none) w.drew:=Lib.run_unsafeSliceData_nil ..;have hUS:(Builtin.unsafeString_ #[110,3] 9 #[.pointer none,.int .i64 0]).run Tryz.prog w.drew=.ok (.string .empty) w.drew:=Lib.run_unsafeString_none ..;go_enter Tryz.func23,Tryz.ntmps23;go_wp2;go_region
 all_goals (go_wp2;go_ret;exact⟨rfl,Below.drew (Below.refl _ _)⟩)
theorem Qz (b:Nat) (f s p:Hd) (w:World) (hf:f.n=0) (hs:s.n=0) (hp:p.n=0):
  Calls Tryz.prog 22 #[.pointer (some ⟨b,0,none⟩),dQ f s p] w fun e w'=>e=.returned (.tuple #[])∧Below w.heap.size w w':=by
 obtain⟨fa,fn,fc⟩:=f;obtain⟨sa,sn,sc⟩:=s;obtain⟨pa,pn,pc⟩:=p;obtain rfl:fn=0:=hf;obtain rfl:sn=0:=hs;obtain rfl:pn=0:=hp;unfold dQ;go_enter Tryz.func22,Tryz.ntmps22
 go_upto_region 1 with fail
 generalize hW:w.alloc _=W;obtain⟨hQ,hb⟩:=zA hW;have hc:=hQ.cells;clear hW hQ;go_wp2;refine wp_loop_once ?_;go_wp2;refine wp_loop_once ?_;go_wp2;refine wp_loop_once ?_;go_wp2;go_end0;exact⟨rfl,hb⟩
theorem XP (f s p:Hd) (w:World) (hL:bZ w) (h:fG w RD [] [] f s p):
  Calls Tryz.prog 9 #[dQ f s p] w fun e w'=>e=.returned (pz RD)∧Below w.heap.size w w':=by
 have HC:=zH (fun W hb=>tu RD [] [] f s p W (hL.below hb) (h.below hb) ⟨by decide,by decide,by decide,(fun _ h=>by cases h),(fun _ h=>by cases h)⟩);rw[adW] at HC;have HW:=zH (fun b W=>Qz b f s p W h.f.len h.s.len h.p.len);rw[show pz RD=.tuple #[.string ⟨#[]⟩,.int .i64 0] by unfold pz;rw[adW];rfl];obtain⟨fa,fn,fc⟩:=f;obtain⟨sa,sn,sc⟩:=s;obtain⟨pa,pn,pc⟩:=p;unfold dQ at HC HW⊢;simp only at HC HW⊢;clear hL h;go_enter Tryz.func9,Tryz.ntmps9
 go_upto_region 1 with fail
 generalize hX:w.alloc _=W;obtain⟨hk,hb⟩:=zA hX;have hc:=fun (X:World) (h:Below W.heap.size W X)=>(hk.below h hk.lt).cells
 have hc1:=hc _ (Below.refl _ _);clear hX hk;go_wp2_with fail;refine (HC.out _ hb).mono ?_;rintro e w1 ⟨rfl,hb1⟩;replace hb:=ah hb hb1;clear hc1;have hc2:=hc _ hb1
 go_upto_region 5 with fail
 generalize hX:w1.alloc _=W1;obtain⟨hk2,hb2⟩:=zA hX;replace hb:=ah hb hb2;clear hX hc2;have hc3:=hc _ (ah hb1 hb2);go_wp2_with fail;refine (HW.out _ _).mono ?_;rintro e w2 ⟨rfl,hb3⟩;have HS:=zH (UU _ w2 (hk2.below hb3 hk2.lt));replace hb:=ah hb hb3;clear hc3 hk2 hb1 hb2 hb3 hc;go_wp2_with fail;refine HS.out.mono ?_;rintro e w3 ⟨rfl,hb4⟩;replace hb:=ah hb hb4;go_wp2;go_ret2;exact⟨rfl,hb⟩
structure Raw (l:Lw):Prop where
 fn:l.facts.length≤25
 sn:l.bI.length≤10
 pn:l.aP.length≤35
 f:∀d∈l.facts,d.name.size≤25
 s:∀x∈l.bI,x.name.size≤25∧x.bQ.length≤10∧∀b∈x.bQ,oL b
 p:∀x∈l.aP,x.name.size≤25∧iw x.step∧iw x.cap∧∀n∈x.body,Fine n
theorem Raw.fine {l:Lw} (h:Raw l):lU l:=⟨by have:=h.fn;omega,by have:=h.sn;omega,by have:=h.pn;omega,fun s hs=>(h.s s hs).2.2,fun p hp=>(h.p p hp).2⟩
theorem Jc:∀{l:List Int},eH l=0→∀x∈l,x=0
 |[],_,x,hx=>by cases hx
 |z::r,h,x,hx=>by
  rw[uU] at h;by_cases hz:z=0
  ·rw[if_pos hz] at h;rcases List.mem_cons.1 hx with rfl|hx
   ·exact hz
   ·exact Jc h x hx
  ·rw[if_neg hz] at h;exact absurd h hz
theorem Ej {l:Lw} (h:bT l=0):mV l=true∧∀s∈l.bI,fF s.bQ=0:=by
 unfold bT at h;split at h
 ·cases h
 split at h
 ·next h1=>exact absurd h h1
 split at h
 ·cases h
 ·next h1=>
  refine⟨by cases ht:mV l<;>simp_all,fun s hs=>?_⟩;split at h
  ·next h2=>exact absurd h h2
  ·next h2=>exact Jc (l:=l.bI.map fun s=>fF s.bQ) (Classical.not_not.1 h2) _ (List.mem_map_of_mem hs)
theorem uN {n:Int} (h1:-3≤n) (h2:n≤3):(-1000≤n∧n≤1000)∧iw (aW n):=by
 refine⟨⟨by omega,by omega⟩,?_⟩;unfold iw;rcases (by omega:n= -3∨n= -2∨n= -1∨n=0∨n=1∨n=2∨n=3) with rfl|rfl|rfl|rfl|rfl|rfl|rfl<;>decide
theorem LV {m d:Int} (h:dZ m d=true):yB ⟨false,m,d⟩:=by
 unfold dZ at h;simp only[Bool.and_eq_true,decide_eq_true_eq] at h;have hm:=uN (n:=m) (by omega) (by omega);have hd:=uN (n:=d) (by omega) (by omega);exact⟨hm.1,hd.1,hm.2,hd.2⟩
theorem Jd {t:Ty} (h:aN t=true):yB t:=by
 unfold aN at h;split at h
 ·obtain rfl:=of_decide_eq_true h;exact⟨(uN (n:=0) (by omega) (by omega)).1,(uN (n:=0) (by omega) (by omega)).1,(uN (n:=0) (by omega) (by omega)).2,(uN (n:=0) (by omega) (by omega)).2⟩
 ·exact LV h
theorem O9 {b:List Bk} (h:fF b=0):b≠[]:=by
 rintro rfl;cases h
theorem Raw.UW {l:Lw} (h:Raw l) (hc:bT l=0):EU l:=by
 have ht:=(Ej hc).1;unfold mV at ht;simp only[Bool.and_eq_true,List.all_eq_true] at ht;exact⟨fun d hd=>Jd (ht.1 d hd),fun x hx=>LV (ht.2.2 x hx),fun x hx=>Jd (ht.2.1 x hx),fun x hx=>by have:=(h.s x hx).2.1;omega⟩
theorem Raw.aeM {l:Lw} (h:Raw l) (hc:bT l=0):aaX l:=by
 have ht:=h.UW hc;exact⟨h.fine,fun d hd=>⟨by have:=h.f d hd;omega,ht.f d hd⟩,fun x hx=>⟨by have:=(h.s x hx).1;omega,ht.s x hx,ht.b x hx⟩,fun x hx=>⟨by have:=(h.p x hx).1;omega,ht.p x hx⟩⟩
theorem GI {α β:Type} {f g:α→List β} {xs:List α} (h:∀x∈xs,f x=g x):xs.flatMap f=xs.flatMap g:=by
 induction xs with
 |nil=>rfl
 |cons x r ih=>rw[List.flatMap_cons,List.flatMap_cons,h x (by simp),ih fun y hy=>h y (by simp[hy])]
theorem ZU {l:Lw} {ss:List (Sc × Hd)} {ps:List (Pv × Hd)} (hs:ss.map Prod.fst=l.bI) (hp:ps.map Prod.fst=l.aP) (hc:bT l=0):yA l.facts ss ps=gI l:=by
 unfold yA gI;rw[List.append_assoc];congr 1
 ·exact GI fun d _=>by unfold Ja I8 xq MN;simp[bD,ByteArray.data_append,tH]
 congr 1
 ·rw[←hs,List.flatMap_map];exact GI fun x hx=>LK (O9 ((Ej hc).2 x.1 (by rw[←hs];exact List.mem_map_of_mem hx)))
 ·rw[←hp,List.flatMap_map];exact GI fun x hx=>ZR x.1
theorem Je {α:Type} (f:α→List UInt8) (K:Nat):∀(xs:List α),(∀x∈xs,(f x).length≤K)→(xs.flatMap f).length≤K*xs.length
 |[],_=>Nat.zero_le _
 |x::r,h=>by
  have h1:=Je f K r fun y hy=>h y (by simp[hy])
  have h2:=h x (by simp);rw[List.flatMap_cons,List.length_append,List.length_cons,Nat.mul_succ];omega
theorem Raw.text {l:Lw} (h:Raw l) (hc:bT l=0):(gI l).length≤1000000000000:=by
 have hT:=h.UW hc
 have h1:=Je xq 20000000 l.facts fun d hd=>by
  have a1:=oq (hT.f d hd);have a2:=h.f d hd;unfold xq MN bD;simp[xk,jW,tH];omega
 have h2:=Je uM 200000000 l.bI fun x hx=>by
  rw[←LK (O9 ((Ej hc).2 x hx))];have a1:=oq (hT.s x hx);have a2:=(h.s x hx).1;have a3:=LM x.bQ 0 (h.s x hx).2.2;have a4:=(h.s x hx).2.1;unfold vU;simp[BD,jW,tY,ByteArray.data_append];omega
 have h3:=Je vT 1000000000 l.aP fun x hx=>by
  obtain⟨b1,b2,b3,b4⟩:=h.p x hx;have a1:=oq (hT.p x hx);have a2:=gq _ b2.1 b2.2;have a3:=gq _ b3.1 b3.2;have a4:=I9 x.body b4;unfold vT;have c1:(if x.jI then bD [BG] else []).length≤7:=by split<;>simp[bD,BG]
  have c2:(if je x then [] else bD (Rz x)).length≤12582933:=by
   split
   ·exact Nat.zero_le _
   ·unfold bD Rz;simp[zD,sCap];omega
  simp only[List.length_append]
  generalize (if x.jI then bD [BG] else []).length=u1 at*;generalize (if je x then [] else bD (Rz x)).length=u2 at*;unfold bD XK;simp[GH,jW,tH,tY];omega
 unfold gI;simp only[List.length_append]
 have:=h.fn;have:=h.sn;have:=h.pn;omega
theorem ZV {l:Lw} (h:gI l=[]):l=RD:=by
 obtain⟨fs,ss,ps⟩:=l;unfold gI at h;simp only[List.append_eq_nil_iff,List.flatMap_eq_nil_iff] at h;obtain⟨⟨h1,h2⟩,h3⟩:=h;cases fs with
 |cons d r=>have:=h1 d (by simp);unfold xq MN bD at this;simp[xk] at this
 |nil=>cases ss with
  |cons d r=>have:=h2 d (by simp);unfold uM UN bD at this;simp[BD] at this
  |nil=>cases ps with
   |cons d r=>have:=h3 d (by simp);unfold vT XK bD at this;simp[GH] at this
   |nil=>rfl
def oG (s:ByteArray):ByteArray:=s.extract 0 (min s.size 25)
def Em (d:Dc):Dc:=⟨oG d.name,d.ty⟩
def GK (b:Bk):Bk:=⟨amt b.fr,amt b.rt⟩
def GL (n:Nd):Nd:=⟨n.op,amt n.num,oG n.name⟩
def BI (s:Sc):Sc:=⟨oG s.name,s.aH,s.days,(s.bQ.take 10).map GK⟩
def JM (p:Pv):Pv:=⟨oG p.name,p.ty,p.jI,amt p.step,amt p.cap,(p.body.take 8).map GL⟩
def Pg (l:Lw):Lw:=⟨(l.facts.take 25).map Em,(l.bI.take 10).map BI,(l.aP.take 35).map JM⟩
theorem En (s:ByteArray):(oG s).size≤25:=by unfold oG;rw[ByteArray.size_extract];omega
theorem yC (a:Ra):iw (amt a):=by
 unfold iw amt iI;simp only[ByteArray.size_extract]
 omega
theorem abW (l:Lw):Raw (Pg l):=by
 unfold Pg;refine⟨?_,?_,?_,fun d hd=>?_,fun s hs=>?_,fun p hp=>?_⟩
 ·simp only[List.length_map,List.length_take];omega
 ·simp only[List.length_map,List.length_take];omega
 ·simp only[List.length_map,List.length_take];omega
 ·obtain⟨d,_,rfl⟩:=List.mem_map.1 hd;exact En _
 ·obtain⟨s,_,rfl⟩:=List.mem_map.1 hs;refine⟨En _,?_,fun b hb=>?_⟩
  ·unfold BI;simp only[List.length_map,List.length_take];omega
  ·obtain⟨b,_,rfl⟩:=List.mem_map.1 hb;exact⟨yC _,yC _⟩
 ·obtain⟨p,_,rfl⟩:=List.mem_map.1 hp;refine⟨En _,yC _,yC _,fun n hn=>?_⟩;obtain⟨n,_,rfl⟩:=List.mem_map.1 hn;exact yC _
theorem nT {α β:Type} (f:α→β) (xs:List α) {j:Nat} (h:j<xs.length):(xs.take (j+1)).map f=(xs.take j).map f++[f xs[j]]:=by
 rw[List.take_succ_eq_append_getElem h,List.map_append];rfl
def Eo (t:Ty):Bool:=if t.truth then decide (t.aH=0)&&decide (t.days=0) else decide (-3≤t.aH)&&decide (t.aH≤3)&&(decide (-3≤t.days)&&decide (t.days≤3))
def seven:List Int:=[-3,-2,-1,0,1,2,3]
theorem nC {m:Int} (h:-3≤m) (k:m≤3):m∈seven:=by
 have:m= -3∨m= -2∨m= -1∨m=0∨m=1∨m=2∨m=3:=by omega
 unfold seven;simp only[List.mem_cons]
 omega
theorem Jf:∀m∈seven,(aW m).num.size≤1048576∧(aW m).den.size≤1048576:=by decide+kernel
theorem XQ:∀m∈seven,∀d∈seven,∀a∈seven,∀b∈seven,(bV ⟨false,m,d⟩).data.toList=(bV ⟨false,a,b⟩).data.toList→m=a∧d=b:=by decide+kernel
theorem QA:∀m∈seven,∀d∈seven,((bV ⟨false,m,d⟩).data.toList==[116,114,117,116,104])=false:=by decide+kernel
theorem zI (t:Ty) (w:World) (hL:bZ w) (ht:Eo t=true):Calls Tryz.prog 95 #[.string (bV t)] w fun e w'=>e=.returned t.v∧Below w.heap.size w w':=by
 obtain⟨tr,tm,td⟩:=t;obtain⟨W,hW⟩:=zE (w.alloc (.cells #[.bool false,.int .i64 0,.int .i64 0] 32));obtain⟨B,hB⟩:=zE w.heap.size;have HK:Hid (aj W B 32 [.bool false,.int .i64 0,.int .i64 0]):=by show aj _ _ _ _;rw[hW,hB];exact aj.new w _ _
 have aK:Hid (Below w.heap.size w W):=by show Below _ _ _;rw[hW];exact zB _ _
 have cO:=zH (Nat.le_of_eq hB.symm);unfold Eo at ht;simp only at ht;unfold Ty.v;simp only
 cases tr
 ·simp only[Bool.false_eq_true,if_false,Bool.and_eq_true,decide_eq_true_eq] at ht;obtain⟨⟨hm1,hm2⟩,hd1,hd2⟩:=ht;have hst:((bV ⟨false,tm,td⟩).toList==[116,114,117,116,104])=false:=by rw[ByteArray.toList_eq];exact QA tm (nC hm1 hm2) td (nC hd1 hd2)
  have HIN:Hid (∀m d:Int,-3≤m→m≤3→ -3≤d→d≤3→bV ⟨false,m,d⟩=bV ⟨false,tm,td⟩→m=tm∧d=td):=fun m d h1 h2 h3 h4 e=>XQ m (nC h1 h2) d (nC h3 h4) tm (nC hm1 hm2) td (nC hd1 hd2) (by rw[e])
  have tX:Hid (∀(m d:Int) (W':World),-3≤m→m≤3→ -3≤d→d≤3→Below w.heap.size w W'→Calls Tryz.prog 49 #[.agg #[.bool false,.int .i64 m,.int .i64 d]] W' fun e w'=>e=.returned (.string (bV ⟨false,m,d⟩))∧Below W'.heap.size W' w'):=fun m d W' h1 h2 h3 h4 hb=>
   qL ⟨false,m,d⟩ W' (hL.below hb) ⟨by show (-1000:Int)≤m;omega,by show m≤(1000:Int);omega⟩ ⟨by show (-1000:Int)≤d;omega,by show d≤(1000:Int);omega⟩ (Jf m (nC h1 h2)) (Jf d (nC h3 h4))
  have wJ:Hid (bV ⟨false,tm,td⟩=bV ⟨false,tm,td⟩):=rfl;obtain⟨s,hs⟩:=zE (bV ⟨false,tm,td⟩);rw[←hs] at hst HIN wJ⊢;have HS:=zH hs;clear hL hs wJ;go_enter Tryz.func95,Tryz.ntmps95
  go_upto_region 1 with fail
  simp only[←hW,←hB]
  clear hW hB;go_wp2_with fail
  go_loopg [3] 7 (fun g iv wr=>∃i:Nat,i+g=7∧iv=.int .i64 (-3+(i:Int))∧Hid (-3+(i:Int)≤tm)∧Hid (Below w.heap.size w wr)∧Hid (aj wr B 32 [.bool false,.int .i64 0,.int .i64 0]))
  case atStart=>exact⟨0,by omega,rfl,(by show-3+((0:Nat):Int)≤tm;omega),aK,HK⟩
  case round=>
   obtain⟨i,hi,rfl,hle,hbr,hbk⟩:=hrel;have hlt:i<7:=by have:=hle.out;omega
   have h3:-3+(i:Int)≤3:=by omega
   clear HK aK;go_wp2_with fail
   go_loopg [4] 7 (fun g iv wr=>∃k:Nat,k+g=7∧iv=.int .i64 (-3+(k:Int))∧Hid (-3+(i:Int)=tm→ -3+(k:Int)≤td)∧Hid (Below w.heap.size w wr)∧Hid (aj wr B 32 [.bool false,.int .i64 0,.int .i64 0]))
   case atStart=>exact⟨0,by omega,rfl,(fun _=>by omega),hbr,hbk⟩
   case round=>
    obtain⟨k,hk,rfl,hkd,hbr,hbk⟩:=hrel;by_cases hlk:k<7
    ·have h4:-3+(k:Int)≤3:=by omega
     obtain⟨W2,hW2⟩:=zE (wr.alloc (.cells #[.bool false,.int .i64 (-3+(i:Int)),.int .i64 (-3+(k:Int))] 32));obtain⟨C,hC⟩:=zE wr.heap.size;have dP:Hid (aj W2 C 32 [.bool false,.int .i64 (-3+(i:Int)),.int .i64 (-3+(k:Int))]):=by show aj _ _ _ _;rw[hW2,hC];exact aj.new wr _ _
     have HBa:Below wr.heap.size wr W2:=by rw[hW2];exact zB _ _
     have HB2:=zH (ah hbr.out HBa);have jD:Hid (aj W2 B 32 [.bool false,.int .i64 0,.int .i64 0]):=hbk.out.below HBa hbk.out.lt;have yS:Hid (B≠C):=by have:=hbk.out.lt;show B≠C;omega
     have lQ:=zH (tX.out (-3+(i:Int)) (-3+(k:Int)) W2 (by omega) h3 (by omega) h4 HB2.out);have HE:Hid (bV ⟨false,-3+(i:Int),-3+(k:Int)⟩=s→ -3+(i:Int)=tm∧-3+(k:Int)=td):=HIN.out _ _ (by omega) h3 (by omega) h4;have HE2:Hid (-3+(i:Int)=tm∧-3+(k:Int)=td→bV ⟨false,-3+(i:Int),-3+(k:Int)⟩=s):=fun h=>by rw[HS.out,h.1,h.2]
     generalize bV ⟨false,-3+(i:Int),-3+(k:Int)⟩=x at*;have hkc:=dP.out.cells;clear HBa hbr hbk
     go_upto_region 10 with fail
     simp only[←hW2,←hC]
     clear hW2 hC;go_wp2_with fail;refine lQ.out.mono ?_;rintro e w5 ⟨rfl,hb5⟩;have eF:=zH (ah HB2.out hb5);have gZ:Hid (aj w5 B 32 [.bool false,.int .i64 0,.int .i64 0]):=jD.out.below hb5 jD.out.lt;have HC5:Hid (aj w5 C 32 [.bool false,.int .i64 (-3+(i:Int)),.int .i64 (-3+(k:Int))]):=dP.out.below hb5 dP.out.lt;clear hb5 hkc lQ jD dP;by_cases hx:x=s
     ·subst hx;obtain⟨e1,e2⟩:=HE.out rfl;have hkc:=HC5.out.cells;have hkb:=gZ.out.cells;have hfb:=gZ.out.aF;have hne:¬B=C:=yS.out;have hne':¬C=B:=fun e=>hne e.symm
      have HV:Hid (-3+(i:Int)=tm∧-3+(k:Int)=td):=⟨e1,e2⟩
      clear e1 e2;go_wp2;have IY:=((gZ.out.set 0 (.bool false)).set 1 (.int .i64 (-3+(i:Int)))).set 2 (.int .i64 (-3+(k:Int)));have hc:=IY.cells;refine bodyPost_ret (v:=.agg #[.bool false,.int .i64 (-3+(i:Int)),.int .i64 (-3+(k:Int))]) (by simp[results,Tryz.results95,go_sem,hc]) rfl ⟨by rw[HV.out.1,HV.out.2],?_⟩;exact ((eF.out.setCell (p:=⟨B,0,none⟩) cO.out _).setCell (p:=⟨B,1,none⟩) cO.out _).setCell (p:=⟨B,2,none⟩) cO.out _
     ·have hxe:(x.toList==s.toList)=false:=beq_eq_false_iff_ne.2 (fun h=>hx (toList_inj h))
      have FT:Hid (-3+(i:Int)=tm→ -3+((k+1:Nat):Int)≤td):=fun h=>by
       have h1:=hkd.out h;have h2:¬(-3+(k:Int)=td):=fun h'=>hx (HE2.out ⟨h,h'⟩)
       omega
      clear HE HE2 hx hkd;go_wp2
      go_roundg (7-(k+1))
      case measure=>omega
      case rel=>exact⟨k+1,by omega,by go_num,FT,eF,gZ⟩
    ·have h4:¬(-3+(k:Int)≤3):=by omega
     have HLE:Hid (-3+((i+1:Nat):Int)≤tm):=by
      have h1:¬(-3+(i:Int)=tm):=fun h=>by have:=hkd.out h;omega
      have h2:=hle.out;show-3+((i+1:Nat):Int)≤tm;omega
     clear hkd hle;go_wp2
     go_roundg (7-(i+1))
     case measure=>omega
     case rel=>exact⟨i+1,by omega,by go_num,HLE,hbr,hbk⟩
 ·simp only[if_true,Bool.and_eq_true,decide_eq_true_eq] at ht;obtain⟨rfl,rfl⟩:=ht;have hs:bV ⟨true,0,0⟩=⟨#[116,114,117,116,104]⟩:=rfl;rw[hs];clear hL hs;have hst:((⟨#[116,114,117,116,104]⟩:ByteArray).toList==[116,114,117,116,104])=true:=by rw[ByteArray.toList_eq];rfl
  have hkb:=HK.out.cells;have hfb:=HK.out.aF;go_enter Tryz.func95,Tryz.ntmps95
  go_upto_region 1 with fail
  simp only[←hW,←hB]
  clear hW hB;go_wp2;have IY:=((HK.out.set 0 (.bool true)).set 1 (.int .i64 0)).set 2 (.int .i64 0);have hc:=IY.cells;refine bodyPost_ret (v:=.agg #[.bool true,.int .i64 0,.int .i64 0]) (by simp[results,Tryz.results95,go_sem,hc]) rfl ⟨rfl,?_⟩;exact ((aK.out.setCell (p:=⟨B,0,none⟩) cO.out _).setCell (p:=⟨B,1,none⟩) cO.out _).setCell (p:=⟨B,2,none⟩) cO.out _
structure TF (t:TypeId) (w w':World):Prop where
 size:w.heap.size≤w'.heap.size
 keep:∀(k:Nat) (cs:Array Value) (t':TypeId) (fr:Nat × Nat),w.heap[k]?=some (Obj.cells cs t' fr)→t'≠t→w'.heap[k]?=some (Obj.cells cs t' fr)
theorem TF.own {t e:TypeId} {w w':World} {B s n:Nat} {v:Value} {xs:List Value} (h:TF t w w') (ho:w.ownsRow B e s v n xs) (he:e≠t):w'.ownsRow B e s v n xs:=by
 refine⟨ho.1,ho.2.imp id ?_⟩;rintro⟨g,cap,cur,h1,h2,h3,h4⟩;exact⟨g,cap,cur,h1,h2,h.keep g _ _ _ h3 he,h4⟩
theorem TF.blk {t e:TypeId} {w w':World} {b:Nat} {cs:List Value} (h:TF t w w') (hb:aj w b e cs) (he:e≠t):aj w' b e cs:=h.keep b _ _ _ hb he
theorem TF.grown {t:TypeId} {w w':World} {B s n:Nat} {v:Value} {xs:List Value} (ho:w.ownsRow B t s v n xs) (hg:w.grownBy w' v.ownBlock):TF t w w':=by
 refine⟨hg.size,fun k cs t' fr hk ht=>(hg.block k (lt_of_some hk) ?_).trans hk⟩;intro he;rcases ho.2 with⟨rfl,_⟩|⟨g,cap,cur,rfl,_,h3,_⟩
 ·cases he
 ·injection he with he;subst he;rw[h3] at hk;injection hk with hk;injection hk with _ h5 _;exact ht h5.symm
theorem TF.set {t e:TypeId} {w:World} {R:Nat} {cs:List Value} (hb:aj w R t cs) (i:Nat) (u:Value):TF t w (w.setCell ⟨R,i,none⟩ u):=by
 refine⟨by simp[World.setCell],fun k cs' t' fr hk ht=>(Below.heap_setCell w _ u k ?_).trans hk⟩;show k≠R;rintro rfl;have h:w.heap[k]?=_:=hb;rw[h] at hk;injection hk with hk;injection hk with _ h5 _;exact ht h5.symm
structure FR (R:Nat) (w w':World):Prop where
 size:w.heap.size≤w'.heap.size
 keep:∀(k:Nat) (o:Obj),w.heap[k]?=some o→k≠R→(∀cs t fr,o=Obj.cells cs t fr→t≠34∧t≠37∧t≠46)→w'.heap[k]?=some o
theorem FR.below {R:Nat} {w w':World} (h:Below w.heap.size w w'):FR R w w':=⟨h.size,fun k o hk _ _=>(h.block k (lt_of_some hk)).trans hk⟩
theorem FR.trans {R:Nat} {a b c:World} (h:FR R a b) (k:FR R b c):FR R a c:=⟨Nat.le_trans h.size k.size,fun i o hi hr ho=>k.keep i o (h.keep i o hi hr ho) hr ho⟩
theorem FR.grown {R i:Nat} {w w1 w2:World} {B e s n:Nat} {v u:Value} {xs:List Value} (hb:Below w.heap.size w w1) (ho:w1.ownsRow B e s v n xs) (he:e=34∨e=37∨e=46) (hg:w1.grownBy w2 v.ownBlock):FR R w (w2.setCell ⟨R,i,none⟩ u):=by
 refine⟨Nat.le_trans hb.size (Nat.le_trans hg.size (by simp[World.setCell])),fun k o hk hR ht=>?_⟩;have h1:w1.heap[k]?=some o:=(hb.block k (lt_of_some hk)).trans hk;refine (Below.heap_setCell w2 _ u k hR).trans ((hg.block k (lt_of_some h1) ?_).trans h1);intro hq;rcases ho.2 with⟨rfl,_⟩|⟨g,cap,cur,rfl,_,h3,_⟩
 ·cases hq
 ·injection hq with hq;subst hq;rw[h3] at h1;injection h1 with h1;obtain⟨k1,k2,k3⟩:=ht _ _ _ h1.symm;rcases he with h|h|h
  ·exact k1 h
  ·exact k2 h
  ·exact k3 h
structure PT (w0 w:World) (R:Nat) (l:Lw) (ss:List (Sc × Hd)) (ps:List (Pv × Hd)) (fv sv pv:Value):Prop where
 r:w0.heap.size≤R
 bl:Below w0.heap.size w0 w
 blk:aj w R 26 [fv,sv,pv]
 f:w.ownsRow (R+1) 34 4 fv l.facts.length (l.facts.flatMap Dc.cells)
 s:w.ownsRow (R+1) 37 4 sv ss.length (ss.flatMap fU)
 p:w.ownsRow (R+1) 46 12 pv ps.length (ps.flatMap bg)
 sl:ss.map Prod.fst=l.bI
 pl:ps.map Prod.fst=l.aP
 sb:∀x∈ss,x.2.n=x.1.bQ.length∧w.ownsRow (R+1) 42 6 (.slice x.2.a x.2.n x.2.c) x.2.n (x.1.bQ.flatMap Bk.cells)
 pb:∀x∈ps,x.2.n=x.1.body.length∧w.ownsRow (R+1) 48 5 (.slice x.2.a x.2.n x.2.c) x.2.n (oV x.1.body)
theorem PT.below {w0 w w':World} {R:Nat} {l:Lw} {ss:List (Sc × Hd)} {ps:List (Pv × Hd)} {fv sv pv:Value} (h:PT w0 w R l ss ps fv sv pv) (hb:Below w.heap.size w w'):PT w0 w' R l ss ps fv sv pv:=
 ⟨h.r,ah h.bl hb,h.blk.below hb h.blk.lt,own_below h.f hb,own_below h.s hb,own_below h.p hb,h.sl,h.pl,fun x hx=>⟨(h.sb x hx).1,own_below (h.sb x hx).2 hb⟩,fun x hx=>⟨(h.pb x hx).1,own_below (h.pb x hx).2 hb⟩⟩
theorem XR {w:World} {B e s n:Nat} {A:Option Addr} {m c:Nat} {xs:List Value} (h:w.ownsRow B e s (.slice A m c) n xs):m=n∧n≤c∧c≤maxLen∧Rd w A xs:=by
 obtain⟨A',c',hv,h1,h2,h3,_⟩:=bM h;injection hv with e1 e2 e3;exact⟨e2,by omega,by omega,by rw[e1];exact h3⟩
theorem PT.law {w0 w:World} {R:Nat} {l:Lw} {ss:List (Sc × Hd)} {ps:List (Pv × Hd)} {fv sv pv:Value} (h:PT w0 w R l ss ps fv sv pv):∃f s p:Hd,fv=.slice f.a f.n f.c∧sv=.slice s.a s.n s.c∧pv=.slice p.a p.n p.c∧fG w l ss ps f s p:=by
 obtain⟨f,rfl,_,hf⟩:=aU.mP h.f rfl;obtain⟨s,rfl,_,hs⟩:=aU.mP h.s rfl;obtain⟨p,rfl,_,hp⟩:=aU.mP h.p rfl;refine⟨f,s,p,rfl,rfl,rfl,hf,hs,hp,h.sl,h.pl,fun x hx=>?_,fun x hx=>?_⟩
 ·obtain⟨h1,h2⟩:=h.sb x hx;obtain⟨_,h3,h4,h5⟩:=XR h2;exact⟨h1,h3,h4,h5⟩
 ·obtain⟨h1,h2⟩:=h.pb x hx;obtain⟨_,h3,h4,h5⟩:=XR h2;exact⟨h1,h3,h4,h5⟩
theorem PT.bl2 {w0 W w':World} {R:Nat} {l:Lw} {ss:List (Sc × Hd)} {ps:List (Pv × Hd)} {fv sv pv v u:Value} {i n s:Nat} {e:TypeId} {xs:List Value} (h:PT w0 W R l ss ps fv sv pv) (ho:W.ownsRow (R+1) e s v n xs) (hg:W.grownBy w' v.ownBlock):Below w0.heap.size w0 (w'.setCell ⟨R,i,none⟩ u):=
 (h.bl.grown hg (by have:=h.bl.size;omega) (fun k hk=>by have h1:=(ho.lt k hk).1;have h2:=h.r;omega)).setCell (p:=⟨R,i,none⟩) h.r _
theorem PT.MO {w0 W w':World} {R:Nat} {l:Lw} {ss:List (Sc × Hd)} {ps:List (Pv × Hd)} {fv sv pv v':Value} (h:PT w0 W R l ss ps fv sv pv) (d:Dc) (ho:w'.ownsRow (R+1) 34 4 v' (l.facts.length+1) (l.facts.flatMap Dc.cells++d.cells)) (hg:W.grownBy w' fv.ownBlock):
  PT w0 (w'.setCell ⟨R,0,none⟩ v') R ⟨l.facts++[d],l.bI,l.aP⟩ ss ps v' sv pv:=by
 have ht:=TF.grown h.f hg;refine⟨h.r,h.bl2 h.f hg,((ht.blk h.blk (by decide)).set 0 v'),?_,eU (ht.own h.s (by decide)) 0 _,eU (ht.own h.p (by decide)) 0 _,h.sl,h.pl,fun x hx=>⟨(h.sb x hx).1,eU (ht.own (h.sb x hx).2 (by decide)) 0 _⟩,fun x hx=>⟨(h.pb x hx).1,eU (ht.own (h.pb x hx).2 (by decide)) 0 _⟩⟩;have k:=eU ho 0 v';simpa [List.length_append,List.flatMap_append] using k
theorem PT.UY {w0 W w':World} {R:Nat} {l:Lw} {ss:List (Sc × Hd)} {ps:List (Pv × Hd)} {fv sv pv v':Value} (h:PT w0 W R l ss ps fv sv pv) (x:Sc × Hd) (hx:x.2.n=x.1.bQ.length∧W.ownsRow (R+1) 42 6 (.slice x.2.a x.2.n x.2.c) x.2.n (x.1.bQ.flatMap Bk.cells)) (ho:w'.ownsRow (R+1) 37 4 v' (ss.length+1) (ss.flatMap fU++fU x)) (hg:W.grownBy w' sv.ownBlock):
  PT w0 (w'.setCell ⟨R,1,none⟩ v') R ⟨l.facts,l.bI++[x.1],l.aP⟩ (ss++[x]) ps fv v' pv:=by
 have ht:=TF.grown h.s hg;refine⟨h.r,h.bl2 h.s hg,((ht.blk h.blk (by decide)).set 1 v'),eU (ht.own h.f (by decide)) 1 _,?_,eU (ht.own h.p (by decide)) 1 _,by rw[List.map_append,h.sl];rfl,h.pl,fun y hy=>?_,fun x hx=>⟨(h.pb x hx).1,eU (ht.own (h.pb x hx).2 (by decide)) 1 _⟩⟩
 ·have k:=eU ho 1 v';simpa [List.length_append,List.flatMap_append] using k
 ·rcases List.mem_append.1 hy with hy|hy
  ·exact⟨(h.sb y hy).1,eU (ht.own (h.sb y hy).2 (by decide)) 1 _⟩
  ·rw[List.mem_singleton.1 hy];exact⟨hx.1,eU (ht.own hx.2 (by decide)) 1 _⟩
theorem PT.pushP {w0 W w':World} {R:Nat} {l:Lw} {ss:List (Sc × Hd)} {ps:List (Pv × Hd)} {fv sv pv v':Value} (h:PT w0 W R l ss ps fv sv pv) (x:Pv × Hd) (hx:x.2.n=x.1.body.length∧W.ownsRow (R+1) 48 5 (.slice x.2.a x.2.n x.2.c) x.2.n (oV x.1.body)) (ho:w'.ownsRow (R+1) 46 12 v' (ps.length+1) (ps.flatMap bg++bg x)) (hg:W.grownBy w' pv.ownBlock):
  PT w0 (w'.setCell ⟨R,2,none⟩ v') R ⟨l.facts,l.bI,l.aP++[x.1]⟩ ss (ps++[x]) fv sv v':=by
 have ht:=TF.grown h.p hg;refine⟨h.r,h.bl2 h.p hg,((ht.blk h.blk (by decide)).set 2 v'),eU (ht.own h.f (by decide)) 2 _,eU (ht.own h.s (by decide)) 2 _,?_,h.sl,by rw[List.map_append,h.pl];rfl,fun x hx=>⟨(h.sb x hx).1,eU (ht.own (h.sb x hx).2 (by decide)) 2 _⟩,fun y hy=>?_⟩
 ·have k:=eU ho 2 v';simpa [List.length_append,List.flatMap_append] using k
 ·rcases List.mem_append.1 hy with hy|hy
  ·exact⟨(h.pb y hy).1,eU (ht.own (h.pb y hy).2 (by decide)) 2 _⟩
  ·rw[List.mem_singleton.1 hy];exact⟨hx.1,eU (ht.own hx.2 (by decide)) 2 _⟩
def JO:List Value:=[.string ⟨#[102,97,99,116]⟩,.func (Fn.func 94) #[] #[],.string ⟨#[115,99,104,101,100,117,108,101]⟩,.func (Fn.func 96) #[] #[],.string ⟨#[112,114,111,118,105,115,105,111,110]⟩,.func (Fn.func 98) #[] #[]]
theorem QB (w:World):Calls Tryz.prog 46 #[] w fun e w'=>e=.returned (.slice (some ⟨w.heap.size,0,none⟩) 3 3)∧aj w' w.heap.size 103 JO∧Below w.heap.size w w':=by
 obtain⟨W,hW⟩:=zE (w.alloc (.cells JO.toArray 103));obtain⟨B,hB⟩:=zE w.heap.size;have HK:Hid (aj W B 103 JO):=by show aj _ _ _ _;rw[hW,hB];exact aj.new w _ _
 have aK:Hid (Below w.heap.size w W):=by show Below _ _ _;rw[hW];exact zB _ _
 go_enter Tryz.func46,Tryz.ntmps46;go_wp2;go_ret;refine⟨rfl,?_,?_⟩
 ·have h:=HK.out;rw[hW,hB] at h;exact h
 ·have h:=aK.out;rw[hW] at h;exact h
theorem adZ (w:World):(Instr.typeAssert .nilIface 20 93 true).run Tryz.prog w=.ok (.tuple #[.agg #[],.bool false]) w:=by
 kernel_rfl
theorem zJ (a:Nat) (w:World):
  CallsD Tryz.prog 43 #[.pointer (some ⟨a,0,none⟩)] .returning w fun e u' w'=>e=.returned (.tuple #[])∧u'=.returning∧Below w.heap.size w w':=by
 refine callsD_of_wpS Tryz.func43 rfl fun c₀ cs hu=>?_
 apply wpS_seq;apply wpS_region;simp[wpOpsS,go_sem,recoverD,hu,Tryz.ntmps43,Exit.thenS,adZ];refine wpS_of_wp ?_;go_wp2;cases c₀
 simp_all [bodyPostS,results,Tryz.results43]
 exact zB _ _
end Go.Proofs.YtgfeadgafdijaaaGreatDoor
