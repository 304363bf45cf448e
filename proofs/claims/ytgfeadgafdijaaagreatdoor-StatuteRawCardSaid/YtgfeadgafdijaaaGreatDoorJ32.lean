/- A part of the proof: U3 U4 U9 Tf Y6 Y3 V1. -/
import Derived.Deep.Cut
import Derived.Deep.CutRange
import Derived.Deep.LoopGhost
import Derived.Test.YtgfeadgafdijaaaGreatDoorJ01
import Derived.Test.YtgfeadgafdijaaaGreatDoorJ19
import Derived.Test.YtgfeadgafdijaaaGreatDoorJ21
import Derived.Test.YtgfeadgafdijaaaGreatDoorJ22
import Derived.Test.YtgfeadgafdijaaaGreatDoorJ28
import Derived.Test.YtgfeadgafdijaaaGreatDoorJ31
set_option linter.unusedVariables false
set_option linter.unusedSimpArgs false
set_option maxRecDepth 100000
set_option maxHeartbeats 40000000
namespace Go.Proofs.YtgfeadgafdijaaaGreatDoor
open Go.RowKit
theorem uI:(Tryz.prog.info? 64).map (fun i=>(i.zero,i.size,i.bytes))=some (some (.agg #[.int .i64 0,.string ⟨#[]⟩,.bool false,.int .i64 0,.int .i64 0]),5,48):=by kernel_rfl
theorem uJ {α β:Type} (f:α→β) {l:List α} {k:Nat} (hk:k<l.length):(l.take (k+1)).map f=(l.take k).map f++[f l[k]]:=by
 rw[List.take_succ_eq_append_getElem hk,List.map_append];rfl
def opsL (l:Lw) (r:Nat):List Sg:=(List.range r).flatMap fun q:Nat=>l.aP.map (mQ (6+(q:Int)))
theorem Lr (l:Lw) (r:Nat):opsL l (r+1)=opsL l r++l.aP.map (mQ (6+(r:Int))):=by
 unfold opsL;rw[List.range_succ,List.flatMap_append];simp
theorem ZF (l:Lw) (r:Nat):(opsL l r).length=r*l.aP.length:=by
 induction r with
 |zero=>unfold opsL;simp
 |succ r ih=>rw[Lr,List.length_append,ih,List.length_map,Nat.succ_mul]
theorem ZG (l:Lw):jA l=l.facts.map jR++opsL l 3++l.bI.map lI:=by
 unfold jA opsL;simp[List.range_succ,List.flatMap_cons]
theorem D9 (l:Lw) (ss:List (Sc × Hd)) (ps:List (Pv × Hd)) (f s p:Hd) (w:World) (h:fG w l ss ps f s p) (hf:lU l):
  Calls Tryz.prog 10 #[dQ f s p] w fun e w'=>∃h:Hd,e=.returned (.slice h.a h.n h.c)∧aU w' Sg.cells (jA l) h∧Below w.heap.size w w':=by
 have OW:=hf.fn;have JG:=hf.sn;have Gu:=hf.pn;obtain⟨fa,fn,fc⟩:=f;obtain⟨sa,sn,sc⟩:=s;obtain⟨pa,pn,pc⟩:=p;unfold dQ;simp only
 obtain⟨W,hW⟩:=zE (w.alloc (.cells #[.slice fa fn fc,.slice sa sn sc,.slice pa pn pc] 26));obtain⟨B,hB⟩:=zE w.heap.size;have lS:Hid (aj W B 26 [.slice fa fn fc,.slice sa sn sc,.slice pa pn pc]):=by show aj _ _ _ _;rw[hW,hB];exact aj.new w _ _
 have aK:Hid (Below w.heap.size w W):=by show Below _ _ _;rw[hW];exact zB _ _
 have l7:=zH (h.below aK.out);have sZ:Hid (fn=l.facts.length):=h.f.len;have oZ:Hid (sn=l.bI.length):=by show _=_;rw[←h.sl,List.length_map];exact h.s.len
 have jo:Hid (pn=l.aP.length):=by show _=_;rw[←h.pl,List.length_map];exact h.p.len
 rw[←sZ.out] at OW;rw[←oZ.out] at JG;rw[←jo.out] at Gu;have Xz:Hid (∀k (hk:k<l.bI.length) (hk':k<ss.length),l.bI[k]=ss[k].1):=fun k hk hk'=>by have e:=h.sl;simp[←e]
 have Ea:Hid (∀k (hk:k<l.aP.length) (hk':k<ps.length),l.aP[k]=ps[k].1):=fun k hk hk'=>by have e:=h.pl;simp[←e]
 clear h hf;have HST:Hid (W.ownsRow W.heap.size 64 5 (.slice none 0 0) (0+0) (kM [])):=World.ownsRow_nil _ _ _ _;have bF:Hid (Below W.heap.size W W):=Below.refl _ _;have ag2:=aK;have hkc:=lS.out.cells;go_enter Tryz.func10,Tryz.ntmps10
 go_upto_region 1 with fail
 simp only[←hW,←hB]
 clear hW hB;go_wp2_with fail
 go_loopg [2,14] fn (fun g ov iv wr=>∃j:Nat,j+g=fn∧iv=.int .i64 j∧Hid (wr.ownsRow W.heap.size 64 5 ov (0+j) (kM (([]:List Sg)++(l.facts.take j).map jR)))∧Hid (Below W.heap.size W wr))
 case atStart=>exact⟨0,by omega,rfl,(by show World.ownsRow _ _ _ _ _ _ _;rw[List.take_zero,List.map_nil,List.append_nil];exact HST.out),bF⟩
 case round=>
  obtain⟨j,hj,rfl,hown,hbr⟩:=hrel;clear HST bF;by_cases hlt:j<fn
  ·have nM:j<l.facts.length:=by rw[←sZ.out];exact hlt
   have hjm:j<l.facts.length:=by rw[←l7.out.f.len];exact hlt
   have o7:=uJ jR nM;rw[show l.facts[j]=l.facts[j] from rfl] at o7;obtain⟨b,off,hA,hb,hc⟩:=Rd.row Dc.cells 4 (fun _=>rfl) (by omega) (l7.out.f.below hbr.out).rd hjm;simp only at hA;subst hA;generalize l.facts[j]=x at*;obtain⟨nm,⟨tt,tm,td⟩⟩:=x;have Eb:=zH o7;have c0:=hc 0 _ rfl;have c1:=hc 1 _ rfl;have c2:=hc 2 _ rfl;have c3:=hc 3 _ rfl;simp only[Nat.add_zero] at c0;obtain⟨K,hK⟩:=zE (0+j);obtain⟨XS,o8⟩:∃X,X=kM (([]:List Sg)++(l.facts.take j).map jR):=⟨_,rfl⟩
   rw[←hK,←o8] at hown;have Ec:=zH o8;have HK:=zH hK;have hKb:K≤5000:=by omega
   have Ed:Hid ((wr.alloc (.cells #[.string nm,.bool tt,.int .i64 tm,.int .i64 td] 34)).ownsRow W.heap.size 64 5 u2 K XS):=hown.out.alloc _;have aK:Hid (Below W.heap.size W (wr.alloc (.cells #[.string nm,.bool tt,.int .i64 tm,.int .i64 td] 34))):=hbr.out.alloc hbr.out.size _;clear hown hbr hc o7 hK o8;go_wp2_with (at_builtin;go_must (refine dh (wr.alloc (.cells #[.string nm,.bool tt,.int .i64 tm,.int .i64 td] 34)) #[.int .i64 5,.string nm,.bool tt,.int .i64 tm,.int .i64 td] rfl _ _ 55 rfl W.heap.size 64 _ 5 48 1 Tryz.underlying55 uI rfl (by decide) u2 K XS rfl Ed.out (by rw[World.size_alloc];rfl) rfl ?_ ?_ ?_ ?_ ?_))
   any_goals first|(unfold maxLen;omega)|omega
   ·exact⟨rfl,rfl,rfl,rfl,rfl⟩
   ·have hz:=aK.out.size;rw[World.size_alloc] at hz;exact hz
   intro v' w' hown' hb';have HOWN:Hid (w'.ownsRow W.heap.size 64 5 v' (0+(j+1)) (kM (([]:List Sg)++(l.facts.take (j+1)).map jR))):=by show World.ownsRow _ _ _ _ _ _ _;rw[Eb.out,←List.append_assoc,xg,←Ec.out,←Nat.add_assoc,←HK.out];exact hown'
   have HB:=zH (aK.out.trans hb');clear hown' hb' c0;go_wp2
   go_roundg (fn-(j+1))
   case measure=>omega
   case rel=>exact⟨j+1,by omega,by go_num,HOWN,HB⟩
  ·have hjn:j=fn:=by omega
   have HST:Hid (wr.ownsRow W.heap.size 64 5 u2 (0+fn) (kM (([]:List Sg)++l.facts.map jR))):=by
    have h:=hown.out;rw[hjn] at h;rw[List.take_of_length_le (Nat.le_of_eq sZ.out.symm)] at h;exact h
   have bF:=hbr;have hkc:=(lS.out.below hbr.out lS.out.lt).cells;clear hown hbr hjn;go_wp2_with fail
   go_loopg [2,28] 3 (fun g ov iv wr=>∃r:Nat,r+g=3∧iv=.int .i64 r∧Hid (wr.ownsRow W.heap.size 64 5 ov (fn+r*pn) (kM (l.facts.map jR++opsL l r)))∧Hid (Below W.heap.size W wr))
   case atStart=>exact⟨0,by omega,rfl,(by show World.ownsRow _ _ _ _ _ _ _;rw[Nat.zero_mul,Nat.add_zero,show opsL l 0=[] from rfl,List.append_nil,←Nat.zero_add fn];exact HST.out),bF⟩
   case round=>
    obtain⟨r,hr,rfl,hown,hbr⟩:=hrel;clear HST bF;by_cases hlt:r<3
    ·have HST:=hown;have bF:=hbr;have hkc:=(lS.out.below hbr.out lS.out.lt).cells;have hr3:r=0∨r=1∨r=2:=by omega
     clear hown hbr
     go_upto_region 8 with fail
     go_cut [6] from 30 to 30 (fun v wc=>v=.int .i64 (6+(r:Int))∧wc=wr)
     case first=>
      have hix:∀W,(Instr.index 79 (.agg #[.int .i64 6,.int .i64 7,.int .i64 8]) (.int .i64 (r:Int))).run Tryz.prog W=.ok (.int .i64 (6+(r:Int))) W:=fun W=>by rcases hr3 with rfl|rfl|rfl<;>kernel_rfl
      go_wp2
      go_meet
      case rel=>exact⟨rfl,rfl⟩
     case rest=>
      obtain⟨rfl,rfl⟩:=hcut;have hrp:r*pn≤3000:=Nat.mul_le_mul (show r≤3 from by omega) Gu;clear hr3;have hd3:decide ((r:Int)<3)=true:=decide_eq_true (by omega);simp only[hd3]
      go_wp2_with fail
      go_loopg [2,34] pn (fun g ov iv wr=>∃j:Nat,j+g=pn∧iv=.int .i64 j∧Hid (wr.ownsRow W.heap.size 64 5 ov ((fn+r*pn)+j) (kM ((l.facts.map jR++opsL l r)++(l.aP.take j).map (mQ (6+(r:Int))))))∧Hid (Below W.heap.size W wr))
      case atStart=>exact⟨0,by omega,rfl,(by show World.ownsRow _ _ _ _ _ _ _;rw[List.take_zero,List.map_nil,List.append_nil];exact HST.out),bF⟩
      case round=>
       obtain⟨j,hj,rfl,hown,hbr⟩:=hrel;clear HST bF;by_cases hlt:j<pn
       ·have nM:j<l.aP.length:=by rw[←jo.out];exact hlt
        have hjm:j<ps.length:=by rw[←l7.out.p.len];exact hlt
        have o7:=uJ (mQ (6+(r:Int))) nM;rw[show l.aP[j]=ps[j].1 from Ea.out j nM hjm] at o7;obtain⟨b,off,hA,hb,hc⟩:=Rd.row bg 12 (fun _=>rfl) (by omega) (l7.out.p.below hbr.out).rd hjm;simp only at hA;subst hA;generalize ps[j]=x at*;obtain⟨⟨nm,⟨tt,tm,td⟩,ch,⟨kW,kX,kY⟩,⟨kZ,lg,cn3⟩,bo⟩,⟨ha,hn,hcc⟩⟩:=x;have Eb:=zH o7;have c0:=hc 0 _ rfl;have c1:=hc 1 _ rfl;have c2:=hc 2 _ rfl;have c3:=hc 3 _ rfl;have c4:=hc 4 _ rfl;have c5:=hc 5 _ rfl;have c6:=hc 6 _ rfl;have c7:=hc 7 _ rfl;have c8:=hc 8 _ rfl;have c9:=hc 9 _ rfl;have c10:=hc 10 _ rfl;have c11:=hc 11 _ rfl;simp only[Nat.add_zero] at c0;obtain⟨K,hK⟩:=zE ((fn+r*pn)+j);obtain⟨XS,o8⟩:∃X,X=kM ((l.facts.map jR++opsL l r)++(l.aP.take j).map (mQ (6+(r:Int)))):=⟨_,rfl⟩
        rw[←hK,←o8] at hown;have Ec:=zH o8;have HK:=zH hK;have hKb:K≤5000:=by omega
        have Ed:Hid ((wr.alloc (.cells #[.string nm,.bool tt,.int .i64 tm,.int .i64 td,.slice ha hn hcc,.bool ch,.bool kW,.string kX,.string kY,.bool kZ,.string lg,.string cn3] 46)).ownsRow W.heap.size 64 5 u2 K XS):=hown.out.alloc _;have aK:Hid (Below W.heap.size W (wr.alloc (.cells #[.string nm,.bool tt,.int .i64 tm,.int .i64 td,.slice ha hn hcc,.bool ch,.bool kW,.string kX,.string kY,.bool kZ,.string lg,.string cn3] 46))):=hbr.out.alloc hbr.out.size _;clear hown hbr hc o7 hK o8;go_wp2_with (at_builtin;go_must (refine dh (wr.alloc (.cells #[.string nm,.bool tt,.int .i64 tm,.int .i64 td,.slice ha hn hcc,.bool ch,.bool kW,.string kX,.string kY,.bool kZ,.string lg,.string cn3] 46)) #[.int .i64 (6+(r:Int)),.string nm,.bool tt,.int .i64 tm,.int .i64 td] rfl _ _ 55 rfl W.heap.size 64 _ 5 48 1 Tryz.underlying55 uI rfl (by decide) u2 K XS rfl Ed.out (by rw[World.size_alloc];rfl) rfl ?_ ?_ ?_ ?_ ?_))
        any_goals first|(unfold maxLen;omega)|omega
        ·exact⟨rfl,rfl,rfl,rfl,rfl⟩
        ·have hz:=aK.out.size;rw[World.size_alloc] at hz;exact hz
        intro v' w' hown' hb';have HOWN:Hid (w'.ownsRow W.heap.size 64 5 v' ((fn+r*pn)+(j+1)) (kM ((l.facts.map jR++opsL l r)++(l.aP.take (j+1)).map (mQ (6+(r:Int)))))):=by show World.ownsRow _ _ _ _ _ _ _;rw[Eb.out,←List.append_assoc,xg,←Ec.out,←Nat.add_assoc,←HK.out];exact hown'
        have HB:=zH (aK.out.trans hb');clear hown' hb' c0;go_wp2
        go_roundg (pn-(j+1))
        case measure=>omega
        case rel=>exact⟨j+1,by omega,by go_num,HOWN,HB⟩
       ·have hjn:j=pn:=by omega
        have HST:Hid (wr.ownsRow W.heap.size 64 5 u2 ((fn+r*pn)+pn) (kM ((l.facts.map jR++opsL l r)++l.aP.map (mQ (6+(r:Int)))))):=by
         have h:=hown.out;rw[hjn] at h;rw[List.take_of_length_le (Nat.le_of_eq jo.out.symm)] at h;exact h
        have bF:=hbr;have hkc:=(lS.out.below hbr.out lS.out.lt).cells;clear hown hbr hjn;go_wp2
        go_roundg (3-(r+1))
        case measure=>omega
        case rel=>exact⟨r+1,by omega,by go_num,(by show World.ownsRow _ _ _ _ _ _ _;rw[Lr,←List.append_assoc,show fn+(r+1)*pn=fn+r*pn+pn from by rw[Nat.succ_mul];omega];exact HST.out),bF⟩
    ·have hrn:r=3:=by omega
     have HST:Hid (wr.ownsRow W.heap.size 64 5 u2 (fn+3*pn) (kM (l.facts.map jR++opsL l 3))):=by have h:=hown.out;rw[hrn] at h;exact h
     have bF:=hbr;have hkc:=(lS.out.below hbr.out lS.out.lt).cells;clear hown hbr hrn;go_wp2_with fail
     go_loopg [2,52] sn (fun g ov iv wr=>∃j:Nat,j+g=sn∧iv=.int .i64 j∧Hid (wr.ownsRow W.heap.size 64 5 ov ((fn+3*pn)+j) (kM ((l.facts.map jR++opsL l 3)++(l.bI.take j).map lI)))∧Hid (Below W.heap.size W wr))
     case atStart=>exact⟨0,by omega,rfl,(by show World.ownsRow _ _ _ _ _ _ _;rw[List.take_zero,List.map_nil,List.append_nil];exact HST.out),bF⟩
     case round=>
      obtain⟨j,hj,rfl,hown,hbr⟩:=hrel;clear HST bF;by_cases hlt:j<sn
      ·have nM:j<l.bI.length:=by rw[←oZ.out];exact hlt
       have hjm:j<ss.length:=by rw[←l7.out.s.len];exact hlt
       have o7:=uJ lI nM;rw[show l.bI[j]=ss[j].1 from Xz.out j nM hjm] at o7;obtain⟨b,off,hA,hb,hc⟩:=Rd.row fU 4 (fun _=>rfl) (by omega) (l7.out.s.below hbr.out).rd hjm;simp only at hA;subst hA;generalize ss[j]=x at*;obtain⟨⟨nm,mo,da,br⟩,⟨ha,hn,hcc⟩⟩:=x;have Eb:=zH o7;have c0:=hc 0 _ rfl;have c1:=hc 1 _ rfl;have c2:=hc 2 _ rfl;have c3:=hc 3 _ rfl;simp only[Nat.add_zero] at c0;obtain⟨K,hK⟩:=zE ((fn+3*pn)+j);obtain⟨XS,o8⟩:∃X,X=kM ((l.facts.map jR++opsL l 3)++(l.bI.take j).map lI):=⟨_,rfl⟩
       rw[←hK,←o8] at hown;have Ec:=zH o8;have HK:=zH hK;have hKb:K≤5000:=by omega
       have Ed:Hid ((wr.alloc (.cells #[.string nm,.int .i64 mo,.int .i64 da,.slice ha hn hcc] 37)).ownsRow W.heap.size 64 5 u2 K XS):=hown.out.alloc _;have aK:Hid (Below W.heap.size W (wr.alloc (.cells #[.string nm,.int .i64 mo,.int .i64 da,.slice ha hn hcc] 37))):=hbr.out.alloc hbr.out.size _;clear hown hbr hc o7 hK o8;go_wp2_with (at_builtin;go_must (refine dh (wr.alloc (.cells #[.string nm,.int .i64 mo,.int .i64 da,.slice ha hn hcc] 37)) #[.int .i64 24,.string nm,.bool false,.int .i64 mo,.int .i64 da] rfl _ _ 55 rfl W.heap.size 64 _ 5 48 1 Tryz.underlying55 uI rfl (by decide) u2 K XS rfl Ed.out (by rw[World.size_alloc];rfl) rfl ?_ ?_ ?_ ?_ ?_))
       any_goals first|(unfold maxLen;omega)|omega
       ·exact⟨rfl,rfl,rfl,rfl,rfl⟩
       ·have hz:=aK.out.size;rw[World.size_alloc] at hz;exact hz
       intro v' w' hown' hb';have HOWN:Hid (w'.ownsRow W.heap.size 64 5 v' ((fn+3*pn)+(j+1)) (kM ((l.facts.map jR++opsL l 3)++(l.bI.take (j+1)).map lI))):=by show World.ownsRow _ _ _ _ _ _ _;rw[Eb.out,←List.append_assoc,xg,←Ec.out,←Nat.add_assoc,←HK.out];exact hown'
       have HB:=zH (aK.out.trans hb');clear hown' hb' c0;go_wp2
       go_roundg (sn-(j+1))
       case measure=>omega
       case rel=>exact⟨j+1,by omega,by go_num,HOWN,HB⟩
      ·have hjn:j=sn:=by omega
       have HST:Hid (wr.ownsRow W.heap.size 64 5 u2 ((fn+3*pn)+sn) (kM ((l.facts.map jR++opsL l 3)++l.bI.map lI))):=by
        have h:=hown.out;rw[hjn] at h;rw[List.take_of_length_le (Nat.le_of_eq oZ.out.symm)] at h;exact h
       have bF:=hbr;have hkc:=(lS.out.below hbr.out lS.out.lt).cells;clear hown hbr hjn;go_wp2;obtain⟨h,rfl,hn,hrow⟩:=aU.mP (enc:=Sg.cells) HST.out (by rw[List.length_append,List.length_append,List.length_map,List.length_map,ZF,sZ.out,jo.out,oZ.out]);go_ret;refine⟨h,rfl,?_,ah ag2.out bF.out⟩;rw[ZG];exact hrow
theorem o9:(Tryz.prog.info? 9).map (fun i=>(i.zero,i.size,i.bytes))=some (some (.string ⟨#[]⟩),1,16):=by kernel_rfl
def iG (s:ByteArray):List Value:=[.string s]
def strs (l:List ByteArray):List Value:=l.flatMap iG
theorem qC (a b:List ByteArray):strs (a++b)=strs a++strs b:=List.flatMap_append
def jC {α:Type} (lo:Nat) (w:World) (enc:α→List Value) (xs:List α) (h:Hd):Prop:=aU w enc xs h∧∀ad,h.a=some ad→lo≤ad.block
theorem jC.iP {α:Type} {lo G:Nat} {w w':World} {enc:α→List Value} {xs:List α} {h:Hd} (k:jC lo w enc xs h) (ho:aJ G w w') (hG:G<lo):jC lo w' enc xs h:=by
 refine⟨⟨k.1.len,k.1.cap,k.1.max,?_⟩,k.2⟩;rcases k.1.rd with h0|⟨b,off,hA,hb,hc⟩
 ·exact .inl h0
 ·have hlo:lo≤b:=k.2 ⟨b,off,none⟩ hA;refine .inr ⟨b,off,hA,Nat.lt_of_lt_of_le hb ho.size,fun i hi=>?_⟩;rw[←hc i hi];exact World.cell?_of_block (ho.block b hb (by omega))
theorem jC.below {α:Type} {lo:Nat} {w w':World} {enc:α→List Value} {xs:List α} {h:Hd} (k:jC lo w enc xs h) (hb:Below w.heap.size w w'):jC lo w' enc xs h:=⟨k.1.below hb,k.2⟩
theorem jC.mP {α:Type} {w:World} {enc:α→List Value} {xs:List α} {base m n:Nat} {e:TypeId} {v:Value} (h:w.ownsRow base e m v n (xs.flatMap enc)) (hn:n=xs.length):∃h:Hd,v=.slice h.a h.n h.c∧jC base w enc xs h:=by
 obtain⟨A,c,rfl,h1,h2,h3,h4⟩:=zO h;exact⟨⟨A,n,c⟩,rfl,⟨hn,h1,h2,h3⟩,h4⟩
theorem Ux (l:Lw) (ss:List (Sc × Hd)) (ps:List (Pv × Hd)) (f s p:Hd) (w:World) (h:fG w l ss ps f s p) (hf:lU l):
  Calls Tryz.prog 57 #[dQ f s p] w fun e w'=>∃h0 h1 h2:Hd,e=.returned (.agg #[.slice h0.a h0.n h0.c,.slice h1.a h1.n h1.c,.slice h2.a h2.n h2.c])∧aU w' iG (l.facts.map Dc.name) h0∧aU w' iG (l.bI.map Sc.name) h1∧aU w' iG (l.aP.map Pv.name) h2∧Below w.heap.size w w':=by
 have OW:=hf.fn;have JG:=hf.sn;have Gu:=hf.pn;obtain⟨fa,fn,fc⟩:=f;obtain⟨sa,sn,sc⟩:=s;obtain⟨pa,pn,pc⟩:=p;unfold dQ;simp only
 obtain⟨W,hW⟩:=zE ((w.alloc (.cells #[.slice fa fn fc,.slice sa sn sc,.slice pa pn pc] 26)).alloc (.cells #[.slice none 0 0,.slice none 0 0,.slice none 0 0] 116));have jY:=Bg w 26 116 #[.slice fa fn fc,.slice sa sn sc,.slice pa pn pc] #[.slice none 0 0,.slice none 0 0,.slice none 0 0];rw[←hW] at jY;obtain⟨B,hB⟩:=zE w.heap.size;rw[←hB] at jY;obtain⟨hk0,hk1,hba,hsz⟩:=jY;have lS:=zH hk0;have Cc:=zH hk1;rw[hB] at hba;have nS:=zH hba;have cO:=zH hB;have yM:Hid (W.heap.size=B+2):=hsz;have l7:=zH h;have sZ:Hid (fn=l.facts.length):=h.f.len;have oZ:Hid (sn=l.bI.length):=by show _=_;rw[←h.sl,List.length_map];exact h.s.len
 have jo:Hid (pn=l.aP.length):=by show _=_;rw[←h.pl,List.length_map];exact h.p.len
 rw[←sZ.out] at OW;rw[←oZ.out] at JG;rw[←jo.out] at Gu;have Xz:Hid (∀k (hk:k<l.bI.length) (hk':k<ss.length),l.bI[k]=ss[k].1):=fun k hk hk'=>by have e:=h.sl;simp[←e]
 have Ea:Hid (∀k (hk:k<l.aP.length) (hk':k<ps.length),l.aP[k]=ps[k].1):=fun k hk hk'=>by have e:=h.pl;simp[←e]
 clear h hf hk0 hk1 hba hsz;have hkc:=lS.out.cells;go_enter Tryz.func57,Tryz.ntmps57
 go_upto_region 1 with fail
 simp only[←hW,←hB]
 clear hW hB;obtain⟨W0,hW0⟩:∃x,x=W:=⟨_,rfl⟩
 have bF:Hid (aJ (B+1) W W0):=by rw[hW0];exact aJ.refl _ _
 rw[←hW0] at Cc nS hkc⊢;clear hW0;go_wp2_with fail;have HB0:Hid (B+2≤W0.heap.size):=by have h1:=yM.out;have h2:=bF.out.size;show _≤_;omega
 go_loopg [12] fn (fun g iv wr=>∃(j:Nat) (v:Value),j+g=fn∧iv=.int .i64 j∧Hid (aj wr (B+1) 116 [v,.slice none 0 0,.slice none 0 0])∧Hid (wr.ownsRow W0.heap.size 9 1 v j (strs ((l.facts.take j).map Dc.name)))∧Hid (aJ (B+1) W0 wr)∧Hid (Below w.heap.size w wr))
 case atStart=>exact⟨0,.slice none 0 0,by omega,rfl,Cc,World.ownsRow_nil _ _ _ _,aJ.refl _ _,nS⟩
 case round=>
  obtain⟨j,v,hj,rfl,hka,hown,hon,hbr⟩:=hrel;clear Cc nS;by_cases hlt:j<fn
  ·have nM:j<l.facts.length:=by rw[←sZ.out];exact hlt
   have hjm:j<l.facts.length:=by rw[←l7.out.f.len];exact hlt
   have o7:=uJ Dc.name nM;rw[show l.facts[j]=l.facts[j] from rfl] at o7;obtain⟨b,off,hA,hb,hc⟩:=Rd.row Dc.cells 4 (fun _=>rfl) (by omega) (l7.out.f.below hbr.out).rd hjm;simp only at hA;subst hA;generalize l.facts[j]=x at*;obtain⟨nm,⟨tt,tm,td⟩⟩:=x;have Eb:=zH o7;have c0:=hc 0 _ rfl;have c1:=hc 1 _ rfl;have c2:=hc 2 _ rfl;have c3:=hc 3 _ rfl;simp only[Nat.add_zero] at c0;obtain⟨XS,o8⟩:∃X,X=strs ((l.facts.take j).map Dc.name):=⟨_,rfl⟩
   rw[←o8] at hown;have Ec:=zH o8;have Ed:Hid ((wr.alloc (.cells #[.string nm,.bool tt,.int .i64 tm,.int .i64 td] 34)).ownsRow W0.heap.size 9 1 v j XS):=hown.out.alloc _;have hba:=(Below.refl wr.heap.size wr).alloc (Nat.le_refl _) (.cells #[.string nm,.bool tt,.int .i64 tm,.int .i64 td] 34);have aK:Hid (Below w.heap.size w (wr.alloc (.cells #[.string nm,.bool tt,.int .i64 tm,.int .i64 td] 34))):=hbr.out.alloc hbr.out.size _;have Ee:Hid (aJ (B+1) W0 (wr.alloc (.cells #[.string nm,.bool tt,.int .i64 tm,.int .i64 td] 34))):=hon.out.trans (aJ.of_below hba);have Ls:=zH (hka.out.below hba hka.out.lt);have hkx:∀j,(wr.alloc (.cells #[.string nm,.bool tt,.int .i64 tm,.int .i64 td] 34)).cell? ⟨B+1,j,none⟩=_:=Ls.out.cells;clear hown hbr hc o7 o8 hba hon hka;go_wp2_with (at_builtin;go_must (refine dh (wr.alloc (.cells #[.string nm,.bool tt,.int .i64 tm,.int .i64 td] 34)) #[.string nm] rfl _ _ 97 rfl W0.heap.size 9 _ 1 16 1 Tryz.underlying97 o9 rfl (by decide) v j XS rfl Ed.out (by rw[World.size_alloc];rfl) rfl ?_ ?_ ?_ ?_ ?_))
   any_goals first|rfl|(unfold maxLen;omega)|omega
   ·have hz:=Ee.out.size;rw[World.size_alloc] at hz;exact hz
   intro v' w' hown' hb';obtain⟨Av',cv',rfl,_⟩:=bM hown';have tq:=Ls.out.of_block (hb'.block (B+1) (by have:=HB0.out;omega));have Gv:=tq.cells;have adH:=tq.aF;have OX:=zH tq;have HOWN':=zH hown';have D8:=zH hb';clear hown' hb' tq c0 hkx;go_wp2
   go_roundg (fn-(j+1))
   case measure=>omega
   case rel=>
    refine⟨j+1,.slice Av' (j+1) cv',by omega,by go_num,OX.out.set 0 _,?_,(Ee.out.more D8.out).set 0 _,?_⟩
    ·show World.ownsRow _ _ _ _ _ _ _;rw[Eb.out,qC,←Ec.out];refine HOWN'.out.kept (lM w' (B+1) 0 _) (.inr (fun h=>?_));have h1:=(HOWN'.out.lt _ h).1;have:=HB0.out;omega
    ·exact (aK.out.trans (D8.out.mono (by have:=HB0.out;have:=cO.out;omega))).setCell (p:=⟨B+1,0,none⟩) (by show _≤B+1;have:=cO.out;omega) _
  ·have hjn:j=fn:=by omega
   have hown2:=hown.out;rw[hjn,List.take_of_length_le (Nat.le_of_eq sZ.out.symm)] at hown2;obtain⟨h0,rfl,hr0⟩:=jC.mP (enc:=iG) hown2 (by rw[List.length_map];exact sZ.out);obtain⟨W1,hW⟩:∃x,x=wr:=⟨_,rfl⟩
   have HR0:Hid (jC (B+2) W1 iG (l.facts.map Dc.name) h0):=by rw[hW];exact⟨hr0.1,fun ad h=>Nat.le_trans HB0.out (hr0.2 ad h)⟩
   have Cc:Hid (aj W1 (B+1) 116 [.slice h0.a h0.n h0.c,.slice none 0 0,.slice none 0 0]):=by rw[hW];exact hka
   have nS:Hid (Below w.heap.size w W1):=by rw[hW];exact hbr
   have bF:Hid (aJ (B+1) W W1):=by rw[hW];exact bF.out.trans hon.out
   have hkc:∀j,W1.cell? ⟨B,j,none⟩=_:=(bF.out.blk lS.out (by omega)).cells;rw[←hW];clear hown hown2 hbr hka hon hjn hW HB0;go_wp2_with fail;have HB0:Hid (B+2≤W1.heap.size):=by have h1:=yM.out;have h2:=bF.out.size;show _≤_;omega
   go_loopg [27] sn (fun g iv wr=>∃(j:Nat) (v:Value),j+g=sn∧iv=.int .i64 j∧Hid (aj wr (B+1) 116 [.slice h0.a h0.n h0.c,v,.slice none 0 0])∧Hid (wr.ownsRow W1.heap.size 9 1 v j (strs ((l.bI.take j).map Sc.name)))∧Hid (aJ (B+1) W1 wr)∧Hid (Below w.heap.size w wr))
   case atStart=>exact⟨0,.slice none 0 0,by omega,rfl,Cc,World.ownsRow_nil _ _ _ _,aJ.refl _ _,nS⟩
   case round=>
    obtain⟨j,v,hj,rfl,hka,hown,hon,hbr⟩:=hrel;clear Cc nS;by_cases hlt:j<sn
    ·have nM:j<l.bI.length:=by rw[←oZ.out];exact hlt
     have hjm:j<ss.length:=by rw[←l7.out.s.len];exact hlt
     have o7:=uJ Sc.name nM;rw[show l.bI[j]=ss[j].1 from Xz.out j nM hjm] at o7;obtain⟨b,off,hA,hb,hc⟩:=Rd.row fU 4 (fun _=>rfl) (by omega) (l7.out.s.below hbr.out).rd hjm;simp only at hA;subst hA;generalize ss[j]=x at*;obtain⟨⟨nm,mo,da,br⟩,⟨ha,hn,hcc⟩⟩:=x;have Eb:=zH o7;have c0:=hc 0 _ rfl;have c1:=hc 1 _ rfl;have c2:=hc 2 _ rfl;have c3:=hc 3 _ rfl;simp only[Nat.add_zero] at c0;obtain⟨XS,o8⟩:∃X,X=strs ((l.bI.take j).map Sc.name):=⟨_,rfl⟩
     rw[←o8] at hown;have Ec:=zH o8;have Ed:Hid ((wr.alloc (.cells #[.string nm,.int .i64 mo,.int .i64 da,.slice ha hn hcc] 37)).ownsRow W1.heap.size 9 1 v j XS):=hown.out.alloc _;have hba:=(Below.refl wr.heap.size wr).alloc (Nat.le_refl _) (.cells #[.string nm,.int .i64 mo,.int .i64 da,.slice ha hn hcc] 37);have aK:Hid (Below w.heap.size w (wr.alloc (.cells #[.string nm,.int .i64 mo,.int .i64 da,.slice ha hn hcc] 37))):=hbr.out.alloc hbr.out.size _;have Ee:Hid (aJ (B+1) W1 (wr.alloc (.cells #[.string nm,.int .i64 mo,.int .i64 da,.slice ha hn hcc] 37))):=hon.out.trans (aJ.of_below hba);have Ls:=zH (hka.out.below hba hka.out.lt);have hkx:∀j,(wr.alloc (.cells #[.string nm,.int .i64 mo,.int .i64 da,.slice ha hn hcc] 37)).cell? ⟨B+1,j,none⟩=_:=Ls.out.cells;clear hown hbr hc o7 o8 hba hon hka;go_wp2_with (at_builtin;go_must (refine dh (wr.alloc (.cells #[.string nm,.int .i64 mo,.int .i64 da,.slice ha hn hcc] 37)) #[.string nm] rfl _ _ 97 rfl W1.heap.size 9 _ 1 16 1 Tryz.underlying97 o9 rfl (by decide) v j XS rfl Ed.out (by rw[World.size_alloc];rfl) rfl ?_ ?_ ?_ ?_ ?_))
     any_goals first|rfl|(unfold maxLen;omega)|omega
     ·have hz:=Ee.out.size;rw[World.size_alloc] at hz;exact hz
     intro v' w' hown' hb';obtain⟨Av',cv',rfl,_⟩:=bM hown';have tq:=Ls.out.of_block (hb'.block (B+1) (by have:=HB0.out;omega));have Gv:=tq.cells;have adH:=tq.aF;have OX:=zH tq;have HOWN':=zH hown';have D8:=zH hb';clear hown' hb' tq c0 hkx;go_wp2
     go_roundg (sn-(j+1))
     case measure=>omega
     case rel=>
      refine⟨j+1,.slice Av' (j+1) cv',by omega,by go_num,OX.out.set 1 _,?_,(Ee.out.more D8.out).set 1 _,?_⟩
      ·show World.ownsRow _ _ _ _ _ _ _;rw[Eb.out,qC,←Ec.out];refine HOWN'.out.kept (lM w' (B+1) 1 _) (.inr (fun h=>?_));have h1:=(HOWN'.out.lt _ h).1;have:=HB0.out;omega
      ·exact (aK.out.trans (D8.out.mono (by have:=HB0.out;have:=cO.out;omega))).setCell (p:=⟨B+1,1,none⟩) (by show _≤B+1;have:=cO.out;omega) _
    ·have hjn:j=sn:=by omega
     have hown2:=hown.out;rw[hjn,List.take_of_length_le (Nat.le_of_eq oZ.out.symm)] at hown2;obtain⟨h1,rfl,hr1⟩:=jC.mP (enc:=iG) hown2 (by rw[List.length_map];exact oZ.out);obtain⟨W2,hW⟩:∃x,x=wr:=⟨_,rfl⟩
     have HR1:Hid (jC (B+2) W2 iG (l.bI.map Sc.name) h1):=by rw[hW];exact⟨hr1.1,fun ad h=>Nat.le_trans HB0.out (hr1.2 ad h)⟩
     replace HR0:Hid (jC (B+2) W2 iG (l.facts.map Dc.name) h0):=by rw[hW];exact HR0.out.iP hon.out (by omega)
     have Cc:Hid (aj W2 (B+1) 116 [.slice h0.a h0.n h0.c,.slice h1.a h1.n h1.c,.slice none 0 0]):=by rw[hW];exact hka
     have nS:Hid (Below w.heap.size w W2):=by rw[hW];exact hbr
     have bF:Hid (aJ (B+1) W W2):=by rw[hW];exact bF.out.trans hon.out
     have hkc:∀j,W2.cell? ⟨B,j,none⟩=_:=(bF.out.blk lS.out (by omega)).cells;rw[←hW];clear hown hown2 hbr hka hon hjn hW HB0;go_wp2_with fail;have HB0:Hid (B+2≤W2.heap.size):=by have h1:=yM.out;have h2:=bF.out.size;show _≤_;omega
     go_loopg [42] pn (fun g iv wr=>∃(j:Nat) (v:Value),j+g=pn∧iv=.int .i64 j∧Hid (aj wr (B+1) 116 [.slice h0.a h0.n h0.c,.slice h1.a h1.n h1.c,v])∧Hid (wr.ownsRow W2.heap.size 9 1 v j (strs ((l.aP.take j).map Pv.name)))∧Hid (aJ (B+1) W2 wr)∧Hid (Below w.heap.size w wr))
     case atStart=>exact⟨0,.slice none 0 0,by omega,rfl,Cc,World.ownsRow_nil _ _ _ _,aJ.refl _ _,nS⟩
     case round=>
      obtain⟨j,v,hj,rfl,hka,hown,hon,hbr⟩:=hrel;clear Cc nS;by_cases hlt:j<pn
      ·have nM:j<l.aP.length:=by rw[←jo.out];exact hlt
       have hjm:j<ps.length:=by rw[←l7.out.p.len];exact hlt
       have o7:=uJ Pv.name nM;rw[show l.aP[j]=ps[j].1 from Ea.out j nM hjm] at o7;obtain⟨b,off,hA,hb,hc⟩:=Rd.row bg 12 (fun _=>rfl) (by omega) (l7.out.p.below hbr.out).rd hjm;simp only at hA;subst hA;generalize ps[j]=x at*;obtain⟨⟨nm,⟨tt,tm,td⟩,ch,⟨kW,kX,kY⟩,⟨kZ,lg,cn3⟩,bo⟩,⟨ha,hn,hcc⟩⟩:=x;have Eb:=zH o7;have c0:=hc 0 _ rfl;have c1:=hc 1 _ rfl;have c2:=hc 2 _ rfl;have c3:=hc 3 _ rfl;have c4:=hc 4 _ rfl;have c5:=hc 5 _ rfl;have c6:=hc 6 _ rfl;have c7:=hc 7 _ rfl;have c8:=hc 8 _ rfl;have c9:=hc 9 _ rfl;have c10:=hc 10 _ rfl;have c11:=hc 11 _ rfl;simp only[Nat.add_zero] at c0;obtain⟨XS,o8⟩:∃X,X=strs ((l.aP.take j).map Pv.name):=⟨_,rfl⟩
       rw[←o8] at hown;have Ec:=zH o8;have Ed:Hid ((wr.alloc (.cells #[.string nm,.bool tt,.int .i64 tm,.int .i64 td,.slice ha hn hcc,.bool ch,.bool kW,.string kX,.string kY,.bool kZ,.string lg,.string cn3] 46)).ownsRow W2.heap.size 9 1 v j XS):=hown.out.alloc _;have hba:=(Below.refl wr.heap.size wr).alloc (Nat.le_refl _) (.cells #[.string nm,.bool tt,.int .i64 tm,.int .i64 td,.slice ha hn hcc,.bool ch,.bool kW,.string kX,.string kY,.bool kZ,.string lg,.string cn3] 46);have aK:Hid (Below w.heap.size w (wr.alloc (.cells #[.string nm,.bool tt,.int .i64 tm,.int .i64 td,.slice ha hn hcc,.bool ch,.bool kW,.string kX,.string kY,.bool kZ,.string lg,.string cn3] 46))):=hbr.out.alloc hbr.out.size _;have Ee:Hid (aJ (B+1) W2 (wr.alloc (.cells #[.string nm,.bool tt,.int .i64 tm,.int .i64 td,.slice ha hn hcc,.bool ch,.bool kW,.string kX,.string kY,.bool kZ,.string lg,.string cn3] 46))):=hon.out.trans (aJ.of_below hba);have Ls:=zH (hka.out.below hba hka.out.lt);have hkx:∀j,(wr.alloc (.cells #[.string nm,.bool tt,.int .i64 tm,.int .i64 td,.slice ha hn hcc,.bool ch,.bool kW,.string kX,.string kY,.bool kZ,.string lg,.string cn3] 46)).cell? ⟨B+1,j,none⟩=_:=Ls.out.cells;clear hown hbr hc o7 o8 hba hon hka;go_wp2_with (at_builtin;go_must (refine dh (wr.alloc (.cells #[.string nm,.bool tt,.int .i64 tm,.int .i64 td,.slice ha hn hcc,.bool ch,.bool kW,.string kX,.string kY,.bool kZ,.string lg,.string cn3] 46)) #[.string nm] rfl _ _ 97 rfl W2.heap.size 9 _ 1 16 1 Tryz.underlying97 o9 rfl (by decide) v j XS rfl Ed.out (by rw[World.size_alloc];rfl) rfl ?_ ?_ ?_ ?_ ?_))
       any_goals first|rfl|(unfold maxLen;omega)|omega
       ·have hz:=Ee.out.size;rw[World.size_alloc] at hz;exact hz
       intro v' w' hown' hb';obtain⟨Av',cv',rfl,_⟩:=bM hown';have tq:=Ls.out.of_block (hb'.block (B+1) (by have:=HB0.out;omega));have Gv:=tq.cells;have adH:=tq.aF;have OX:=zH tq;have HOWN':=zH hown';have D8:=zH hb';clear hown' hb' tq c0 hkx;go_wp2
       go_roundg (pn-(j+1))
       case measure=>omega
       case rel=>
        refine⟨j+1,.slice Av' (j+1) cv',by omega,by go_num,OX.out.set 2 _,?_,(Ee.out.more D8.out).set 2 _,?_⟩
        ·show World.ownsRow _ _ _ _ _ _ _;rw[Eb.out,qC,←Ec.out];refine HOWN'.out.kept (lM w' (B+1) 2 _) (.inr (fun h=>?_));have h1:=(HOWN'.out.lt _ h).1;have:=HB0.out;omega
        ·exact (aK.out.trans (D8.out.mono (by have:=HB0.out;have:=cO.out;omega))).setCell (p:=⟨B+1,2,none⟩) (by show _≤B+1;have:=cO.out;omega) _
      ·have hjn:j=pn:=by omega
       have hown2:=hown.out;rw[hjn,List.take_of_length_le (Nat.le_of_eq jo.out.symm)] at hown2;obtain⟨h2,rfl,hr2⟩:=jC.mP (enc:=iG) hown2 (by rw[List.length_map];exact jo.out);obtain⟨W3,hW⟩:∃x,x=wr:=⟨_,rfl⟩
       have HR2:Hid (jC (B+2) W3 iG (l.aP.map Pv.name) h2):=by rw[hW];exact⟨hr2.1,fun ad h=>Nat.le_trans HB0.out (hr2.2 ad h)⟩
       replace HR0:Hid (jC (B+2) W3 iG (l.facts.map Dc.name) h0):=by rw[hW];exact HR0.out.iP hon.out (by omega)
       replace HR1:Hid (jC (B+2) W3 iG (l.bI.map Sc.name) h1):=by rw[hW];exact HR1.out.iP hon.out (by omega)
       have Cc:Hid (aj W3 (B+1) 116 [.slice h0.a h0.n h0.c,.slice h1.a h1.n h1.c,.slice h2.a h2.n h2.c]):=by rw[hW];exact hka
       have nS:Hid (Below w.heap.size w W3):=by rw[hW];exact hbr
       have bF:Hid (aJ (B+1) W W3):=by rw[hW];exact bF.out.trans hon.out
       have hkc:∀j,W3.cell? ⟨B,j,none⟩=_:=(bF.out.blk lS.out (by omega)).cells;rw[←hW];clear hown hown2 hbr hka hon hjn hW HB0;have hka:=Cc.out.cells;have rO:=Cc.out.aF;have dW:Hid (∀u0 u1 u2,aJ (B+1) W3 (((W3.setCell ⟨B+1,0,none⟩ u0).setCell ⟨B+1,1,none⟩ u1).setCell ⟨B+1,2,none⟩ u2)):=fun u0 u1 u2=>(((aJ.refl (B+1) W3).set 0 u0).set 1 u1).set 2 u2
       go_wp2;refine bodyPost_ret (v:=.agg #[.slice h0.a h0.n h0.c,.slice h1.a h1.n h1.c,.slice h2.a h2.n h2.c]) (by simp[results,Tryz.results57,go_sem,hka]) rfl ⟨h0,h1,h2,rfl,?_,?_,?_,?_⟩
       ·exact (HR0.out.iP (dW.out _ _ _) (by omega)).1
       ·exact (HR1.out.iP (dW.out _ _ _) (by omega)).1
       ·exact (HR2.out.iP (dW.out _ _ _) (by omega)).1
       ·exact eu (B:=B+1) nS.out (by have:=cO.out;omega) _ _ _
def fO (s:ByteArray):Bool:=nameB s.data.toList
theorem ZH:aC 5=⟨[102,97,99,116,46],0,false,true,false⟩:=rfl
theorem Uy (s:ByteArray):bP ⟨5,zR,s⟩=if fO s then 0 else 12:=by
 have h1:iW ⟨5,zR,s⟩=true:=by unfold iW;simp only[ZH];simp
 unfold bP;rw[h1];simp only[ZH]
 unfold fO;cases nameB s.data.toList<;>simp
theorem Uz (s:ByteArray):bC [⟨5,zR,s⟩]=if fO s then 0 else 12:=by
 unfold bC;rw[if_neg (by simp),chk,Uy];cases fO s
 ·rfl
 ·simp only[ZH];simp[chk]
theorem yX (s:ByteArray) (w:World) (hL:dK w):Calls Tryz.prog 15 #[.string s] w fun e w'=>e=.returned (.bool (fO s))∧Below w.heap.size w w':=by
 obtain⟨W,hW⟩:=zE (w.alloc (.cells #[.int .i64 5,.bool false,.string ⟨#[]⟩,.string ⟨#[]⟩,.string s] 48));obtain⟨B,hB⟩:=zE w.heap.size;have hK:aj W B 48 [.int .i64 5,.bool false,.string ⟨#[]⟩,.string ⟨#[]⟩,.string s]:=by rw[hW,hB];exact aj.new w _ _
 have aK:Hid (Below w.heap.size w W):=by show Below _ _ _;rw[hW];exact zB _ _
 have HC:=zH (check_any [⟨5,zR,s⟩] (some ⟨B,0,none⟩) 1 1 W (hL.below aK.out) rfl (Nat.le_refl _) (by unfold maxLen;omega) hK.rd (fun n hn=>by rw[List.mem_singleton.1 hn];exact⟨Nat.zero_le _,Nat.zero_le _⟩));rw[Uz] at HC;generalize fO s=q at*;clear hL hK;cases q
 ·go_enter Tryz.func15,Tryz.ntmps15;go_wp2_with fail;simp only[←hW,←hB]
  refine HC.out.mono ?_;rintro e w5 ⟨rfl,hb5⟩;have eF:=zH (ah aK.out hb5);clear hb5 hW hB;go_wp2;go_ret;exact⟨rfl,eF.out⟩
 ·go_enter Tryz.func15,Tryz.ntmps15;go_wp2_with fail;simp only[←hW,←hB]
  refine HC.out.mono ?_;rintro e w5 ⟨rfl,hb5⟩;have eF:=zH (ah aK.out hb5);clear hb5 hW hB;go_wp2;go_ret;exact⟨rfl,eF.out⟩
theorem zPg {P:Program} {W:World} {news:Array Value} {ops:Array Oper} {rest:List Oper} {o:Oper} {a:Act} {Q:Exit→Act→World→Prop} {s x:Operand} {t e:TypeId} {z v:Value} {base size bytes n:Nat} {xs:List Value} {a':Value→Act}
  (hinfo:(P.info? e).map (fun i=>(i.zero,i.size,i.bytes))=some (some z,size,bytes)) (ht:P.underlying t=some (.slice e)) (hown:W.ownsRow base e size v n xs) (hn:n≤100000) (hbase:base≤W.heap.size)
  (h:∀v' w',w'.ownsRow base e size v' (n+1) (xs++news.toList)→W.grownBy w' v.ownBlock→wpList P ops Q rest (a' v') w')
  (hgd:o.guard=none:=by rfl) (ho:o.op=.call {callee:=.builtin .append,args:=#[s,x],argTypes:=#[t,t]}:=by rfl) (hs:a.eval s=v:=by rfl) (hx:a.eval x=.slice (some ⟨W.heap.size,0,none⟩) 1 1:=by rfl)
  (hl:news.size=1*size:=by rfl) (hzs:z.cells.size=size:=by rfl) (hsz:0<size:=by decide) (hby:bytes≤1000:=by decide) (h1:∀u∈news.toList,u.oneCell'=true:=by (simp<;>(repeat' constructor)))
  (ha:∀v,a.put o.dst v=a' v:=by (intro v;rfl)):wpList P ops Q (o::rest) a (W.alloc (.cells news e)):=
 kG W news hgd s x t ho base e z size bytes 1 ht hinfo hzs hsz v n xs hs hown hx hl h1 (by unfold maxLen;omega) (Nat.le_trans (Nat.mul_le_mul (show n+1≤100001 by omega) hby) (by decide)) hbase (fun v' w' h2 h3 _=>by rw[ha];exact h v' w' h2 h3)
section
variable {α:Type} {w:World} {A:Option Addr} {n c j:Nat}
theorem aU.at {enc:α→List Value} {xs:List α} (m:Nat) (hm:∀a,(enc a).length=m) (h0:0<m) (k:aU w enc xs ⟨A,n,c⟩) (hj:j<n):∃b off,A=some ⟨b,off,none⟩∧b<w.heap.size∧∃hx:j<xs.length,∀X,Below w.heap.size w X→∀i v,(enc xs[j])[i]?=some v→X.cell? ⟨b,off+j*m+i,none⟩=some v:=by
 have hx:j<xs.length:=by rw[←k.len];exact hj
 obtain⟨b,off,hA,hb,hc⟩:=Rd.row enc m hm h0 k.rd hx;exact⟨b,off,hA,hb,hx,fun X hX i v hv=>(hX.cell (p:=⟨b,off+j*m+i,none⟩) hb).trans (hc i v hv)⟩
theorem ES {xs:List Dc} (k:aU w Dc.cells xs ⟨A,n,c⟩) (hj:j<n):∃b off nm t m d,A=some ⟨b,off,none⟩∧b<w.heap.size∧∃hx:j<xs.length,xs[j]=⟨nm,⟨t,m,d⟩⟩∧∀X,Below w.heap.size w X→X.cell? ⟨b,off+j*4,none⟩=some (.string nm)∧X.cell? ⟨b,off+j*4+1,none⟩=some (.bool t)∧X.cell? ⟨b,off+j*4+2,none⟩=some (.int .i64 m)∧X.cell? ⟨b,off+j*4+3,none⟩=some (.int .i64 d):=by
 obtain⟨b,off,hA,hb,hx,hc⟩:=k.at 4 (fun _=>rfl) (by omega) hj;exact⟨b,off,_,_,_,_,hA,hb,hx,rfl,fun X hX=>⟨hc X hX 0 _ rfl,hc X hX 1 _ rfl,hc X hX 2 _ rfl,hc X hX 3 _ rfl⟩⟩
theorem Bv {xs:List (Sc × Hd)} (k:aU w fU xs ⟨A,n,c⟩) (hj:j<n):∃b off nm m d bs h,A=some ⟨b,off,none⟩∧b<w.heap.size∧∃hx:j<xs.length,xs[j]=(⟨nm,m,d,bs⟩,h)∧∀X,Below w.heap.size w X→X.cell? ⟨b,off+j*4,none⟩=some (.string nm)∧X.cell? ⟨b,off+j*4+1,none⟩=some (.int .i64 m)∧X.cell? ⟨b,off+j*4+2,none⟩=some (.int .i64 d)∧X.cell? ⟨b,off+j*4+3,none⟩=some (.slice h.a h.n h.c):=by
 obtain⟨b,off,hA,hb,hx,hc⟩:=k.at 4 (fun _=>rfl) (by omega) hj;exact⟨b,off,_,_,_,_,_,hA,hb,hx,rfl,fun X hX=>⟨hc X hX 0 _ rfl,hc X hX 1 _ rfl,hc X hX 2 _ rfl,hc X hX 3 _ rfl⟩⟩
theorem Bz {xs:List (Pv × Hd)} (k:aU w bg xs ⟨A,n,c⟩) (hj:j<n):∃b off p,A=some ⟨b,off,none⟩∧b<w.heap.size∧∃hx:j<xs.length,xs[j]=p∧∀X,Below w.heap.size w X→X.cell? ⟨b,off+j*12,none⟩=some (.string p.1.name)∧X.cell? ⟨b,off+j*12+1,none⟩=some (.bool p.1.ty.truth)∧X.cell? ⟨b,off+j*12+2,none⟩=some (.int .i64 p.1.ty.aH)∧X.cell? ⟨b,off+j*12+3,none⟩=some (.int .i64 p.1.ty.days)∧X.cell? ⟨b,off+j*12+4,none⟩=some (.slice p.2.a p.2.n p.2.c)∧X.cell? ⟨b,off+j*12+5,none⟩=some (.bool p.1.jI)∧
  X.cell? ⟨b,off+j*12+6,none⟩=some (.bool p.1.step.neg)∧X.cell? ⟨b,off+j*12+7,none⟩=some (.string p.1.step.num)∧X.cell? ⟨b,off+j*12+8,none⟩=some (.string p.1.step.den)∧X.cell? ⟨b,off+j*12+9,none⟩=some (.bool p.1.cap.neg)∧X.cell? ⟨b,off+j*12+10,none⟩=some (.string p.1.cap.num)∧X.cell? ⟨b,off+j*12+11,none⟩=some (.string p.1.cap.den):=by
 obtain⟨b,off,hA,hb,hx,hc⟩:=k.at 12 (fun _=>rfl) (by omega) hj;exact⟨b,off,_,hA,hb,hx,rfl,fun X hX=>⟨hc X hX 0 _ rfl,hc X hX 1 _ rfl,hc X hX 2 _ rfl,hc X hX 3 _ rfl,hc X hX 4 _ rfl,hc X hX 5 _ rfl,hc X hX 6 _ rfl,hc X hX 7 _ rfl,hc X hX 8 _ rfl,hc X hX 9 _ rfl,hc X hX 10 _ rfl,hc X hX 11 _ rfl⟩⟩
end
theorem aaQ {w:World} {A:Option Addr} {n c:Nat} {xs:List Bk} (k:aU w Bk.cells xs ⟨A,n,c⟩) (h0:0<n):∃b off,A=some ⟨b,off,none⟩∧∀j,j<n→∃a r,∃hx:j<xs.length,xs[j]=⟨a,r⟩∧∀X,Below w.heap.size w X→X.cell? ⟨b,off+j*6,none⟩=some (.bool a.neg)∧X.cell? ⟨b,off+j*6+1,none⟩=some (.string a.num)∧X.cell? ⟨b,off+j*6+2,none⟩=some (.string a.den)∧X.cell? ⟨b,off+j*6+3,none⟩=some (.bool r.neg)∧X.cell? ⟨b,off+j*6+4,none⟩=some (.string r.num)∧X.cell? ⟨b,off+j*6+5,none⟩=some (.string r.den):=by
 obtain⟨b,off,rfl,_⟩:=k.at 6 (fun _=>rfl) (by omega) h0;refine⟨b,off,rfl,fun j hj=>?_⟩;obtain⟨b',off',e,hb,hx,hc⟩:=k.at 6 (fun _=>rfl) (by omega) hj;obtain⟨rfl,rfl⟩:b=b'∧off=off':=by injection e with e;injection e with e1 e2;exact⟨e1,e2⟩
 exact⟨_,_,hx,rfl,fun X hX=>⟨hc X hX 0 _ rfl,hc X hX 1 _ rfl,hc X hX 2 _ rfl,hc X hX 3 _ rfl,hc X hX 4 _ rfl,hc X hX 5 _ rfl⟩⟩
theorem OY (nm:ByteArray) (m d:Int) (l:List Bk) (h:Hd) (w:World) (hr:aU w Bk.cells l h) (hf:∀b∈l,oL b):
  Calls Tryz.prog 37 #[.agg #[.string nm,.int .i64 m,.int .i64 d,.slice h.a h.n h.c]] w fun e w'=>e=.returned (.int .i64 (fF l))∧Below w.heap.size w w':=by
 obtain⟨A,n,c⟩:=h;have hn:n=l.length:=hr.len;have hm:n≤9223372036854775807:=by have h1:=hr.cap;have h2:=hr.max;unfold maxLen at h2;simp only at h1 h2;omega
 obtain⟨z,HZ⟩:=zE (fF l);rw[←HZ];replace HZ:=zH HZ;have HN:=zH hn;clear hn;simp only
 go_enter Tryz.func37,Tryz.ntmps37
 go_upto_region 1 with fail
 generalize hX:w.alloc _=W;obtain⟨hk,hb0⟩:=zA hX;have hc:=hk.cells;replace hr:=hr.below hb0;clear hX hk;by_cases h8:8<n
 ·have HE:Hid (z=2):=by show _=_;have hn:=HN.out;rw[HZ.out];unfold fF;rw[if_pos (by omega)]
  have h8':(8:Int)<n:=by omega
  go_wp2;go_ret;exact⟨by rw[HE.out];rfl,hb0⟩
 by_cases h0:n=0
 ·have HE:Hid (z=11):=by show _=_;have hn:=HN.out;rw[HZ.out];unfold fF;rw[if_neg (by omega),if_pos (by omega)]
  subst h0;go_wp2;go_ret;exact⟨by rw[HE.out];rfl,hb0⟩
 have XB:=zH (show l.length≤8 by have hn:=HN.out;omega);have hl0:=zH (show 0<l.length by have hn:=HN.out;omega);have h8':¬(8:Int)<n:=by omega
 have h0':((n:Int)==0)=false:=by rw[beq_eq_false_iff_ne];omega
 obtain⟨b,off,rfl,hat⟩:=aaQ hr (by omega);go_wp2;clear hc
 go_loopg [4] n (fun g iv X=>∃j:Nat,j+g=n∧iv=.int .i64 j∧Below W.heap.size W X∧Hid (∀i (h:i<l.length),i<j→okB l[i]=true))
 case atStart=>exact⟨0,by omega,rfl,Below.refl _ _,fun _ _ h=>by omega⟩
 case round=>
  obtain⟨j,hj,rfl,hb,ho⟩:=hrel;by_cases hlt:j<n
  ·obtain⟨⟨an,au,ad⟩,⟨rn,ru,rd⟩,hx,hx2,hc⟩:=hat j hlt;obtain⟨⟨f1,f2⟩,f3,f4⟩:=hf _ (List.getElem_mem hx);rw[hx2] at f1 f2 f3 f4;simp only at f1 f2 f3 f4;have hc1:=hc _ hb;obtain⟨o1,h1⟩:=zF (okR ⟨an,au,ad⟩);obtain⟨o2,h2⟩:=zF (okR ⟨rn,ru,rd⟩);have hok:Hid (okB l[j]=(o1&&o2)):=by show _=_;rw[hx2];unfold okB;rw[h1,h2]
   clear hx2;go_wp2_with fail;refine (wM ⟨an,au,ad⟩ _ (by simp only;omega) (by simp only;omega)).mono ?_;rw[h1];rintro e w1 ⟨rfl,hb1⟩;replace hb:=ah hb hb1;clear hc1 hb1;have hc1:=hc _ hb;go_wp2_with fail;refine (wM ⟨rn,ru,rd⟩ _ (by simp only;omega) (by simp only;omega)).mono ?_;rw[h2];rintro e w2 ⟨rfl,hb1⟩;replace hb:=ah hb hb1;clear hc1 hb1 h1 h2 f1 f2 f3 f4;cases o1
   ·have HE:Hid (z=11):=HZ.out.trans (ER XB.out hl0.out (.inl ⟨_,List.getElem_mem hx,hok.out⟩));go_wp2;go_ret;exact⟨by rw[HE.out];rfl,ah hb0 hb⟩
   ·cases o2
    ·have HE:Hid (z=11):=HZ.out.trans (ER XB.out hl0.out (.inl ⟨_,List.getElem_mem hx,hok.out⟩));go_wp2;go_ret;exact⟨by rw[HE.out];rfl,ah hb0 hb⟩
    ·go_wp2
     go_roundg (n-(j+1))
     case measure=>omega
     case rel=>exact⟨j+1,by omega,by go_num,hb,fun i h hi=>by rcases (by omega:i<j∨i=j) with h1|rfl;exact ho.out i h h1;exact hok.out⟩
  ·have HO:Hid (∀b∈l,okB b=true):=fun b hb=>by obtain⟨i,hi,rfl⟩:=List.getElem_of_mem hb;exact ho.out i hi (by have:=HN.out;omega)
   clear ho;have h0p:0<n:=by omega
   obtain⟨⟨an,au,ad⟩,⟨rn,ru,rd⟩,hx,hx2,hc⟩:=hat 0 h0p;obtain⟨⟨f1,f2⟩,f3,f4⟩:=hf _ (List.getElem_mem hx);rw[hx2] at f1 f2;simp only at f1 f2;have hc1:=hc _ hb;simp only[Nat.zero_mul,Nat.add_zero] at hc1;obtain⟨s1,h1⟩:=zF (dV ⟨an,au,ad⟩);have hs1:Hid (dV (l[0]'hl0.out).fr=s1):=by show _=_;rw[hx2,h1]
   clear hx2;go_wp2_with fail;refine (yN ⟨an,au,ad⟩ _ (by simp only;omega) (by simp only;omega)).mono ?_;rw[h1];rintro e w1 ⟨rfl,hb1⟩;replace hb:=ah hb hb1;clear hc1 hb1 h1 f1 f2 f3 f4 hc;by_cases hs:s1=0
   ·subst hs;go_wp2
    go_loopg [8] (n-1) (fun g iv X=>∃j:Nat,j+1+g=n∧iv=.int .i64 ((j:Int)+1)∧Below W.heap.size W X∧Hid (∀i (h:i+1<l.length),i<j→lX l[i].fr l[i+1].fr<0))
    case atStart=>exact⟨0,by omega,rfl,hb,fun _ _ h=>by omega⟩
    case round=>
     clear hb;obtain⟨j,hj,rfl,hb,ho⟩:=hrel;by_cases hlt:j+1<n
     ·obtain⟨⟨an,au,ad⟩,⟨rn,ru,rd⟩,hx,hx2,hc⟩:=hat j (by omega);obtain⟨⟨bn,bu,bd⟩,⟨qn,qu,qd⟩,hy,hy2,hc'⟩:=hat (j+1) hlt;obtain⟨⟨f1,f2⟩,_⟩:=hf _ (List.getElem_mem hx);obtain⟨⟨f3,f4⟩,_⟩:=hf _ (List.getElem_mem hy);have ok1:=HO.out _ (List.getElem_mem hx);have ok2:=HO.out _ (List.getElem_mem hy);unfold okB at ok1 ok2;rw[hx2] at f1 f2 ok1;rw[hy2] at f3 f4 ok2;rw[Bool.and_eq_true] at ok1 ok2;simp only at f1 f2 f3 f4 ok1 ok2;obtain⟨s2,h2⟩:=zF (lX ⟨an,au,ad⟩ ⟨bn,bu,bd⟩);have hs2:Hid (lX (l[j]).fr (l[j+1]).fr=s2):=by show _=_;rw[hx2,hy2,h2]
      have HCM:=zH (fun W=>Y9 ⟨an,au,ad⟩ ⟨bn,bu,bd⟩ W ok1.1 ok2.1 1048576 (by omega) f1 f2 f3 f4);rw[h2] at HCM;clear hx2 hy2 h2 f1 f2 f3 f4 ok1 ok2;have hcc:=fun X hX=>And.intro (hc X hX) (hc' X hX)
      clear hc hc';have hwj:IntKind.i64.wrap (j:Int)=j:=IntWalk.i64_in _ (by omega);have hwp:(0:Int)≤(j:Int)+1:=by omega
      have hjn:j<n:=by omega
      go_upto_region 19 with fail
      refine gy (Below W.heap.size W) 99 hb.drew (fun w4 h4 hS=>?_)
      iterate 11 refine bU ?_
      refine eY 11 (HCM.out _) ?_;rintro e w5 ⟨rfl,hb5⟩;refine⟨_,rfl,ah hS hb5,fun hS=>?_⟩;refine bU ?_;refine dY ?_;clear hcc hb hb5 h4;by_cases hs:0≤s2
      ·have HE:Hid (z=11):=HZ.out.trans (ER XB.out hl0.out (.inr (.inr ⟨j,hy,by rw[hs2.out];exact hs⟩)));go_wp2;go_ret;exact⟨by rw[HE.out];rfl,ah hb0 hS⟩
      ·go_wp2
       go_roundg (n-1-(j+1))
       case measure=>omega
       case rel=>exact⟨j+1,by omega,by go_num,hS,fun i h hi=>by rcases (by omega:i<j∨i=j) with h1|rfl;exact ho.out i h h1;rw[hs2.out];omega⟩
     ·have HA:Hid (∀i,∀h:i+1<l.length,lX l[i].fr l[i+1].fr<0):=fun i h=>ho.out i h (by have:=HN.out;omega)
      have HR:Hid (z=if l.any jV then 3 else 0):=HZ.out.trans (ZE XB.out hl0.out HO.out hs1.out HA.out);clear ho;go_wp2
      go_loopg [10] n (fun g iv X=>∃j:Nat,j+g=n∧iv=.int .i64 j∧Below W.heap.size W X∧Hid ((l.drop j).any jV=l.any jV))
      case atStart=>exact⟨0,by omega,rfl,hb,rfl⟩
      case round=>
       clear hb;obtain⟨j,hj,rfl,hb,ho⟩:=hrel;by_cases hlt:j<n
       ·obtain⟨⟨an,au,ad⟩,⟨rn,ru,rd⟩,hx,hx2,hc⟩:=hat j hlt;obtain⟨⟨f1,f2⟩,f3,f4⟩:=hf _ (List.getElem_mem hx);rw[hx2] at f1 f2 f3 f4;simp only at f1 f2 f3 f4;have hc1:=hc _ hb;obtain⟨o1,h1⟩:=zF (dJ ⟨an,au,ad⟩);obtain⟨o2,h2⟩:=zF (dJ ⟨rn,ru,rd⟩);have ho2:=ho.out;rw[List.drop_eq_getElem_cons hx,List.any_cons,hx2,show jV ⟨⟨an,au,ad⟩,⟨rn,ru,rd⟩⟩=(!o1|| !o2) by unfold jV;rw[h1,h2]] at ho2;replace ho:=zH ho2;clear hx2 ho2;go_wp2_with fail;refine (vF ⟨an,au,ad⟩ _ (by simp only;omega) (by simp only;omega)).mono ?_;rw[h1];rintro e w1 ⟨rfl,hb1⟩;replace hb:=ah hb hb1;clear hc1 hb1;have hc1:=hc _ hb;go_wp2_with fail;refine (vF ⟨rn,ru,rd⟩ _ (by simp only;omega) (by simp only;omega)).mono ?_;rw[h2];rintro e w2 ⟨rfl,hb1⟩;replace hb:=ah hb hb1;clear hc1 hb1 h1 h2 f1 f2 f3 f4;cases o1
        ·have HE:Hid (z=3):=by show _=_;rw[HR.out,←ho.out];rfl
         go_wp2;go_ret;exact⟨by rw[HE.out];rfl,ah hb0 hb⟩
        ·cases o2
         ·have HE:Hid (z=3):=by show _=_;rw[HR.out,←ho.out];rfl
          go_wp2;go_ret;exact⟨by rw[HE.out];rfl,ah hb0 hb⟩
         ·go_wp2
          go_roundg (n-(j+1))
          case measure=>omega
          case rel=>exact⟨j+1,by omega,by go_num,hb,ho.out⟩
       ·have HE:Hid (z=0):=by show _=_;rw[HR.out,←ho.out,List.drop_eq_nil_of_le (by have:=HN.out;omega)];rfl
        go_wp2;go_ret;exact⟨by rw[HE.out];rfl,ah hb0 hb⟩
   ·have HE:Hid (z=11):=HZ.out.trans (ER XB.out hl0.out (.inr (.inl (by rw[hs1.out];exact hs))));have hs':(s1 !=0)=true:=by simp[hs]
    clear hs;go_wp2;go_ret;exact⟨by rw[HE.out];rfl,ah hb0 hb⟩
theorem FP (m d:Int) (w:World):Calls Tryz.prog 34 #[.agg #[.int .i64 m,.int .i64 d]] w fun e w'=>e=.returned (.agg #[.bool false,.int .i64 m,.int .i64 d])∧Below w.heap.size w w':=by
 go_enter Tryz.func34,Tryz.ntmps34;go_wp2;exact bodyPost_ret (v:=.agg #[.bool false,.int .i64 m,.int .i64 d]) (by simp[results,Tryz.results34,go_sem]) rfl ⟨rfl,(zB _ _).alloc (by simp) _⟩
def ZI (sg:List Sg) (w:World) (e:Ending) (w':World):Prop:=∃v,e=.returned v∧w'.ownsRow w.heap.size 64 5 v sg.length (kM sg)∧Below w.heap.size w w'
def lV (ps:List (Pv × Hd)) (q:Nat):List Sg:=match q with
 |0=>ps.map (fun x=>mQ 6 x.1)++(ps.map (fun x=>mQ 7 x.1)++ps.map (fun x=>mQ 8 x.1))
 |1=>ps.map (fun x=>mQ 7 x.1)++ps.map (fun x=>mQ 8 x.1)
 |2=>ps.map (fun x=>mQ 8 x.1)
 |_=>[]
theorem UA (ps:List (Pv × Hd)) {q:Nat} (h:q<3):lV ps q=ps.map (fun x=>mQ (6+(q:Int)) x.1)++lV ps (q+1):=by
 rcases (by omega:q=0∨q=1∨q=2) with rfl|rfl|rfl
 ·rfl
 ·rfl
 ·simp[lV]
structure SX (W wr:World) (v:Value) (m:Nat) (ns:List Sg):Prop where
 o:wr.ownsRow W.heap.size 64 5 v ns.length (kM ns)
 l:ns.length≤m
 b:Below W.heap.size W wr
theorem SX.push {W w1 w':World} {v v':Value} {m m':Nat} {ns:List Sg} (h:SX W w1 v m ns) (g:Sg) (ho:w'.ownsRow W.heap.size 64 5 v' (ns.length+1) (kM ns++g.cells)) (hb:Below W.heap.size W w') (hm:m+1=m'):SX W w' v' m' (ns++[g]):=
 ⟨by rw[xg,List.length_append];exact ho,by have:=h.l;rw[List.length_append,List.length_singleton];omega,hb⟩
theorem SX.below {W w1 w':World} {v:Value} {m:Nat} {ns:List Sg} (h:SX W w1 v m ns) (hb:Below w1.heap.size w1 w'):SX W w' v m ns:=⟨own_below h.o hb,h.l,ah h.b hb⟩
theorem Lu (fs:List Dc) (ss:List (Sc × Hd)) (ps:List (Pv × Hd)) (f s p:Hd) (w:World) (hf:aU w Dc.cells fs f) (hs:aU w fU ss s) (hp:aU w bg ps p) (f1:fs.length≤100) (s1:ss.length≤100) (p1:ps.length≤100):
  Calls Tryz.prog 17 #[dQ f s p] w (ZI (fs.map jR++(lV ps 0++ss.map fun x=>lI x.1)) w):=by
 have hal:(fs.map jR++(lV ps 0++ss.map fun x=>lI x.1)).length≤1000:=by simp[lV];omega
 obtain⟨al,vO⟩:=zE (fs.map jR++(lV ps 0++ss.map fun x=>lI x.1));rw[←vO] at hal⊢;replace vO:=zH vO;obtain⟨fa,fn,fc⟩:=f;obtain⟨sa,sn,sc⟩:=s;obtain⟨pa,pn,pc⟩:=p;rw[←hf.len] at f1;rw[←hs.len] at s1;rw[←hp.len] at p1;simp only at f1 s1 p1;unfold dQ;go_enter Tryz.func17,Tryz.ntmps17
 go_upto_region 1 with fail
 generalize hW:w.alloc _=W;obtain⟨hk,hb0⟩:=zA hW;replace hf:=hf.below hb0;replace hs:=hs.below hb0;replace hp:=hp.below hb0;have hL:∀X,Below W.heap.size W X→X.cell? ⟨w.heap.size,0,none⟩=some (.slice fa fn fc)∧X.cell? ⟨w.heap.size,1,none⟩=some (.slice sa sn sc)∧X.cell? ⟨w.heap.size,2,none⟩=some (.slice pa pn pc):=fun X h=>⟨(hk.below h hk.lt).cells 0,(hk.below h hk.lt).cells 1,(hk.below h hk.lt).cells 2⟩
 clear hW hk;generalize hB:w.heap.size=B at hL⊢;have hb2:=Below.refl W.heap.size W;go_wp2
 go_loopg [3,4] fn (fun g ov iv wr=>∃(j:Nat) (ns:List Sg),j+g=fn∧iv=.int .i64 j∧Hid (ns++((fs.drop j).map jR++(lV ps 0++ss.map fun x=>lI x.1))=al)∧SX W wr ov j ns)
 case atStart=>exact⟨0,[],by omega,rfl,vO.out.symm,World.ownsRow_nil _ _ _ _,Nat.le_refl _,hb2⟩
 case round=>
  obtain⟨j,ns,hj,rfl,HE,h⟩:=hrel;have hb:=h.b;by_cases hlt:j<fn
  ·obtain⟨b,off,nm,t,m,d,rfl,_,hx,hx2,hc⟩:=ES hf hlt;replace HE:Hid (ns++[jR ⟨nm,⟨t,m,d⟩⟩]++((fs.drop (j+1)).map jR++(lV ps 0++ss.map fun x=>lI x.1))=al):=by have h:=HE.out;rw[List.drop_eq_getElem_cons hx,hx2] at h;show _=_;rw[←h];simp
   clear hx2
   go_upto_region 5 with fail
   refine gy (Below W.heap.size W) 99 hb.drew (fun w1 h1 hS=>?_);replace h:=h.below h1
   iterate 14 refine bU ?_
   refine lF 14 (fun _=>hS.alloc hS.size _) (fun _=>?_);refine Ah 15 uI Tryz.underlying55 h.o (by have:=h.l;omega) h.b.size (fun v' w9 ho _ _ eP=>⟨h.b.trans eP,fun hS=>?_⟩);refine bU ?_;refine dY ?_;go_wp2
   go_roundg (fn-(j+1))
   case measure=>omega
   case rel=>exact⟨j+1,_,by omega,by go_num,HE.out,h.push ⟨5,nm,⟨t,m,d⟩⟩ ho hS rfl⟩
  ·replace HE:Hid (ns++(lV ps 0++ss.map fun x=>lI x.1)=al):=by have h:=HE.out;rw[List.drop_eq_nil_of_le (by have:=hf.len;simp only at this;omega)] at h;exact h
   go_wp2
   go_loopg [3,5] 3 (fun g ov iv wr=>∃(q:Nat) (ns:List Sg),q+g=3∧iv=.int .i64 (6+q)∧Hid (ns++(lV ps q++ss.map fun x=>lI x.1)=al)∧SX W wr ov (100+100*q) ns)
   case atStart=>exact⟨0,ns,by omega,rfl,HE.out,h.o,by have:=h.l;omega,h.b⟩
   case round=>
    clear h HE;obtain⟨q,ns,hq,rfl,HE,h⟩:=hrel;have hb:=h.b;by_cases hlq:q<3
    ·have hq8:(6:Int)+(q:Int)≤8:=by omega
     have HR:=zH (UA ps hlq);go_wp2
     go_loopg [3,6] pn (fun g ov iv wr=>∃(j:Nat) (ns:List Sg),j+g=pn∧iv=.int .i64 j∧Hid (ns++((ps.drop j).map (fun x=>mQ (6+(q:Int)) x.1)++(lV ps (q+1)++ss.map fun x=>lI x.1))=al)∧SX W wr ov (100+100*q+j) ns)
     case atStart=>exact⟨0,ns,by omega,rfl,by have h:=HE.out;rw[HR.out,List.append_assoc] at h;exact h,h⟩
     case round=>
      clear h hb HE;obtain⟨j,ns,hj,rfl,HE,h⟩:=hrel;have hb:=h.b;by_cases hlt:j<pn
      ·obtain⟨b,off,p,rfl,_,hx,hx2,hc⟩:=Bz hp hlt;replace HE:Hid (ns++[mQ (6+(q:Int)) p.1]++((ps.drop (j+1)).map (fun x=>mQ (6+(q:Int)) x.1)++(lV ps (q+1)++ss.map fun x=>lI x.1))=al):=by have h:=HE.out;rw[List.drop_eq_getElem_cons hx,hx2] at h;show _=_;rw[←h];simp
       clear hx2
       go_upto_region 12 with fail
       refine gy (Below W.heap.size W) 99 hb.drew (fun w1 h1 hS=>?_);replace h:=h.below h1
       iterate 15 refine bU ?_
       refine lF 15 (fun _=>hS.alloc hS.size _) (fun _=>?_);refine Ah 16 uI Tryz.underlying55 h.o (by have:=h.l;omega) h.b.size (fun v' w9 ho _ _ eP=>⟨h.b.trans eP,fun hS=>?_⟩);refine bU ?_;refine dY ?_;go_wp2
       go_roundg (pn-(j+1))
       case measure=>omega
       case rel=>exact⟨j+1,_,by omega,by go_num,HE.out,h.push ⟨6+(q:Int),p.1.name,p.1.ty⟩ ho hS rfl⟩
      ·have hw6:IntKind.i64.wrap (6+(q:Int)+1)=6+(q:Int)+1:=IntWalk.i64_in _ (by omega);go_wp2
       go_roundg (3-(q+1))
       case measure=>omega
       case rel=>exact⟨q+1,ns,by omega,by push_cast;rw[Int.add_assoc],by have h:=HE.out;rw[List.drop_eq_nil_of_le (by have:=hp.len;simp only at this;omega)] at h;exact h,h.o,by have:=h.l;omega,h.b⟩
    ·have hq8:¬(6:Int)+(q:Int)≤8:=by omega
     have HE:Hid (ns++(ss.map fun x=>lI x.1)=al):=by have h:=HE.out;rw[show q=3 by omega] at h;exact h
     go_wp2
     go_loopg [3,7] sn (fun g ov iv wr=>∃(j:Nat) (ns:List Sg),j+g=sn∧iv=.int .i64 j∧Hid (ns++((ss.drop j).map fun x=>lI x.1)=al)∧SX W wr ov (400+j) ns)
     case atStart=>exact⟨0,ns,by omega,rfl,HE.out,h.o,by have:=h.l;omega,h.b⟩
     case round=>
      clear h hb HE;obtain⟨j,ns,hj,rfl,HE,h⟩:=hrel;have hb:=h.b;by_cases hlt:j<sn
      ·obtain⟨b,off,nm,m,d,bs,hd,rfl,_,hx,hx2,hc⟩:=Bv hs hlt;replace HE:Hid (ns++[⟨24,nm,⟨false,m,d⟩⟩]++((ss.drop (j+1)).map fun x=>lI x.1)=al):=by have h:=HE.out;rw[List.drop_eq_getElem_cons hx,hx2] at h;show _=_;rw[←h];simp[lI]
       clear hx2
       go_upto_region 16 with fail
       refine gy (Below W.heap.size W) 99 hb.drew (fun w1 h1 hS=>?_);replace h:=h.below h1
       iterate 13 refine bU ?_
       refine eY 13 (FP m d w1) ?_;rintro e w2 ⟨rfl,h2⟩;replace h:=h.below h2;refine⟨_,rfl,h.b,fun hS=>?_⟩
       iterate 1 refine bU ?_
       refine lF 15 (fun _=>hS.alloc hS.size _) (fun _=>?_);refine Ah 16 uI Tryz.underlying55 h.o (by have:=h.l;omega) h.b.size (fun v' w9 ho _ _ eP=>⟨h.b.trans eP,fun hS=>?_⟩);refine bU ?_;refine dY ?_;go_wp2
       go_roundg (sn-(j+1))
       case measure=>omega
       case rel=>exact⟨j+1,_,by omega,by go_num,HE.out,h.push ⟨24,nm,⟨false,m,d⟩⟩ ho hS rfl⟩
      ·go_wp2;go_ret;have HE:=HE.out;rw[List.drop_eq_nil_of_le (by have:=hs.len;simp only at this;omega),List.map_nil,List.append_nil] at HE;subst HE;exact⟨_,rfl,lT h.o hb0.size,ah hb0 h.b⟩
theorem UC (s:ByteArray) (w:World):Calls Tryz.prog 5 #[.string s] w fun e w'=>e=.returned (.string (s.extract 0 (min s.size 25)))∧w'=w:=by
 by_cases h:s.size≤25
 ·have hm:min (s.size:Int) 25=s.size:=by omega
  have hn:min s.size 25=s.size:=by omega
  rw[hn];go_enter Tryz.func5,Tryz.ntmps5;go_wp2;go_ret;exact⟨by simp,rfl⟩
 ·have hm:min (s.size:Int) 25=25:=by omega
  have hn:min s.size 25=25:=by omega
  have hle:(25:Int)≤s.size:=by omega
  rw[hn];go_enter Tryz.func5,Tryz.ntmps5;go_wp2;go_ret;exact⟨rfl,rfl⟩
end Go.Proofs.YtgfeadgafdijaaaGreatDoor
