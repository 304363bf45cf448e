/- A part of the proof: U4 Tf U9 Y3 U5 U6 Z3 Z4 Z6. -/
import Derived.Test.YtimokmplkpbmdaaGreatDoorQ29
set_option linter.all false
set_option maxRecDepth 100000
set_option maxHeartbeats 0
namespace Go.Proofs.YtimokmplkpbmdaaGreatDoor
open Go.RowKit
theorem xW:(Tryz.prog.info? 9).map (fun i=>(i.zero,i.size,i.bytes))=some (some (.string ⟨#[]⟩),1,16):=by kernel_rfl
def lS (s:ByteArray):List Value:=[.string s]
def strs (l:List ByteArray):List Value:=l.flatMap lS
theorem uj (a b:List ByteArray):strs (a++b)=strs a++strs b:=List.flatMap_append
def lK {α:Type} (lo:Nat) (w:World) (enc:α->List Value) (xs:List α) (h:Hd):Prop:=aJ w enc xs h/\∀ad,h.a=some ad->lo<=ad.block
theorem lK.dG {α:Type} {lo G:Nat} {w w':World} {enc:α->List Value} {xs:List α} {h:Hd} (k:lK lo w enc xs h) (ho:aF G w w') (hG:G<lo):lK lo w' enc xs h:=by
 refine⟨⟨k.1.len,k.1.cap,k.1.max,?_⟩,k.2⟩;rcases k.1.rd with h0|⟨b,off,hA,hb,hc⟩
 ·exact .inl h0
 ·have hlo:lo<=b:=k.2 ⟨b,off,none⟩ hA;refine .inr ⟨b,off,hA,Nat.lt_of_lt_of_le hb ho.size,fun i hi=>?_⟩;rw[<-hc i hi];exact World.cell?_of_block (ho.block b hb (by omega))
theorem lK.below {α:Type} {lo:Nat} {w w':World} {enc:α->List Value} {xs:List α} {h:Hd} (k:lK lo w enc xs h) (hb:Below w.heap.size w w'):lK lo w' enc xs h:=⟨k.1.below hb,k.2⟩
theorem lK.l7 {α:Type} {w:World} {enc:α->List Value} {xs:List α} {base m n:Nat} {e:TypeId} {v:Value} (h:w.ownsRow base e m v n (xs.flatMap enc)) (hn:n=xs.length):∃h:Hd,v=.slice h.a h.n h.c/\lK base w enc xs h:=by
 obtain⟨A,c,rfl,h1,h2,h3,h4⟩:=yP h;exact⟨⟨A,n,c⟩,rfl,⟨hn,h1,h2,h3⟩,h4⟩
theorem UC (l:Lw) (ss:List (Sc × Hd)) (ps:List (Pv × Hd)) (f s p:Hd) (w:World) (h:dV w l ss ps f s p) (hf:nV l):
  Calls Tryz.prog 63 #[dR f s p] w fun e w'=>∃h0 h1 h2:Hd,e=.returned (.agg #[.slice h0.a h0.n h0.c,.slice h1.a h1.n h1.c,.slice h2.a h2.n h2.c])/\aJ w' lS (l.facts.map Dc.name) h0/\aJ w' lS (l.aU.map Sc.name) h1/\aJ w' lS (l.aH.map Pv.name) h2/\Below w.heap.size w w':=by
 have aal:=hf.fn;have aam:=hf.sn;have UA:=hf.pn;obtain⟨fa,fn,fc⟩:=f;obtain⟨sa,sn,sc⟩:=s;obtain⟨pa,pn,pc⟩:=p;unfold dR;simp only
 obtain⟨W,hW⟩:=zE ((w.alloc (.cells #[.slice fa fn fc,.slice sa sn sc,.slice pa pn pc] 28)).alloc (.cells #[.slice none 0 0,.slice none 0 0,.slice none 0 0] 121));have lQ:=sU w 28 121 #[.slice fa fn fc,.slice sa sn sc,.slice pa pn pc] #[.slice none 0 0,.slice none 0 0,.slice none 0 0];rw[<-hW] at lQ;obtain⟨B,hB⟩:=zE w.heap.size;rw[<-hB] at lQ;obtain⟨hk0,hk1,hba,hsz⟩:=lQ;have jG:=zH hk0;have Bf:=zH hk1;rw[hB] at hba;have o7:=zH hba;have iC:=zH hB;have BN:Hid (W.heap.size=B+2):=hsz;have lU:=zH h;have zk:Hid (fn=l.facts.length):=h.f.len;have uS:Hid (sn=l.aU.length):=by show _=_;rw[<-h.sl,List.length_map];exact h.s.len
 have iW:Hid (pn=l.aH.length):=by show _=_;rw[<-h.pl,List.length_map];exact h.p.len
 rw[<-zk.out] at aal;rw[<-uS.out] at aam;rw[<-iW.out] at UA;have Xy:Hid (∀k (hk:k<l.aU.length) (hk':k<ss.length),l.aU[k]=ss[k].1):=fun k hk hk'=>by have e:=h.sl;simp[<-e]
 have NW:Hid (∀k (hk:k<l.aH.length) (hk':k<ps.length),l.aH[k]=ps[k].1):=fun k hk hk'=>by have e:=h.pl;simp[<-e]
 clear h hf hk0 hk1 hba hsz;have hkc:=jG.out.cells;go_enter Tryz.func63,Tryz.ntmps63
 go_upto_region 1 with fail
 simp only[<-hW,<-hB]
 clear hW hB;obtain⟨W0,hW0⟩:∃x,x=W:=⟨_,rfl⟩
 have bC:Hid (aF (B+1) W W0):=by rw[hW0];exact aF.refl _ _
 rw[<-hW0] at Bf o7 hkc⊢;clear hW0;go_wp2_with fail;have HB0:Hid (B+2<=W0.heap.size):=by have h1:=BN.out;have h2:=bC.out.size;show _<=_;omega
 go_loopg [12] fn (fun g iv wr=>∃(j:Nat) (v:Value),j+g=fn/\iv=.int .i64 j/\Hid (aj wr (B+1) 121 [v,.slice none 0 0,.slice none 0 0])/\Hid (wr.ownsRow W0.heap.size 9 1 v j (strs ((l.facts.take j).map Dc.name)))/\Hid (aF (B+1) W0 wr)/\Hid (Below w.heap.size w wr))
 case atStart=>exact⟨0,.slice none 0 0,by omega,rfl,Bf,World.ownsRow_nil _ _ _ _,aF.refl _ _,o7⟩
 case round=>
  obtain⟨j,v,hj,rfl,hka,hown,hon,hbr⟩:=hrel;clear Bf o7;by_cases hlt:j<fn
  ·have mZ:j<l.facts.length:=by rw[<-zk.out];exact hlt
   have hjm:j<l.facts.length:=by rw[<-lU.out.f.len];exact hlt
   have oJ:=sZ Dc.name mZ;rw[show l.facts[j]=l.facts[j] from rfl] at oJ;obtain⟨b,off,hA,hb,hc⟩:=Rd.row Dc.cells 4 (fun _=>rfl) (by omega) (lU.out.f.below hbr.out).rd hjm;simp only at hA;subst hA;generalize l.facts[j]=x at*;obtain⟨nm,⟨tt,tm,td⟩⟩:=x;have CS:=zH oJ;have c0:=hc 0 _ rfl;have c1:=hc 1 _ rfl;have c2:=hc 2 _ rfl;have c3:=hc 3 _ rfl;simp only[Nat.add_zero] at c0;obtain⟨XS,oK⟩:∃X,X=strs ((l.facts.take j).map Dc.name):=⟨_,rfl⟩
   rw[<-oK] at hown;have xg:=zH oK;have CU:Hid ((wr.alloc (.cells #[.string nm,.bool tt,.int .i64 tm,.int .i64 td] 36)).ownsRow W0.heap.size 9 1 v j XS):=hown.out.alloc _;have hba:=(Below.refl wr.heap.size wr).alloc (Nat.le_refl _) (.cells #[.string nm,.bool tt,.int .i64 tm,.int .i64 td] 36);have aY:Hid (Below w.heap.size w (wr.alloc (.cells #[.string nm,.bool tt,.int .i64 tm,.int .i64 td] 36))):=hbr.out.alloc hbr.out.size _;have CV:Hid (aF (B+1) W0 (wr.alloc (.cells #[.string nm,.bool tt,.int .i64 tm,.int .i64 td] 36))):=hon.out.trans (aF.of_below hba);have qJ:=zH (hka.out.below hba hka.out.lt);have hkx:∀j,(wr.alloc (.cells #[.string nm,.bool tt,.int .i64 tm,.int .i64 td] 36)).cell? ⟨B+1,j,none⟩=_:=qJ.out.cells;clear hown hbr hc oJ oK hba hon hka;go_wp2_with (at_builtin;go_must (refine bP (wr.alloc (.cells #[.string nm,.bool tt,.int .i64 tm,.int .i64 td] 36)) #[.string nm] rfl _ _ 120 rfl W0.heap.size 9 _ 1 16 1 Tryz.underlying120 xW rfl (by decide) v j XS rfl CU.out (by rw[World.size_alloc];rfl) rfl ?_ ?_ ?_ ?_ ?_))
   any_goals first|rfl|(unfold maxLen;omega)|omega
   ·have hz:=CV.out.size;rw[World.size_alloc] at hz;exact hz
   intro v' w' hown' hb';obtain⟨Av',cv',rfl,_⟩:=bY hown';have rM:=qJ.out.of_block (hb'.block (B+1) (by have:=HB0.out;omega));have Fv:=rM.cells;have aeS:=rM.aI;have NY:=zH rM;have HOWN':=zH hown';have wY:=zH hb';clear hown' hb' rM c0 hkx;go_wp2
   go_roundg (fn-(j+1))
   case measure=>omega
   case rel=>
    refine⟨j+1,.slice Av' (j+1) cv',by omega,by go_num,NY.out.set 0 _,?_,(CV.out.more wY.out).set 0 _,?_⟩
    ·show World.ownsRow _ _ _ _ _ _ _;rw[CS.out,uj,<-xg.out];refine HOWN'.out.kept (oC w' (B+1) 0 _) (.inr (fun h=>?_));have h1:=(HOWN'.out.lt _ h).1;have:=HB0.out;omega
    ·exact (aY.out.trans (wY.out.mono (by have:=HB0.out;have:=iC.out;omega))).setCell (p:=⟨B+1,0,none⟩) (by show _<=B+1;have:=iC.out;omega) _
  ·have hjn:j=fn:=by omega
   have hown2:=hown.out;rw[hjn,List.take_of_length_le (Nat.le_of_eq zk.out.symm)] at hown2;obtain⟨h0,rfl,hr0⟩:=lK.l7 (enc:=lS) hown2 (by rw[List.length_map];exact zk.out);obtain⟨W1,hW⟩:∃x,x=wr:=⟨_,rfl⟩
   have HR0:Hid (lK (B+2) W1 lS (l.facts.map Dc.name) h0):=by rw[hW];exact⟨hr0.1,fun ad h=>Nat.le_trans HB0.out (hr0.2 ad h)⟩
   have Bf:Hid (aj W1 (B+1) 121 [.slice h0.a h0.n h0.c,.slice none 0 0,.slice none 0 0]):=by rw[hW];exact hka
   have o7:Hid (Below w.heap.size w W1):=by rw[hW];exact hbr
   have bC:Hid (aF (B+1) W W1):=by rw[hW];exact bC.out.trans hon.out
   have hkc:∀j,W1.cell? ⟨B,j,none⟩=_:=(bC.out.blk jG.out (by omega)).cells;rw[<-hW];clear hown hown2 hbr hka hon hjn hW HB0;go_wp2_with fail;have HB0:Hid (B+2<=W1.heap.size):=by have h1:=BN.out;have h2:=bC.out.size;show _<=_;omega
   go_loopg [27] sn (fun g iv wr=>∃(j:Nat) (v:Value),j+g=sn/\iv=.int .i64 j/\Hid (aj wr (B+1) 121 [.slice h0.a h0.n h0.c,v,.slice none 0 0])/\Hid (wr.ownsRow W1.heap.size 9 1 v j (strs ((l.aU.take j).map Sc.name)))/\Hid (aF (B+1) W1 wr)/\Hid (Below w.heap.size w wr))
   case atStart=>exact⟨0,.slice none 0 0,by omega,rfl,Bf,World.ownsRow_nil _ _ _ _,aF.refl _ _,o7⟩
   case round=>
    obtain⟨j,v,hj,rfl,hka,hown,hon,hbr⟩:=hrel;clear Bf o7;by_cases hlt:j<sn
    ·have mZ:j<l.aU.length:=by rw[<-uS.out];exact hlt
     have hjm:j<ss.length:=by rw[<-lU.out.s.len];exact hlt
     have oJ:=sZ Sc.name mZ;rw[show l.aU[j]=ss[j].1 from Xy.out j mZ hjm] at oJ;obtain⟨b,off,hA,hb,hc⟩:=Rd.row bK 4 (fun _=>rfl) (by omega) (lU.out.s.below hbr.out).rd hjm;simp only at hA;subst hA;generalize ss[j]=x at*;obtain⟨⟨nm,mo,da,br⟩,⟨ha,hn,hcc⟩⟩:=x;have CS:=zH oJ;have c0:=hc 0 _ rfl;have c1:=hc 1 _ rfl;have c2:=hc 2 _ rfl;have c3:=hc 3 _ rfl;simp only[Nat.add_zero] at c0;obtain⟨XS,oK⟩:∃X,X=strs ((l.aU.take j).map Sc.name):=⟨_,rfl⟩
     rw[<-oK] at hown;have xg:=zH oK;have CU:Hid ((wr.alloc (.cells #[.string nm,.int .i64 mo,.int .i64 da,.slice ha hn hcc] 39)).ownsRow W1.heap.size 9 1 v j XS):=hown.out.alloc _;have hba:=(Below.refl wr.heap.size wr).alloc (Nat.le_refl _) (.cells #[.string nm,.int .i64 mo,.int .i64 da,.slice ha hn hcc] 39);have aY:Hid (Below w.heap.size w (wr.alloc (.cells #[.string nm,.int .i64 mo,.int .i64 da,.slice ha hn hcc] 39))):=hbr.out.alloc hbr.out.size _;have CV:Hid (aF (B+1) W1 (wr.alloc (.cells #[.string nm,.int .i64 mo,.int .i64 da,.slice ha hn hcc] 39))):=hon.out.trans (aF.of_below hba);have qJ:=zH (hka.out.below hba hka.out.lt);have hkx:∀j,(wr.alloc (.cells #[.string nm,.int .i64 mo,.int .i64 da,.slice ha hn hcc] 39)).cell? ⟨B+1,j,none⟩=_:=qJ.out.cells;clear hown hbr hc oJ oK hba hon hka;go_wp2_with (at_builtin;go_must (refine bP (wr.alloc (.cells #[.string nm,.int .i64 mo,.int .i64 da,.slice ha hn hcc] 39)) #[.string nm] rfl _ _ 120 rfl W1.heap.size 9 _ 1 16 1 Tryz.underlying120 xW rfl (by decide) v j XS rfl CU.out (by rw[World.size_alloc];rfl) rfl ?_ ?_ ?_ ?_ ?_))
     any_goals first|rfl|(unfold maxLen;omega)|omega
     ·have hz:=CV.out.size;rw[World.size_alloc] at hz;exact hz
     intro v' w' hown' hb';obtain⟨Av',cv',rfl,_⟩:=bY hown';have rM:=qJ.out.of_block (hb'.block (B+1) (by have:=HB0.out;omega));have Fv:=rM.cells;have aeS:=rM.aI;have NY:=zH rM;have HOWN':=zH hown';have wY:=zH hb';clear hown' hb' rM c0 hkx;go_wp2
     go_roundg (sn-(j+1))
     case measure=>omega
     case rel=>
      refine⟨j+1,.slice Av' (j+1) cv',by omega,by go_num,NY.out.set 1 _,?_,(CV.out.more wY.out).set 1 _,?_⟩
      ·show World.ownsRow _ _ _ _ _ _ _;rw[CS.out,uj,<-xg.out];refine HOWN'.out.kept (oC w' (B+1) 1 _) (.inr (fun h=>?_));have h1:=(HOWN'.out.lt _ h).1;have:=HB0.out;omega
      ·exact (aY.out.trans (wY.out.mono (by have:=HB0.out;have:=iC.out;omega))).setCell (p:=⟨B+1,1,none⟩) (by show _<=B+1;have:=iC.out;omega) _
    ·have hjn:j=sn:=by omega
     have hown2:=hown.out;rw[hjn,List.take_of_length_le (Nat.le_of_eq uS.out.symm)] at hown2;obtain⟨h1,rfl,hr1⟩:=lK.l7 (enc:=lS) hown2 (by rw[List.length_map];exact uS.out);obtain⟨W2,hW⟩:∃x,x=wr:=⟨_,rfl⟩
     have HR1:Hid (lK (B+2) W2 lS (l.aU.map Sc.name) h1):=by rw[hW];exact⟨hr1.1,fun ad h=>Nat.le_trans HB0.out (hr1.2 ad h)⟩
     replace HR0:Hid (lK (B+2) W2 lS (l.facts.map Dc.name) h0):=by rw[hW];exact HR0.out.dG hon.out (by omega)
     have Bf:Hid (aj W2 (B+1) 121 [.slice h0.a h0.n h0.c,.slice h1.a h1.n h1.c,.slice none 0 0]):=by rw[hW];exact hka
     have o7:Hid (Below w.heap.size w W2):=by rw[hW];exact hbr
     have bC:Hid (aF (B+1) W W2):=by rw[hW];exact bC.out.trans hon.out
     have hkc:∀j,W2.cell? ⟨B,j,none⟩=_:=(bC.out.blk jG.out (by omega)).cells;rw[<-hW];clear hown hown2 hbr hka hon hjn hW HB0;go_wp2_with fail;have HB0:Hid (B+2<=W2.heap.size):=by have h1:=BN.out;have h2:=bC.out.size;show _<=_;omega
     go_loopg [42] pn (fun g iv wr=>∃(j:Nat) (v:Value),j+g=pn/\iv=.int .i64 j/\Hid (aj wr (B+1) 121 [.slice h0.a h0.n h0.c,.slice h1.a h1.n h1.c,v])/\Hid (wr.ownsRow W2.heap.size 9 1 v j (strs ((l.aH.take j).map Pv.name)))/\Hid (aF (B+1) W2 wr)/\Hid (Below w.heap.size w wr))
     case atStart=>exact⟨0,.slice none 0 0,by omega,rfl,Bf,World.ownsRow_nil _ _ _ _,aF.refl _ _,o7⟩
     case round=>
      obtain⟨j,v,hj,rfl,hka,hown,hon,hbr⟩:=hrel;clear Bf o7;by_cases hlt:j<pn
      ·have mZ:j<l.aH.length:=by rw[<-iW.out];exact hlt
       have hjm:j<ps.length:=by rw[<-lU.out.p.len];exact hlt
       have oJ:=sZ Pv.name mZ;rw[show l.aH[j]=ps[j].1 from NW.out j mZ hjm] at oJ;obtain⟨b,off,hA,hb,hc⟩:=Rd.row aA 12 (fun _=>rfl) (by omega) (lU.out.p.below hbr.out).rd hjm;simp only at hA;subst hA;generalize ps[j]=x at*;obtain⟨⟨nm,⟨tt,tm,td⟩,ch,⟨pI,pJ,pK⟩,⟨pO,pR,cn3⟩,bo⟩,⟨ha,hn,hcc⟩⟩:=x;have CS:=zH oJ;have c0:=hc 0 _ rfl;have c1:=hc 1 _ rfl;have c2:=hc 2 _ rfl;have c3:=hc 3 _ rfl;have c4:=hc 4 _ rfl;have c5:=hc 5 _ rfl;have c6:=hc 6 _ rfl;have c7:=hc 7 _ rfl;have c8:=hc 8 _ rfl;have c9:=hc 9 _ rfl;have c10:=hc 10 _ rfl;have c11:=hc 11 _ rfl;simp only[Nat.add_zero] at c0;obtain⟨XS,oK⟩:∃X,X=strs ((l.aH.take j).map Pv.name):=⟨_,rfl⟩
       rw[<-oK] at hown;have xg:=zH oK;have CU:Hid ((wr.alloc (.cells #[.string nm,.bool tt,.int .i64 tm,.int .i64 td,.slice ha hn hcc,.bool ch,.bool pI,.string pJ,.string pK,.bool pO,.string pR,.string cn3] 45)).ownsRow W2.heap.size 9 1 v j XS):=hown.out.alloc _;have hba:=(Below.refl wr.heap.size wr).alloc (Nat.le_refl _) (.cells #[.string nm,.bool tt,.int .i64 tm,.int .i64 td,.slice ha hn hcc,.bool ch,.bool pI,.string pJ,.string pK,.bool pO,.string pR,.string cn3] 45);have aY:Hid (Below w.heap.size w (wr.alloc (.cells #[.string nm,.bool tt,.int .i64 tm,.int .i64 td,.slice ha hn hcc,.bool ch,.bool pI,.string pJ,.string pK,.bool pO,.string pR,.string cn3] 45))):=hbr.out.alloc hbr.out.size _;have CV:Hid (aF (B+1) W2 (wr.alloc (.cells #[.string nm,.bool tt,.int .i64 tm,.int .i64 td,.slice ha hn hcc,.bool ch,.bool pI,.string pJ,.string pK,.bool pO,.string pR,.string cn3] 45))):=hon.out.trans (aF.of_below hba);have qJ:=zH (hka.out.below hba hka.out.lt);have hkx:∀j,(wr.alloc (.cells #[.string nm,.bool tt,.int .i64 tm,.int .i64 td,.slice ha hn hcc,.bool ch,.bool pI,.string pJ,.string pK,.bool pO,.string pR,.string cn3] 45)).cell? ⟨B+1,j,none⟩=_:=qJ.out.cells;clear hown hbr hc oJ oK hba hon hka;go_wp2_with (at_builtin;go_must (refine bP (wr.alloc (.cells #[.string nm,.bool tt,.int .i64 tm,.int .i64 td,.slice ha hn hcc,.bool ch,.bool pI,.string pJ,.string pK,.bool pO,.string pR,.string cn3] 45)) #[.string nm] rfl _ _ 120 rfl W2.heap.size 9 _ 1 16 1 Tryz.underlying120 xW rfl (by decide) v j XS rfl CU.out (by rw[World.size_alloc];rfl) rfl ?_ ?_ ?_ ?_ ?_))
       any_goals first|rfl|(unfold maxLen;omega)|omega
       ·have hz:=CV.out.size;rw[World.size_alloc] at hz;exact hz
       intro v' w' hown' hb';obtain⟨Av',cv',rfl,_⟩:=bY hown';have rM:=qJ.out.of_block (hb'.block (B+1) (by have:=HB0.out;omega));have Fv:=rM.cells;have aeS:=rM.aI;have NY:=zH rM;have HOWN':=zH hown';have wY:=zH hb';clear hown' hb' rM c0 hkx;go_wp2
       go_roundg (pn-(j+1))
       case measure=>omega
       case rel=>
        refine⟨j+1,.slice Av' (j+1) cv',by omega,by go_num,NY.out.set 2 _,?_,(CV.out.more wY.out).set 2 _,?_⟩
        ·show World.ownsRow _ _ _ _ _ _ _;rw[CS.out,uj,<-xg.out];refine HOWN'.out.kept (oC w' (B+1) 2 _) (.inr (fun h=>?_));have h1:=(HOWN'.out.lt _ h).1;have:=HB0.out;omega
        ·exact (aY.out.trans (wY.out.mono (by have:=HB0.out;have:=iC.out;omega))).setCell (p:=⟨B+1,2,none⟩) (by show _<=B+1;have:=iC.out;omega) _
      ·have hjn:j=pn:=by omega
       have hown2:=hown.out;rw[hjn,List.take_of_length_le (Nat.le_of_eq iW.out.symm)] at hown2;obtain⟨h2,rfl,hr2⟩:=lK.l7 (enc:=lS) hown2 (by rw[List.length_map];exact iW.out);obtain⟨W3,hW⟩:∃x,x=wr:=⟨_,rfl⟩
       have HR2:Hid (lK (B+2) W3 lS (l.aH.map Pv.name) h2):=by rw[hW];exact⟨hr2.1,fun ad h=>Nat.le_trans HB0.out (hr2.2 ad h)⟩
       replace HR0:Hid (lK (B+2) W3 lS (l.facts.map Dc.name) h0):=by rw[hW];exact HR0.out.dG hon.out (by omega)
       replace HR1:Hid (lK (B+2) W3 lS (l.aU.map Sc.name) h1):=by rw[hW];exact HR1.out.dG hon.out (by omega)
       have Bf:Hid (aj W3 (B+1) 121 [.slice h0.a h0.n h0.c,.slice h1.a h1.n h1.c,.slice h2.a h2.n h2.c]):=by rw[hW];exact hka
       have o7:Hid (Below w.heap.size w W3):=by rw[hW];exact hbr
       have bC:Hid (aF (B+1) W W3):=by rw[hW];exact bC.out.trans hon.out
       have hkc:∀j,W3.cell? ⟨B,j,none⟩=_:=(bC.out.blk jG.out (by omega)).cells;rw[<-hW];clear hown hown2 hbr hka hon hjn hW HB0;have hka:=Bf.out.cells;have pq:=Bf.out.aI;have lI:Hid (∀u0 u1 u2,aF (B+1) W3 (((W3.setCell ⟨B+1,0,none⟩ u0).setCell ⟨B+1,1,none⟩ u1).setCell ⟨B+1,2,none⟩ u2)):=fun u0 u1 u2=>(((aF.refl (B+1) W3).set 0 u0).set 1 u1).set 2 u2
       go_wp2;refine bodyPost_ret (v:=.agg #[.slice h0.a h0.n h0.c,.slice h1.a h1.n h1.c,.slice h2.a h2.n h2.c]) (by simp[results,Tryz.results63,go_sem,hka]) rfl ⟨h0,h1,h2,rfl,?_,?_,?_,?_⟩
       ·exact (HR0.out.dG (lI.out _ _ _) (by omega)).1
       ·exact (HR1.out.dG (lI.out _ _ _) (by omega)).1
       ·exact (HR2.out.dG (lI.out _ _ _) (by omega)).1
       ·exact gY (B:=B+1) o7.out (by have:=iC.out;omega) _ _ _
theorem zPg {P:Program} {W:World} {news:Array Value} {ops:Array Oper} {rest:List Oper} {o:Oper} {a:Act} {Q:Exit->Act->World->Prop} {s x:Operand} {t e:TypeId} {z v:Value} {base size bytes n:Nat} {xs:List Value} {a':Value->Act}
  (hinfo:(P.info? e).map (fun i=>(i.zero,i.size,i.bytes))=some (some z,size,bytes)) (ht:P.underlying t=some (.slice e)) (hown:W.ownsRow base e size v n xs) (hn:n<=100000) (hbase:base<=W.heap.size)
  (h:∀v' w',w'.ownsRow base e size v' (n+1) (xs++news.toList)->W.grownBy w' v.ownBlock->wpList P ops Q rest (a' v') w')
  (hgd:o.guard=none:=by rfl) (ho:o.op=.call {callee:=.builtin .append,args:=#[s,x],argTypes:=#[t,t]}:=by rfl) (hs:a.eval s=v:=by rfl) (hx:a.eval x=.slice (some ⟨W.heap.size,0,none⟩) 1 1:=by rfl)
  (hl:news.size=1*size:=by rfl) (hzs:z.cells.size=size:=by rfl) (hsz:0<size:=by decide) (hby:bytes<=1000:=by decide) (h1:∀u∈news.toList,u.oneCell'=true:=by (simp<;>(repeat' constructor)))
  (ha:∀v,a.put o.dst v=a' v:=by (intro v;rfl)):wpList P ops Q (o::rest) a (W.alloc (.cells news e)):=
 yY W news hgd s x t ho base e z size bytes 1 ht hinfo hzs hsz v n xs hs hown hx hl h1 (by unfold maxLen;omega) (Nat.le_trans (Nat.mul_le_mul (show n+1<=100001 by omega) hby) (by decide)) hbase (fun v' w' h2 h3 _=>by rw[ha];exact h v' w' h2 h3)
section
variable {α:Type} {w:World} {A:Option Addr} {n c j:Nat}
theorem aJ.at {enc:α->List Value} {xs:List α} (m:Nat) (hm:∀a,(enc a).length=m) (h0:0<m) (k:aJ w enc xs ⟨A,n,c⟩) (hj:j<n):∃b off,A=some ⟨b,off,none⟩/\b<w.heap.size/\∃hx:j<xs.length,∀X,Below w.heap.size w X->∀i v,(enc xs[j])[i]?=some v->X.cell? ⟨b,off+j*m+i,none⟩=some v:=by
 have hx:j<xs.length:=by rw[<-k.len];exact hj
 obtain⟨b,off,hA,hb,hc⟩:=Rd.row enc m hm h0 k.rd hx;exact⟨b,off,hA,hb,hx,fun X hX i v hv=>(hX.cell (p:=⟨b,off+j*m+i,none⟩) hb).trans (hc i v hv)⟩
theorem DN {xs:List Dc} (k:aJ w Dc.cells xs ⟨A,n,c⟩) (hj:j<n):∃b off nm t m d,A=some ⟨b,off,none⟩/\b<w.heap.size/\∃hx:j<xs.length,xs[j]=⟨nm,⟨t,m,d⟩⟩/\∀X,Below w.heap.size w X->X.cell? ⟨b,off+j*4,none⟩=some (.string nm)/\X.cell? ⟨b,off+j*4+1,none⟩=some (.bool t)/\X.cell? ⟨b,off+j*4+2,none⟩=some (.int .i64 m)/\X.cell? ⟨b,off+j*4+3,none⟩=some (.int .i64 d):=by
 obtain⟨b,off,hA,hb,hx,hc⟩:=k.at 4 (fun _=>rfl) (by omega) hj;exact⟨b,off,_,_,_,_,hA,hb,hx,rfl,fun X hX=>⟨hc X hX 0 _ rfl,hc X hX 1 _ rfl,hc X hX 2 _ rfl,hc X hX 3 _ rfl⟩⟩
theorem DR {xs:List (Sc × Hd)} (k:aJ w bK xs ⟨A,n,c⟩) (hj:j<n):∃b off nm m d bs h,A=some ⟨b,off,none⟩/\b<w.heap.size/\∃hx:j<xs.length,xs[j]=(⟨nm,m,d,bs⟩,h)/\∀X,Below w.heap.size w X->X.cell? ⟨b,off+j*4,none⟩=some (.string nm)/\X.cell? ⟨b,off+j*4+1,none⟩=some (.int .i64 m)/\X.cell? ⟨b,off+j*4+2,none⟩=some (.int .i64 d)/\X.cell? ⟨b,off+j*4+3,none⟩=some (.slice h.a h.n h.c):=by
 obtain⟨b,off,hA,hb,hx,hc⟩:=k.at 4 (fun _=>rfl) (by omega) hj;exact⟨b,off,_,_,_,_,_,hA,hb,hx,rfl,fun X hX=>⟨hc X hX 0 _ rfl,hc X hX 1 _ rfl,hc X hX 2 _ rfl,hc X hX 3 _ rfl⟩⟩
theorem Am {xs:List (Pv × Hd)} (k:aJ w aA xs ⟨A,n,c⟩) (hj:j<n):∃b off p,A=some ⟨b,off,none⟩/\b<w.heap.size/\∃hx:j<xs.length,xs[j]=p/\∀X,Below w.heap.size w X->X.cell? ⟨b,off+j*12,none⟩=some (.string p.1.name)/\X.cell? ⟨b,off+j*12+1,none⟩=some (.bool p.1.ty.truth)/\X.cell? ⟨b,off+j*12+2,none⟩=some (.int .i64 p.1.ty.aN)/\X.cell? ⟨b,off+j*12+3,none⟩=some (.int .i64 p.1.ty.days)/\X.cell? ⟨b,off+j*12+4,none⟩=some (.slice p.2.a p.2.n p.2.c)/\X.cell? ⟨b,off+j*12+5,none⟩=some (.bool p.1.dS)/\
  X.cell? ⟨b,off+j*12+6,none⟩=some (.bool p.1.step.neg)/\X.cell? ⟨b,off+j*12+7,none⟩=some (.string p.1.step.num)/\X.cell? ⟨b,off+j*12+8,none⟩=some (.string p.1.step.den)/\X.cell? ⟨b,off+j*12+9,none⟩=some (.bool p.1.cap.neg)/\X.cell? ⟨b,off+j*12+10,none⟩=some (.string p.1.cap.num)/\X.cell? ⟨b,off+j*12+11,none⟩=some (.string p.1.cap.den):=by
 obtain⟨b,off,hA,hb,hx,hc⟩:=k.at 12 (fun _=>rfl) (by omega) hj;exact⟨b,off,_,hA,hb,hx,rfl,fun X hX=>⟨hc X hX 0 _ rfl,hc X hX 1 _ rfl,hc X hX 2 _ rfl,hc X hX 3 _ rfl,hc X hX 4 _ rfl,hc X hX 5 _ rfl,hc X hX 6 _ rfl,hc X hX 7 _ rfl,hc X hX 8 _ rfl,hc X hX 9 _ rfl,hc X hX 10 _ rfl,hc X hX 11 _ rfl⟩⟩
end
def dI (s:ByteArray):Bool:=nameB s.data.toList
theorem aan:aB 5=⟨[102,97,99,116,46],0,false,true,false⟩:=rfl
theorem UD (s:ByteArray):aQ ⟨5,zR,s⟩=if dI s then 0 else 12:=by
 have h1:gX ⟨5,zR,s⟩=true:=by unfold gX;simp only[aan];simp
 unfold aQ;rw[h1];simp only[aan]
 unfold dI;cases nameB s.data.toList<;>simp
theorem UE (s:ByteArray):bQ [⟨5,zR,s⟩]=if dI s then 0 else 12:=by
 unfold bQ;rw[if_neg (by simp),chk,UD];cases dI s
 ·rfl
 ·simp only[aan];simp[chk]
theorem xX (s:ByteArray) (w:World) (hL:dK w):Calls Tryz.prog 20 #[.string s] w fun e w'=>e=.returned (.bool (dI s))/\Below w.heap.size w w':=by
 obtain⟨W,hW⟩:=zE (w.alloc (.cells #[.int .i64 5,.bool false,.string ⟨#[]⟩,.string ⟨#[]⟩,.string s] 49));obtain⟨B,hB⟩:=zE w.heap.size;have hK:aj W B 49 [.int .i64 5,.bool false,.string ⟨#[]⟩,.string ⟨#[]⟩,.string s]:=by rw[hW,hB];exact aj.new w _ _
 have aY:Hid (Below w.heap.size w W):=by show Below _ _ _;rw[hW];exact zB _ _
 have HC:=zH (check_any [⟨5,zR,s⟩] (some ⟨B,0,none⟩) 1 1 W (hL.below aY.out) rfl (Nat.le_refl _) (by unfold maxLen;omega) hK.rd (fun n hn=>by rw[List.mem_singleton.1 hn];exact⟨Nat.zero_le _,Nat.zero_le _⟩));rw[UE] at HC;generalize dI s=q at*;clear hL hK;cases q
 ·go_enter Tryz.func20,Tryz.ntmps20;go_wp2_with fail;simp only[<-hW,<-hB]
  refine HC.out.mono ?_;rintro e w5 ⟨rfl,hb5⟩;have jo:=zH (ah aY.out hb5);clear hb5 hW hB;go_wp2;go_ret;exact⟨rfl,jo.out⟩
 ·go_enter Tryz.func20,Tryz.ntmps20;go_wp2_with fail;simp only[<-hW,<-hB]
  refine HC.out.mono ?_;rintro e w5 ⟨rfl,hb5⟩;have jo:=zH (ah aY.out hb5);clear hb5 hW hB;go_wp2;go_ret;exact⟨rfl,jo.out⟩
theorem PY (m d:Int) (w:World):Calls Tryz.prog 102 #[.agg #[.int .i64 m,.int .i64 d]] w fun e w'=>e=.returned (.agg #[.bool false,.int .i64 m,.int .i64 d])/\Below w.heap.size w w':=by
 go_enter Tryz.func102,Tryz.ntmps102;go_wp2;exact bodyPost_ret (v:=.agg #[.bool false,.int .i64 m,.int .i64 d]) (by simp[results,Tryz.results102,go_sem]) rfl ⟨rfl,(zB _ _).alloc (by simp) _⟩
def aiA (sg:List Sg) (w:World) (e:Ending) (w':World):Prop:=∃v,e=.returned v/\w'.ownsRow w.heap.size 102 5 v sg.length (jf sg)/\Below w.heap.size w w'
def mX (ps:List (Pv × Hd)) (q:Nat):List Sg:=match q with
 |0=>ps.map (fun x=>iK 6 x.1)++(ps.map (fun x=>iK 7 x.1)++ps.map (fun x=>iK 8 x.1))
 |1=>ps.map (fun x=>iK 7 x.1)++ps.map (fun x=>iK 8 x.1)
 |2=>ps.map (fun x=>iK 8 x.1)
 |_=>[]
theorem UF (ps:List (Pv × Hd)) {q:Nat} (h:q<3):mX ps q=ps.map (fun x=>iK (6+(q:Int)) x.1)++mX ps (q+1):=by
 rcases (by omega:q=0∨q=1∨q=2) with rfl|rfl|rfl
 ·rfl
 ·rfl
 ·simp[mX]
structure SX (W wr:World) (v:Value) (m:Nat) (ns:List Sg):Prop where
 o:wr.ownsRow W.heap.size 102 5 v ns.length (jf ns)
 l:ns.length<=m
 b:Below W.heap.size W wr
theorem SX.push {W w1 w':World} {v v':Value} {m m':Nat} {ns:List Sg} (h:SX W w1 v m ns) (g:Sg) (ho:w'.ownsRow W.heap.size 102 5 v' (ns.length+1) (jf ns++g.cells)) (hb:Below W.heap.size W w') (hm:m+1=m'):SX W w' v' m' (ns++[g]):=
 ⟨by rw[rJ,List.length_append];exact ho,by have:=h.l;rw[List.length_append,List.length_singleton];omega,hb⟩
theorem SX.below {W w1 w':World} {v:Value} {m:Nat} {ns:List Sg} (h:SX W w1 v m ns) (hb:Below w1.heap.size w1 w'):SX W w' v m ns:=⟨own_below h.o hb,h.l,ah h.b hb⟩
theorem Xz (fs:List Dc) (ss:List (Sc × Hd)) (ps:List (Pv × Hd)) (f s p:Hd) (w:World) (hf:aJ w Dc.cells fs f) (hs:aJ w bK ss s) (hp:aJ w aA ps p) (f1:fs.length<=100) (s1:ss.length<=100) (p1:ps.length<=100):
  Calls Tryz.prog 55 #[dR f s p] w (aiA (fs.map jd++(mX ps 0++ss.map fun x=>kY x.1)) w):=by
 have hal:(fs.map jd++(mX ps 0++ss.map fun x=>kY x.1)).length<=1000:=by simp[mX];omega
 obtain⟨al,CP⟩:=zE (fs.map jd++(mX ps 0++ss.map fun x=>kY x.1));rw[<-CP] at hal⊢;replace CP:=zH CP;obtain⟨fa,fn,fc⟩:=f;obtain⟨sa,sn,sc⟩:=s;obtain⟨pa,pn,pc⟩:=p;rw[<-hf.len] at f1;rw[<-hs.len] at s1;rw[<-hp.len] at p1;simp only at f1 s1 p1;unfold dR;go_enter Tryz.func55,Tryz.ntmps55
 go_upto_region 1 with fail
 generalize hW:w.alloc _=W;obtain⟨hk,hb0⟩:=zA hW;replace hf:=hf.below hb0;replace hs:=hs.below hb0;replace hp:=hp.below hb0;have hL:∀X,Below W.heap.size W X->X.cell? ⟨w.heap.size,0,none⟩=some (.slice fa fn fc)/\X.cell? ⟨w.heap.size,1,none⟩=some (.slice sa sn sc)/\X.cell? ⟨w.heap.size,2,none⟩=some (.slice pa pn pc):=fun X h=>⟨(hk.below h hk.lt).cells 0,(hk.below h hk.lt).cells 1,(hk.below h hk.lt).cells 2⟩
 clear hW hk;generalize hB:w.heap.size=B at hL⊢;have hb2:=Below.refl W.heap.size W;go_wp2
 go_loopg [3,4] fn (fun g ov iv wr=>∃(j:Nat) (ns:List Sg),j+g=fn/\iv=.int .i64 j/\Hid (ns++((fs.drop j).map jd++(mX ps 0++ss.map fun x=>kY x.1))=al)/\SX W wr ov j ns)
 case atStart=>exact⟨0,[],by omega,rfl,CP.out.symm,World.ownsRow_nil _ _ _ _,Nat.le_refl _,hb2⟩
 case round=>
  obtain⟨j,ns,hj,rfl,HE,h⟩:=hrel;have hb:=h.b;by_cases hlt:j<fn
  ·obtain⟨b,off,nm,t,m,d,rfl,_,hx,hx2,hc⟩:=DN hf hlt;replace HE:Hid (ns++[jd ⟨nm,⟨t,m,d⟩⟩]++((fs.drop (j+1)).map jd++(mX ps 0++ss.map fun x=>kY x.1))=al):=by have h:=HE.out;rw[List.drop_eq_getElem_cons hx,hx2] at h;show _=_;rw[<-h];simp
   clear hx2
   go_upto_region 5 with fail
   refine dN (Below W.heap.size W) 99 hb.drew (fun w1 h1 hS=>?_);replace h:=h.below h1
   iterate 14 refine aW ?_
   refine iy 14 (fun _=>hS.alloc hS.size _) (fun _=>?_);refine y9 15 qw Tryz.underlying61 h.o (by have:=h.l;omega) h.b.size (fun v' w9 ho _ _ gW=>⟨h.b.trans gW,fun hS=>?_⟩);refine aW ?_;refine dH ?_;go_wp2
   go_roundg (fn-(j+1))
   case measure=>omega
   case rel=>exact⟨j+1,_,by omega,by go_num,HE.out,h.push ⟨5,nm,⟨t,m,d⟩⟩ ho hS rfl⟩
  ·replace HE:Hid (ns++(mX ps 0++ss.map fun x=>kY x.1)=al):=by have h:=HE.out;rw[List.drop_eq_nil_of_le (by have:=hf.len;simp only at this;omega)] at h;exact h
   go_wp2
   go_loopg [3,5] 3 (fun g ov iv wr=>∃(q:Nat) (ns:List Sg),q+g=3/\iv=.int .i64 (6+q)/\Hid (ns++(mX ps q++ss.map fun x=>kY x.1)=al)/\SX W wr ov (100+100*q) ns)
   case atStart=>exact⟨0,ns,by omega,rfl,HE.out,h.o,by have:=h.l;omega,h.b⟩
   case round=>
    clear h HE;obtain⟨q,ns,hq,rfl,HE,h⟩:=hrel;have hb:=h.b;by_cases hlq:q<3
    ·have hq8:(6:Int)+(q:Int)<=8:=by omega
     have HR:=zH (UF ps hlq);go_wp2
     go_loopg [3,6] pn (fun g ov iv wr=>∃(j:Nat) (ns:List Sg),j+g=pn/\iv=.int .i64 j/\Hid (ns++((ps.drop j).map (fun x=>iK (6+(q:Int)) x.1)++(mX ps (q+1)++ss.map fun x=>kY x.1))=al)/\SX W wr ov (100+100*q+j) ns)
     case atStart=>exact⟨0,ns,by omega,rfl,by have h:=HE.out;rw[HR.out,List.append_assoc] at h;exact h,h⟩
     case round=>
      clear h hb HE;obtain⟨j,ns,hj,rfl,HE,h⟩:=hrel;have hb:=h.b;by_cases hlt:j<pn
      ·obtain⟨b,off,p,rfl,_,hx,hx2,hc⟩:=Am hp hlt;replace HE:Hid (ns++[iK (6+(q:Int)) p.1]++((ps.drop (j+1)).map (fun x=>iK (6+(q:Int)) x.1)++(mX ps (q+1)++ss.map fun x=>kY x.1))=al):=by have h:=HE.out;rw[List.drop_eq_getElem_cons hx,hx2] at h;show _=_;rw[<-h];simp
       clear hx2
       go_upto_region 12 with fail
       refine dN (Below W.heap.size W) 99 hb.drew (fun w1 h1 hS=>?_);replace h:=h.below h1
       iterate 15 refine aW ?_
       refine iy 15 (fun _=>hS.alloc hS.size _) (fun _=>?_);refine y9 16 qw Tryz.underlying61 h.o (by have:=h.l;omega) h.b.size (fun v' w9 ho _ _ gW=>⟨h.b.trans gW,fun hS=>?_⟩);refine aW ?_;refine dH ?_;go_wp2
       go_roundg (pn-(j+1))
       case measure=>omega
       case rel=>exact⟨j+1,_,by omega,by go_num,HE.out,h.push ⟨6+(q:Int),p.1.name,p.1.ty⟩ ho hS rfl⟩
      ·have hw6:IntKind.i64.wrap (6+(q:Int)+1)=6+(q:Int)+1:=IntWalk.i64_in _ (by omega);go_wp2
       go_roundg (3-(q+1))
       case measure=>omega
       case rel=>exact⟨q+1,ns,by omega,by push_cast;rw[Int.add_assoc],by have h:=HE.out;rw[List.drop_eq_nil_of_le (by have:=hp.len;simp only at this;omega)] at h;exact h,h.o,by have:=h.l;omega,h.b⟩
    ·have hq8:¬(6:Int)+(q:Int)<=8:=by omega
     have HE:Hid (ns++(ss.map fun x=>kY x.1)=al):=by have h:=HE.out;rw[show q=3 by omega] at h;exact h
     go_wp2
     go_loopg [3,7] sn (fun g ov iv wr=>∃(j:Nat) (ns:List Sg),j+g=sn/\iv=.int .i64 j/\Hid (ns++((ss.drop j).map fun x=>kY x.1)=al)/\SX W wr ov (400+j) ns)
     case atStart=>exact⟨0,ns,by omega,rfl,HE.out,h.o,by have:=h.l;omega,h.b⟩
     case round=>
      clear h hb HE;obtain⟨j,ns,hj,rfl,HE,h⟩:=hrel;have hb:=h.b;by_cases hlt:j<sn
      ·obtain⟨b,off,nm,m,d,bs,hd,rfl,_,hx,hx2,hc⟩:=DR hs hlt;replace HE:Hid (ns++[⟨24,nm,⟨false,m,d⟩⟩]++((ss.drop (j+1)).map fun x=>kY x.1)=al):=by have h:=HE.out;rw[List.drop_eq_getElem_cons hx,hx2] at h;show _=_;rw[<-h];simp[kY]
       clear hx2
       go_upto_region 16 with fail
       refine dN (Below W.heap.size W) 99 hb.drew (fun w1 h1 hS=>?_);replace h:=h.below h1
       iterate 13 refine aW ?_
       refine cO 13 (PY m d w1) ?_;rintro e w2 ⟨rfl,h2⟩;replace h:=h.below h2;refine⟨_,rfl,h.b,fun hS=>?_⟩
       iterate 1 refine aW ?_
       refine iy 15 (fun _=>hS.alloc hS.size _) (fun _=>?_);refine y9 16 qw Tryz.underlying61 h.o (by have:=h.l;omega) h.b.size (fun v' w9 ho _ _ gW=>⟨h.b.trans gW,fun hS=>?_⟩);refine aW ?_;refine dH ?_;go_wp2
       go_roundg (sn-(j+1))
       case measure=>omega
       case rel=>exact⟨j+1,_,by omega,by go_num,HE.out,h.push ⟨24,nm,⟨false,m,d⟩⟩ ho hS rfl⟩
      ·go_wp2;go_ret;have HE:=HE.out;rw[List.drop_eq_nil_of_le (by have:=hs.len;simp only at this;omega),List.map_nil,List.append_nil] at HE;subst HE;exact⟨_,rfl,bW h.o hb0.size,ah hb0 h.b⟩
theorem PZ (x:Dc) (w:World):Calls Tryz.prog 65 #[.agg (Dc.cells x).toArray] w fun e w'=>e=.returned (.bool (!bH x.ty))/\Below w.heap.size w w':=by
 have HU:=zH (fun W=>Et x.ty W);generalize bH x.ty=q at*;obtain⟨nm,⟨tt,tm,td⟩⟩:=x;unfold Dc.cells;simp only[Ty.v] at HU⊢;obtain⟨W,hW⟩:=zE (w.alloc (.cells #[.string nm,.bool tt,.int .i64 tm,.int .i64 td] 36));have hkc:=(aj.new w 36 #[.string nm,.bool tt,.int .i64 tm,.int .i64 td]).cells;have aY:Hid (Below w.heap.size w W):=by show Below _ _ _;rw[hW];exact zB _ _
 rw[<-hW] at hkc;obtain⟨B,hB⟩:=zE w.heap.size;rw[<-hB] at hkc;go_enter Tryz.func65,Tryz.ntmps65
 go_upto_region 1 with fail
 simp only[<-hW,<-hB]
 clear hW hB;go_wp2_with fail;refine (HU.out W).mono ?_;rintro e w5 ⟨rfl,hb5⟩;have lV:=zH (ah aY.out hb5);clear hb5;go_wp2;go_ret;exact⟨rfl,lV.out⟩
theorem P5 (x:Pv × Hd) (w:World):Calls Tryz.prog 68 #[.agg (aA x).toArray] w fun e w'=>e=.returned (.bool (!bH x.1.ty))/\Below w.heap.size w w':=by
 have HU:=zH (fun W=>Et x.1.ty W);generalize bH x.1.ty=q at*;obtain⟨⟨nm,⟨tt,tm,td⟩,ch,⟨pI,pJ,pK⟩,⟨pO,pR,cn3⟩,bo⟩,⟨ha,hn,hcc⟩⟩:=x;unfold aA;simp only[Ty.v] at HU⊢;obtain⟨W,hW⟩:=zE (w.alloc (.cells #[.string nm,.bool tt,.int .i64 tm,.int .i64 td,.slice ha hn hcc,.bool ch,.bool pI,.string pJ,.string pK,.bool pO,.string pR,.string cn3] 45));have hkc:=(aj.new w 45 #[.string nm,.bool tt,.int .i64 tm,.int .i64 td,.slice ha hn hcc,.bool ch,.bool pI,.string pJ,.string pK,.bool pO,.string pR,.string cn3]).cells;have aY:Hid (Below w.heap.size w W):=by show Below _ _ _;rw[hW];exact zB _ _
 rw[<-hW] at hkc;obtain⟨B,hB⟩:=zE w.heap.size;rw[<-hB] at hkc;go_enter Tryz.func68,Tryz.ntmps68
 go_upto_region 1 with fail
 simp only[<-hW,<-hB]
 clear hW hB;go_wp2_with fail;refine (HU.out W).mono ?_;rintro e w5 ⟨rfl,hb5⟩;have lV:=zH (ah aY.out hb5);clear hb5;go_wp2;go_ret;exact⟨rfl,lV.out⟩
theorem P6 (x:Sc × Hd) (w:World):Calls Tryz.prog 70 #[.agg (bK x).toArray] w fun e w'=>e=.returned (.bool (!gu x.1.aN x.1.days))/\Below w.heap.size w w':=by
 have HU:=zH (fun W=>xM x.1.aN x.1.days W);generalize gu x.1.aN x.1.days=q at*;obtain⟨⟨nm,mo,da,br⟩,⟨ha,hn,hcc⟩⟩:=x;unfold bK;simp only at HU⊢;obtain⟨W,hW⟩:=zE (w.alloc (.cells #[.string nm,.int .i64 mo,.int .i64 da,.slice ha hn hcc] 39));have hkc:=(aj.new w 39 #[.string nm,.int .i64 mo,.int .i64 da,.slice ha hn hcc]).cells;have aY:Hid (Below w.heap.size w W):=by show Below _ _ _;rw[hW];exact zB _ _
 rw[<-hW] at hkc;obtain⟨B,hB⟩:=zE w.heap.size;rw[<-hB] at hkc;go_enter Tryz.func70,Tryz.ntmps70
 go_upto_region 1 with fail
 simp only[<-hW,<-hB]
 clear hW hB;go_wp2_with fail;refine (HU.out W).mono ?_;rintro e w5 ⟨rfl,hb5⟩;have lV:=zH (ah aY.out hb5);clear hb5;go_wp2;go_ret;exact⟨rfl,lV.out⟩
theorem XB (A:Option Addr) (c:Nat) (fv:Value) (w:World):Calls Tryz.prog 64 #[.slice A 0 c,fv] w fun e w'=>e=.returned (.bool false)/\Below w.heap.size w w':=by
 have aY:Hid (Below w.heap.size w w):=Below.refl _ _;go_enter Tryz.func64,Tryz.ntmps64;go_wp2
 go_loopg [8] 0 (fun g iv wr=>iv=.int .i64 0/\wr=w)
 case atStart=>exact⟨rfl,rfl⟩
 case round=>
  obtain⟨rfl,rfl⟩:=hrel;go_wp2;go_ret;exact⟨rfl,aY.out⟩
theorem aao (xs:List (Dc)) (h:Hd) (w:World) (hr:aJ w Dc.cells xs h):
  Calls Tryz.prog 64 #[.slice h.a h.n h.c,.func (.func 65) #[] #[]] w fun e w'=>e=.returned (.bool (xs.any fun x=> !bH x.ty))/\Below w.heap.size w w':=by
 by_cases h0:h.n=0
 ·have hx:xs=[]:=List.eq_nil_of_length_eq_zero (by rw[<-hr.len];exact h0);subst hx;rw[h0];exact XB _ _ _ w
 ·have hlen:=hr.len;have hmx:=hr.max;have hcp:=hr.cap;obtain⟨b,off,hA,hb,_⟩:=Rd.row Dc.cells 4 (fun _=>rfl) (by omega) hr.rd (j:=0) (by omega);have eg:∀args w,(callFunc 65 args).run Tryz.prog w=.ok (.enter 65 args) w:=enters_of Tryz.func65 (by kernel_rfl) rfl;have hrd:=hr.rd;rw[hA] at hrd⊢
  letI:Inhabited (Dc):=⟨xs[0]'(by omega)⟩
  have hh:=AnyQ.slices_ContainsFunc Tryz.conD 4 Tryz.isAgg36 Tryz.sizeOf36 Dc.cells (fun _=>rfl) (fun x=> !bH x.ty) 65 #[] eg b off h.n h.c xs w
   (fun W x hW=>(PZ x W).mono (fun e w' ⟨h1,h2⟩=>⟨h1,ah hW h2⟩)) (by omega) (by unfold maxLen at hmx;omega) hb (fun j hj i v hv=>by
     obtain⟨b',off',hA',hb',hc'⟩:=Rd.row Dc.cells 4 (fun _=>rfl) (by omega) hrd hj;injection hA' with hA';injection hA' with h1 h2;subst h1 h2;refine hc' i v ?_;have e:=getElem!_pos xs j hj;rw[e] at hv;exact hv)
  rw[List.take_of_length_le (by omega)] at hh;exact hh
theorem XC (A:Option Addr) (c:Nat) (fv:Value) (w:World):Calls Tryz.prog 67 #[.slice A 0 c,fv] w fun e w'=>e=.returned (.bool false)/\Below w.heap.size w w':=by
 have aY:Hid (Below w.heap.size w w):=Below.refl _ _;go_enter Tryz.func67,Tryz.ntmps67;go_wp2
 go_loopg [8] 0 (fun g iv wr=>iv=.int .i64 0/\wr=w)
 case atStart=>exact⟨rfl,rfl⟩
 case round=>
  obtain⟨rfl,rfl⟩:=hrel;go_wp2;go_ret;exact⟨rfl,aY.out⟩
theorem aap (xs:List (Pv × Hd)) (h:Hd) (w:World) (hr:aJ w aA xs h):
  Calls Tryz.prog 67 #[.slice h.a h.n h.c,.func (.func 68) #[] #[]] w fun e w'=>e=.returned (.bool (xs.any fun x=> !bH x.1.ty))/\Below w.heap.size w w':=by
 by_cases h0:h.n=0
 ·have hx:xs=[]:=List.eq_nil_of_length_eq_zero (by rw[<-hr.len];exact h0);subst hx;rw[h0];exact XC _ _ _ w
 ·have hlen:=hr.len;have hmx:=hr.max;have hcp:=hr.cap;obtain⟨b,off,hA,hb,_⟩:=Rd.row aA 12 (fun _=>rfl) (by omega) hr.rd (j:=0) (by omega);have eg:∀args w,(callFunc 68 args).run Tryz.prog w=.ok (.enter 68 args) w:=enters_of Tryz.func68 (by kernel_rfl) rfl;have hrd:=hr.rd;rw[hA] at hrd⊢
  letI:Inhabited (Pv × Hd):=⟨xs[0]'(by omega)⟩
  have hh:=AnyQ.slices_ContainsFunc Tryz.conP 12 Tryz.isAgg45 Tryz.sizeOf45 aA (fun _=>rfl) (fun x=> !bH x.1.ty) 68 #[] eg b off h.n h.c xs w
   (fun W x hW=>(P5 x W).mono (fun e w' ⟨h1,h2⟩=>⟨h1,ah hW h2⟩)) (by omega) (by unfold maxLen at hmx;omega) hb (fun j hj i v hv=>by
     obtain⟨b',off',hA',hb',hc'⟩:=Rd.row aA 12 (fun _=>rfl) (by omega) hrd hj;injection hA' with hA';injection hA' with h1 h2;subst h1 h2;refine hc' i v ?_;have e:=getElem!_pos xs j hj;rw[e] at hv;exact hv)
  rw[List.take_of_length_le (by omega)] at hh;exact hh
theorem XD (A:Option Addr) (c:Nat) (fv:Value) (w:World):Calls Tryz.prog 69 #[.slice A 0 c,fv] w fun e w'=>e=.returned (.bool false)/\Below w.heap.size w w':=by
 have aY:Hid (Below w.heap.size w w):=Below.refl _ _;go_enter Tryz.func69,Tryz.ntmps69;go_wp2
 go_loopg [8] 0 (fun g iv wr=>iv=.int .i64 0/\wr=w)
 case atStart=>exact⟨rfl,rfl⟩
 case round=>
  obtain⟨rfl,rfl⟩:=hrel;go_wp2;go_ret;exact⟨rfl,aY.out⟩
theorem aaq (xs:List (Sc × Hd)) (h:Hd) (w:World) (hr:aJ w bK xs h):
  Calls Tryz.prog 69 #[.slice h.a h.n h.c,.func (.func 70) #[] #[]] w fun e w'=>e=.returned (.bool (xs.any fun x=> !gu x.1.aN x.1.days))/\Below w.heap.size w w':=by
 by_cases h0:h.n=0
 ·have hx:xs=[]:=List.eq_nil_of_length_eq_zero (by rw[<-hr.len];exact h0);subst hx;rw[h0];exact XD _ _ _ w
 ·have hlen:=hr.len;have hmx:=hr.max;have hcp:=hr.cap;obtain⟨b,off,hA,hb,_⟩:=Rd.row bK 4 (fun _=>rfl) (by omega) hr.rd (j:=0) (by omega);have eg:∀args w,(callFunc 70 args).run Tryz.prog w=.ok (.enter 70 args) w:=enters_of Tryz.func70 (by kernel_rfl) rfl;have hrd:=hr.rd;rw[hA] at hrd⊢
  letI:Inhabited (Sc × Hd):=⟨xs[0]'(by omega)⟩
  have hh:=AnyQ.slices_ContainsFunc Tryz.conS 4 Tryz.isAgg39 Tryz.sizeOf39 bK (fun _=>rfl) (fun x=> !gu x.1.aN x.1.days) 70 #[] eg b off h.n h.c xs w
   (fun W x hW=>(P6 x W).mono (fun e w' ⟨h1,h2⟩=>⟨h1,ah hW h2⟩)) (by omega) (by unfold maxLen at hmx;omega) hb (fun j hj i v hv=>by
     obtain⟨b',off',hA',hb',hc'⟩:=Rd.row bK 4 (fun _=>rfl) (by omega) hrd hj;injection hA' with hA';injection hA' with h1 h2;subst h1 h2;refine hc' i v ?_;have e:=getElem!_pos xs j hj;rw[e] at hv;exact hv)
  rw[List.take_of_length_le (by omega)] at hh;exact hh
theorem QV {α:Type} (p:α->Bool) (l:List α):(l.any fun x=> !p x)= !l.all p:=by
 induction l with
 |nil=>rfl
 |cons a l ih=>rw[List.any_cons,List.all_cons,ih,Bool.not_and]
theorem QW {α β:Type} (p:α->Bool) {l:List (α × β)} {l':List α} (h:l.map Prod.fst=l'):(l.any fun x=> !p x.1)= !l'.all p:=by
 subst h;rw[QV (fun x:α × β=>p x.1),List.all_map];rfl
theorem UG (l:Lw) (ss:List (Sc × Hd)) (ps:List (Pv × Hd)) (f s p:Hd) (w:World) (h:dV w l ss ps f s p):
  Calls Tryz.prog 27 #[dR f s p] w fun e w'=>e=.returned (.bool (pG l))/\Below w.heap.size w w':=by
 have HA:=zH (fun W hb=>aao l.facts f W (h.below (w':=W) hb).f);have HP:=zH (fun W hb=>aap ps p W (h.below (w':=W) hb).p);have HS:=zH (fun W hb=>aaq ss s W (h.below (w':=W) hb).s)
 have HT:Hid (pG l=(!(l.facts.any fun x=> !bH x.ty)&&(!(ps.any fun x=> !bH x.1.ty)&& !(ss.any fun x=> !gu x.1.aN x.1.days)))):=by
  show _=_;rw[QV (fun x:Dc=>bH x.ty),QW (fun x:Pv=>bH x.ty) h.pl,QW (fun x:Sc=>gu x.aN x.days) h.sl,Bool.not_not,Bool.not_not,Bool.not_not];rfl
 rw[HT.out];generalize (l.facts.any fun x=> !bH x.ty)=a at*;generalize (ps.any fun x=> !bH x.1.ty)=b at*;generalize (ss.any fun x=> !gu x.1.aN x.1.days)=c at*;clear HT h;obtain⟨fa,fn,fc⟩:=f;obtain⟨sa,sn,sc⟩:=s;obtain⟨pa,pn,pc⟩:=p;unfold dR;simp only at HA HP HS⊢;obtain⟨W,hW⟩:=zE (w.alloc (.cells #[.slice fa fn fc,.slice sa sn sc,.slice pa pn pc] 28));obtain⟨B,hB⟩:=zE w.heap.size;have HK:Hid (aj W B 28 [.slice fa fn fc,.slice sa sn sc,.slice pa pn pc]):=by show aj _ _ _ _;rw[hW,hB];exact aj.new w _ _
 have aY:Hid (Below w.heap.size w W):=by show Below _ _ _;rw[hW];exact zB _ _
 have hkc:=HK.out.cells;cases a
 ·cases b
  ·go_enter Tryz.func27,Tryz.ntmps27
   go_upto_region 1 with fail
   simp only[<-hW,<-hB]
   clear hW hB;go_wp2_with fail;refine (HA.out W aY.out).mono ?_;rintro e w5 ⟨rfl,hb5⟩;have jo:=zH (ah aY.out hb5);have rF:=zH (HK.out.below hb5 HK.out.lt);have hk5:=rF.out.cells;clear hb5;go_wp2_with fail;refine (HP.out w5 jo.out).mono ?_;rintro e w6 ⟨rfl,hb6⟩;have nX:=zH (ah jo.out hb6);have hk6:=(rF.out.below hb6 rF.out.lt).cells;clear hb6;go_wp2_with fail;refine (HS.out w6 nX.out).mono ?_;rintro e w7 ⟨rfl,hb7⟩;have xk:=zH (ah nX.out hb7);clear hb7;go_wp2;go_ret;exact⟨by simp,xk.out⟩
  ·go_enter Tryz.func27,Tryz.ntmps27
   go_upto_region 1 with fail
   simp only[<-hW,<-hB]
   clear hW hB;go_wp2_with fail;refine (HA.out W aY.out).mono ?_;rintro e w5 ⟨rfl,hb5⟩;have jo:=zH (ah aY.out hb5);have rF:=zH (HK.out.below hb5 HK.out.lt);have hk5:=rF.out.cells;clear hb5;go_wp2_with fail;refine (HP.out w5 jo.out).mono ?_;rintro e w6 ⟨rfl,hb6⟩;have nX:=zH (ah jo.out hb6);clear hb6;go_wp2;go_ret;exact⟨by simp,nX.out⟩
 ·go_enter Tryz.func27,Tryz.ntmps27
  go_upto_region 1 with fail
  simp only[<-hW,<-hB]
  clear hW hB;go_wp2_with fail;refine (HA.out W aY.out).mono ?_;rintro e w5 ⟨rfl,hb5⟩;have jo:=zH (ah aY.out hb5);clear hb5;go_wp2;go_ret;exact⟨by simp,jo.out⟩
theorem NZ (a b:ByteArray):(a.toList==b.toList)=decide (a=b):=by
 by_cases h:a=b
 ·subst h;simp
 ·have h2:¬a.toList=b.toList:=fun e=>h (by rw[ByteArray.toList_eq,ByteArray.toList_eq] at e;exact ByteArray.ext (Array.toList_inj.1 e))
  rw[decide_eq_false h];exact beq_eq_false_iff_ne.2 h2
def Dc.v (d:Dc):Value:=.agg #[.string d.name,.bool d.ty.truth,.int .i64 d.ty.aN,.int .i64 d.ty.days]
def Bk.v (b:Bk):Value:=.agg #[.bool b.fr.neg,.string b.fr.num,.string b.fr.den,.bool b.rt.neg,.string b.rt.num,.string b.rt.den]
theorem XE (a b:Dc) (w:World):(binOp .neq 36 a.v b.v).run Tryz.prog w=.ok (.bool (!decide (a=b))) w:=by
 have u4:=Tryz.underlying9;have hS:Tryz.prog.underlying 36=some (.struct (Tryz.prog.fieldsOf 36)):=by kernel_rfl
 have hp:Tryz.prog.stoodInHeld 36=false:=by kernel_rfl
 have hR:=fun (t t':Bool) (m n m' n':Int) (w:World)=>Ad 9996 ⟨t,m,n⟩ ⟨t',m',n'⟩ w
 simp only[Ty.v] at hR
 have h:(Op.equalIn (9996+4) 36 a.v b.v).run Tryz.prog w=.ok (decide (a=b)) w:=by
  simp only[Dc.v]
  rw[run_equalIn_agg w (9996+3) 36 _ _ hS hp];simp only[Program.fieldsOf,Tryz.underlying36]
  go_simp;obtain⟨n,t,m,d⟩:=a;obtain⟨n',t',m',d'⟩:=b;have e:n.toList=n'.toList↔n=n':=⟨toList_inj,fun h=>h ▸ rfl⟩
  simp only[e,Dc.mk.injEq,Ty.mk.injEq]
  by_cases h1:n=n'<;>by_cases h2:t=t'<;>by_cases h3:m=m'<;>by_cases h4:d=d'<;>simp[h1,h2,h3,h4]
 simp only[Dc.v] at h⊢;rw[run_neq_struct,show (10000:Nat)=9996+4 from rfl,h];rfl
theorem XF (a b:Bk) (w:World):(binOp .neq 93 a.v b.v).run Tryz.prog w=.ok (.bool (!decide (a=b))) w:=by
 have hS:Tryz.prog.underlying 93=some (.struct (Tryz.prog.fieldsOf 93)):=by kernel_rfl
 have hp:Tryz.prog.stoodInHeld 93=false:=by kernel_rfl
 have hR:=fun (n1 n2:Bool) (u1 u2 d1 d2:ByteArray) (w:World)=>zZ 9997 ⟨n1,u1,d1⟩ ⟨n2,u2,d2⟩ w
 simp only[Ra.v] at hR
 have h:(Op.equalIn (9997+3) 93 a.v b.v).run Tryz.prog w=.ok (decide (a=b)) w:=by
  simp only[Bk.v]
  rw[run_equalIn_agg w (9997+2) 93 _ _ hS hp];simp only[Program.fieldsOf,Tryz.underlying93]
  go_simp;obtain⟨⟨x0,x1,x2⟩,y0,y1,y2⟩:=a;obtain⟨⟨u0,u1,u2⟩,v0,v1,v2⟩:=b;simp only[Bk.mk.injEq,Ra.mk.injEq]
  by_cases h1:x0=u0<;>by_cases h2:x1=u1<;>by_cases h3:x2=u2<;>simp[h1,h2,h3]
  all_goals by_cases h4:y0=v0<;>by_cases h5:y1=v1<;>by_cases h6:y2=v2<;>simp[h4,h5,h6]
 simp only[Bk.v] at h⊢;rw[run_neq_struct,show (10000:Nat)=9997+3 from rfl,h];rfl
theorem aeU (m n m' n':Int) (w:World):(binOp .eql 32 (.agg #[.int .i64 m,.int .i64 n]) (.agg #[.int .i64 m',.int .i64 n'])).run Tryz.prog w=.ok (.bool (decide (m=m')&&decide (n=n'))) w:=by
 rw[run_eql_struct,show (10000:Nat)=9998+2 from rfl,Ac];rfl
theorem aeV (m n m' n':Int) (w:World):(binOp .neq 32 (.agg #[.int .i64 m,.int .i64 n]) (.agg #[.int .i64 m',.int .i64 n'])).run Tryz.prog w=.ok (.bool (!(decide (m=m')&&decide (n=n')))) w:=by
 rw[run_neq_struct,show (10000:Nat)=9998+2 from rfl,Ac];rfl
def fO {α β:Type} [DecidableEq β] (f:α->β) (xs ys:List α) (k:Nat):Bool:=decide ((xs.drop k).map f=(ys.drop k).map f)
theorem oL {α β:Type} [DecidableEq β] (f:α->β) {xs ys:List α} {k:Nat} (h1:k<xs.length) (h2:k<ys.length):fO f xs ys k=(decide (f xs[k]=f ys[k])&&fO f xs ys (k+1)):=by
 unfold fO;rw[List.drop_eq_getElem_cons h1,List.drop_eq_getElem_cons h2,List.map_cons,List.map_cons,<-Bool.decide_and,decide_eq_decide,List.cons.injEq]
theorem qK {α β:Type} [DecidableEq β] (f:α->β) {xs ys:List α} {n:Nat} (h1:n=xs.length) (h2:n=ys.length):fO f xs ys n=true:=by
 unfold fO;rw[List.drop_of_length_le (by omega),List.drop_of_length_le (by omega)];rfl
theorem qL {α β:Type} [DecidableEq β] (f:α->β) {xs ys:List α} (h:xs.length≠ys.length):fO f xs ys 0=false:=
 decide_eq_false fun e=>h (by simpa using congrArg List.length e)
theorem Hl {w:World} {A:Option Addr} {n c j:Nat} {xs:List Bk} (k:aJ w Bk.cells xs ⟨A,n,c⟩) (hj:j<n):∃b off x,A=some ⟨b,off,none⟩/\b<w.heap.size/\∃hx:j<xs.length,xs[j]=x/\∀X,Below w.heap.size w X->X.cell? ⟨b,off+j*6,none⟩=some (.bool x.fr.neg)/\X.cell? ⟨b,off+j*6+1,none⟩=some (.string x.fr.num)/\X.cell? ⟨b,off+j*6+2,none⟩=some (.string x.fr.den)/\
  X.cell? ⟨b,off+j*6+3,none⟩=some (.bool x.rt.neg)/\X.cell? ⟨b,off+j*6+4,none⟩=some (.string x.rt.num)/\X.cell? ⟨b,off+j*6+5,none⟩=some (.string x.rt.den):=by
 obtain⟨b,off,hA,hb,hx,hc⟩:=k.at 6 (fun _=>rfl) (by omega) hj;exact⟨b,off,_,hA,hb,hx,rfl,fun X hX=>⟨hc X hX 0 _ rfl,hc X hX 1 _ rfl,hc X hX 2 _ rfl,hc X hX 3 _ rfl,hc X hX 4 _ rfl,hc X hX 5 _ rfl⟩⟩
theorem UH (xs ys:List Dc) (h k:Hd) (w:World) (h1:aJ w Dc.cells xs h) (h2:aJ w Dc.cells ys k):
  Calls Tryz.prog 35 #[.slice h.a h.n h.c,.slice k.a k.n k.c] w fun e w'=>e=.returned (.bool (fO id xs ys 0))/\Below w.heap.size w w':=by
 obtain⟨A,n,c⟩:=h;obtain⟨A',n',c'⟩:=k;have HL:=zH h1.len;have rY:=zH h2.len;have hm:n<=9223372036854775807:=by have a:=h1.cap;have b:=h1.max;unfold maxLen at b;simp only at a b;omega
 simp only at HL rY;by_cases hl:n=n'
 ·subst hl;go_enter Tryz.func35,Tryz.ntmps35;obtain⟨z,hz⟩:=zE (fO id xs ys 0);rw[<-hz];have HZ:=zH hz;clear hz;go_wp2
  go_loopg [13] n (fun g iv wr=>∃j:Nat,j+g=n/\iv=.int .i64 j/\Hid (z=fO id xs ys j)/\Below w.heap.size w wr)
  case atStart=>exact⟨0,by omega,rfl,HZ,Below.refl _ _⟩
  case round=>
   obtain⟨j,hj,rfl,hd,hb⟩:=hrel;by_cases hlt:j<n
   ·obtain⟨b,off,nm,t,m,d,rfl,_,hx,hxe,hc⟩:=DN h1 hlt;obtain⟨b',off',nm',t',m',d',rfl,_,hx',kJ,hc'⟩:=DN h2 hlt;have HS:=zH (hd.out.trans (oL id hx hx'));rw[hxe,kJ] at HS;have hc:=hc wr hb;have hc':=hc' wr hb;have hq:=fun W=>XE ⟨nm,t,m,d⟩ ⟨nm',t',m',d'⟩ W
    unfold Dc.v at hq;simp only[id_eq] at hq HS;generalize decide ((⟨nm,t,m,d⟩:Dc)=⟨nm',t',m',d'⟩)=q at*;have j0:(0:Int)<=(j:Int):=by omega
    have j1:(j:Int)<(n:Int):=by omega
    clear hxe kJ hd h1 h2;cases q
    ·obtain rfl:=HS.out;clear HS HZ;go_wp2;go_quiet (fail);go_wp2;go_ret;exact⟨rfl,ah hb (ak _ _ _)⟩
    ·have HN:Hid (z=fO id xs ys (j+1)):=HS.out;clear HS HZ;go_wp2;go_quiet (fail);go_wp2
     go_roundg (n-(j+1))
     case measure=>omega
     case rel=>exact⟨j+1,by omega,by go_num,HN,ah hb (ak _ _ _)⟩
   ·obtain rfl:j=n:=by omega
    obtain rfl:z=true:=hd.out.trans (qK id HL.out rY.out);clear HZ hd;go_wp2;go_ret;exact⟨rfl,hb⟩
 ·rw[qL id (fun e=>hl (by rw[HL.out,rY.out,e]))];have e1:((n:Int) !=n')=true:=by rw[bne_iff_ne];omega
  go_enter Tryz.func35,Tryz.ntmps35;go_wp2;go_ret;exact⟨rfl,Below.refl _ _⟩
theorem UJ (xs ys:List Bk) (h k:Hd) (w:World) (h1:aJ w Bk.cells xs h) (h2:aJ w Bk.cells ys k):
  Calls Tryz.prog 38 #[.slice h.a h.n h.c,.slice k.a k.n k.c] w fun e w'=>e=.returned (.bool (fO id xs ys 0))/\Below w.heap.size w w':=by
 obtain⟨A,n,c⟩:=h;obtain⟨A',n',c'⟩:=k;have HL:=zH h1.len;have rY:=zH h2.len;have hm:n<=9223372036854775807:=by have a:=h1.cap;have b:=h1.max;unfold maxLen at b;simp only at a b;omega
 simp only at HL rY;by_cases hl:n=n'
 ·subst hl;go_enter Tryz.func38,Tryz.ntmps38;obtain⟨z,hz⟩:=zE (fO id xs ys 0);rw[<-hz];have HZ:=zH hz;clear hz;go_wp2
  go_loopg [13] n (fun g iv wr=>∃j:Nat,j+g=n/\iv=.int .i64 j/\Hid (z=fO id xs ys j)/\Below w.heap.size w wr)
  case atStart=>exact⟨0,by omega,rfl,HZ,Below.refl _ _⟩
  case round=>
   obtain⟨j,hj,rfl,hd,hb⟩:=hrel;by_cases hlt:j<n
   ·obtain⟨b,off,x,rfl,_,hx,hxe,hc⟩:=Hl h1 hlt;obtain⟨b',off',x',rfl,_,hx',kJ,hc'⟩:=Hl h2 hlt;have HS:=zH (hd.out.trans (oL id hx hx'));rw[hxe,kJ] at HS;have hc:=hc wr hb;have hc':=hc' wr hb;have hq:=fun W=>XF x x' W
    unfold Bk.v at hq;simp only[id_eq] at hq HS;generalize decide (x=x')=q at*;have j0:(0:Int)<=(j:Int):=by omega
    have j1:(j:Int)<(n:Int):=by omega
    clear hxe kJ hd h1 h2;cases q
    ·obtain rfl:=HS.out;clear HS HZ;go_wp2;go_quiet (fail);go_wp2;go_ret;exact⟨rfl,ah hb (ak _ _ _)⟩
    ·have HN:Hid (z=fO id xs ys (j+1)):=HS.out;clear HS HZ;go_wp2;go_quiet (fail);go_wp2
     go_roundg (n-(j+1))
     case measure=>omega
     case rel=>exact⟨j+1,by omega,by go_num,HN,ah hb (ak _ _ _)⟩
   ·obtain rfl:j=n:=by omega
    obtain rfl:z=true:=hd.out.trans (qK id HL.out rY.out);clear HZ hd;go_wp2;go_ret;exact⟨rfl,hb⟩
 ·rw[qL id (fun e=>hl (by rw[HL.out,rY.out,e]))];have e1:((n:Int) !=n')=true:=by rw[bne_iff_ne];omega
  go_enter Tryz.func38,Tryz.ntmps38;go_wp2;go_ret;exact⟨rfl,Below.refl _ _⟩
theorem QY {w W:World} {cs ds:Array Value} {t u:TypeId} (h:(w.alloc (.cells cs t)).alloc (.cells ds u)=W):aj W w.heap.size t cs.toList/\aj W (w.heap.size+1) u ds.toList/\Below w.heap.size w W:=by
 obtain⟨k1,b1⟩:=zA (w:=w) (cs:=cs) (t:=t) rfl;obtain⟨k2,b2⟩:=zA h;rw[World.size_alloc] at k2;exact⟨k1.below b2 k1.lt,k2,ah b1 b2⟩
theorem N7 {α:Type} {w:World} {enc:α->List Value} {xs:List α} {h:Hd} (k:aJ w enc xs h):h.n=xs.length/\h.n<=maxLen:=⟨k.len,Nat.le_trans k.cap k.max⟩
theorem aeW {α:Type} [DecidableEq α] (xs ys:List α):fO id xs ys 0=decide (xs=ys):=by simp[fO]
theorem XG (x y:Sc × Hd) (w:World) (hx:aJ w Bk.cells x.1.bI x.2) (hy:aJ w Bk.cells y.1.bI y.2):
  Calls Tryz.prog 37 #[.agg (bK x).toArray,.agg (bK y).toArray] w fun e w'=>e=.returned (.bool (decide (x.1=y.1)))/\Below w.heap.size w w':=by
 obtain⟨⟨nm,m,d,bs⟩,hA⟩:=x;obtain⟨⟨nm',m',d',bs'⟩,hA'⟩:=y;have HB:=zH (fun W hb=>UJ bs bs' hA hA' W (hx.below hb) (hy.below hb));rw[aeW] at HB
 have HV:decide ((⟨nm,m,d,bs⟩:Sc)=⟨nm',m',d',bs'⟩)=(decide (nm=nm')&&((decide (m=m')&&decide (d=d'))&&decide (bs=bs'))):=by
  rw[<-Bool.decide_and,<-Bool.decide_and,<-Bool.decide_and,decide_eq_decide,Sc.mk.injEq,and_assoc]
 rw[HV];have h1:=NZ nm nm';have h2:=fun W=>aeU m d m' d' W
 generalize decide (nm=nm')=d1 at*;generalize (decide (m=m')&&decide (d=d'))=d2 at*;generalize decide (bs=bs')=d3 at*;clear hx hy HV;unfold bK;go_enter Tryz.func37,Tryz.ntmps37
 go_upto_region 1 with fail
 generalize hX:(w.alloc _).alloc _=W2;obtain⟨k1,k2,hb⟩:=QY hX;have hc1:=k1.cells;have hc2:=k2.cells;clear hX k1 k2;cases d1
 ·go_wp2;go_ret;exact⟨rfl,hb⟩
 cases d2
 ·go_wp2;go_ret;exact⟨rfl,hb⟩
 go_wp2_with fail;refine (HB.out W2 hb).mono ?_;rintro e w3 ⟨rfl,hb3⟩;have hb':=ah hb hb3;clear hc1 hc2 HB;go_wp2;go_ret;exact⟨rfl,hb'⟩
theorem J8 (ref:Bool) (x y:Pv × Hd) (w:World) (hx:aJ w Nd.cells x.1.body x.2) (hy:aJ w Nd.cells y.1.body y.2):
  Calls Tryz.prog (if ref then 43 else 40) #[.agg (aA x).toArray,.agg (aA y).toArray] w fun e w'=>e=.returned (.bool (decide (x.1=y.1)))/\Below w.heap.size w w':=by
 obtain⟨⟨nm,⟨t0,t1,t2⟩,ch,⟨s0,s1,s2⟩,⟨c0,c1,c2⟩,bs⟩,⟨A,n,c⟩⟩:=x;obtain⟨⟨nm',⟨t0',t1',t2'⟩,ch',⟨s0',s1',s2'⟩,⟨c0',c1',c2'⟩,bs'⟩,⟨A',n',c'⟩⟩:=y;obtain⟨a1,a2⟩:=N7 hx;obtain⟨b1,b2⟩:=N7 hy;have HE:=zH (fun W hb=>WH bs bs' A A' n c n' c' W a1 b1 a2 b2 (hx.below hb).rd (hy.below hb).rd);have HG:=zH (fun W hb=>WG bs bs' A A' n c n' c' W a1 b1 a2 b2 (hx.below hb).rd (hy.below hb).rd)
 have HV:decide ((⟨nm,⟨t0,t1,t2⟩,ch,⟨s0,s1,s2⟩,⟨c0,c1,c2⟩,bs⟩:Pv)=⟨nm',⟨t0',t1',t2'⟩,ch',⟨s0',s1',s2'⟩,⟨c0',c1',c2'⟩,bs'⟩)=(decide (nm=nm')&&(decide ((⟨t0,t1,t2⟩:Ty)=⟨t0',t1',t2'⟩)&&(decide (ch=ch')&&(decide ((⟨s0,s1,s2⟩:Ra)=⟨s0',s1',s2'⟩)&&(decide ((⟨c0,c1,c2⟩:Ra)=⟨c0',c1',c2'⟩)&&decide (bs=bs')))))):=by
  rw[<-Bool.decide_and,<-Bool.decide_and,<-Bool.decide_and,<-Bool.decide_and,<-Bool.decide_and,decide_eq_decide,Pv.mk.injEq]
 rw[HV];have h1:=NZ nm nm';have h2:=fun W=>uI ⟨t0,t1,t2⟩ ⟨t0',t1',t2'⟩ W
 have h3:(ch==ch')=decide (ch=ch'):=by cases ch<;>cases ch'<;>rfl
 have h4:=fun W=>wO ⟨s0,s1,s2⟩ ⟨s0',s1',s2'⟩ W
 have h5:=fun W=>wO ⟨c0,c1,c2⟩ ⟨c0',c1',c2'⟩ W
 unfold Ty.v at h2;unfold Ra.v at h4 h5;dsimp only at h2 h4 h5;generalize decide (nm=nm')=d1 at*;generalize decide ((⟨t0,t1,t2⟩:Ty)=⟨t0',t1',t2'⟩)=d2 at*;generalize decide (ch=ch')=d3 at*;generalize decide ((⟨s0,s1,s2⟩:Ra)=⟨s0',s1',s2'⟩)=d4 at*;generalize decide ((⟨c0,c1,c2⟩:Ra)=⟨c0',c1',c2'⟩)=d5 at*;generalize decide (bs=bs')=d6 at*;clear hx hy HV a1 a2 b1 b2;unfold aA;cases ref
 ·clear HG;simp only[Bool.false_eq_true,if_false]
  go_enter Tryz.func40,Tryz.ntmps40
  go_upto_region 1 with fail
  generalize hX:(w.alloc _).alloc _=W2;obtain⟨k1,k2,hb⟩:=QY hX;have hc1:=k1.cells;have hc2:=k2.cells;clear hX k1 k2;cases d1;rotate_left;cases d2;rotate_left;cases d3;rotate_left;cases d4;rotate_left;cases d5;rotate_left
  ·go_wp2_with fail;refine (HE.out W2 hb).mono ?_;rintro e w3 ⟨rfl,n3,rfl⟩;have hb':=ah hb (ak _ W2 n3);clear hc1 hc2 HE;go_wp2;go_ret;exact⟨rfl,hb'⟩
  all_goals
   go_wp2;go_ret;exact⟨rfl,hb⟩
 ·clear HE;simp only[if_true]
  go_enter Tryz.func43,Tryz.ntmps43
  go_upto_region 1 with fail
  generalize hX:(w.alloc _).alloc _=W2;obtain⟨k1,k2,hb⟩:=QY hX;have hc1:=k1.cells;have hc2:=k2.cells;clear hX k1 k2;cases d1;rotate_left;cases d2;rotate_left;cases d3;rotate_left;cases d4;rotate_left;cases d5;rotate_left
  ·go_wp2_with fail;refine (HG.out W2 hb).mono ?_;rintro e w3 ⟨rfl,n3,rfl⟩;have hb':=ah hb (ak _ W2 n3);clear hc1 hc2 HG;go_wp2;go_ret;exact⟨rfl,hb'⟩
  all_goals
   go_wp2;go_ret;exact⟨rfl,hb⟩
theorem UK (xs ys:List (Sc × Hd)) (h k:Hd) (w:World) (h1:aJ w bK xs h) (h2:aJ w bK ys k) (s1:∀x∈xs,aJ w Bk.cells x.1.bI x.2) (s2:∀x∈ys,aJ w Bk.cells x.1.bI x.2):
  Calls Tryz.prog 36 #[.slice h.a h.n h.c,.slice k.a k.n k.c,.func (.func 37) #[] #[]] w fun e w'=>e=.returned (.bool (fO Prod.fst xs ys 0))/\Below w.heap.size w w':=by
 have eg:∀args w,(callFunc 37 args).run Tryz.prog w=.ok (.enter 37 args) w:=enters_of Tryz.func37 (by kernel_rfl) rfl;obtain⟨A,n,c⟩:=h;obtain⟨A',n',c'⟩:=k;have HL:=zH h1.len;have rY:=zH h2.len;have hm:n<=9223372036854775807:=by have a:=h1.cap;have b:=h1.max;unfold maxLen at b;simp only at a b;omega
 simp only at HL rY;by_cases hl:n=n'
 ·subst hl;go_enter Tryz.func36,Tryz.ntmps36;obtain⟨z,hz⟩:=zE (fO Prod.fst xs ys 0);rw[<-hz];have HZ:=zH hz;clear hz;go_wp2
  go_loopg [17] n (fun g iv wr=>∃j:Nat,j+g=n/\iv=.int .i64 j/\Hid (z=fO Prod.fst xs ys j)/\Below w.heap.size w wr)
  case atStart=>exact⟨0,by omega,rfl,HZ,Below.refl _ _⟩
  case round=>
   obtain⟨j,hj,rfl,hd,hb⟩:=hrel;by_cases hlt:j<n
   ·obtain⟨b,off,nm,m,d,bs,hh,rfl,_,hx,hxe,hc⟩:=DR h1 hlt;obtain⟨b',off',nm',m',d',bs',hh',rfl,_,hx',kJ,hc'⟩:=DR h2 hlt;have HS:=zH (hd.out.trans (oL Prod.fst hx hx'));have HQ:=zH (fun W hbw=>XG xs[j] ys[j] W ((s1 _ (List.getElem_mem hx)).below hbw) ((s2 _ (List.getElem_mem hx')).below hbw));rw[hxe,kJ] at HS HQ;dsimp only[bK] at HS HQ;have hc0:=hc wr hb;have HC2:=zH hc';generalize decide ((⟨nm,m,d,bs⟩:Sc)=⟨nm',m',d',bs'⟩)=q at*;have j0:(0:Int)<=(j:Int):=by omega
    have j1:(j:Int)<(n:Int):=by omega
    clear hxe kJ hd h1 h2 s1 s2 hc hc'
    go_upto_region 6 with fail
    generalize hX:wr.alloc _=W1;obtain⟨k1,b1⟩:=zA hX;have hc1:=HC2.out W1 (ah hb b1);clear hX hc0 HC2
    go_upto_region 7 with fail
    generalize hY:W1.alloc _=W2;obtain⟨k2,b2⟩:=zA hY;have hb3:=ah (ah hb b1) b2;have q1:=(k1.below b2 k1.lt).cells;have q2:=k2.cells;clear hY k1 k2 b1 b2 hc1;cases q
    ·obtain rfl:=HS.out;clear HS HZ;go_wp2_with fail;refine (HQ.out W2 hb3).mono ?_;rintro e w4 ⟨rfl,hb4⟩;have hb5:=ah hb3 hb4;clear q1 q2 HQ;go_wp2;go_ret;exact⟨rfl,hb5⟩
    ·have HN:Hid (z=fO Prod.fst xs ys (j+1)):=HS.out;clear HS HZ;go_wp2_with fail;refine (HQ.out W2 hb3).mono ?_;rintro e w4 ⟨rfl,hb4⟩;have hb5:=ah hb3 hb4;clear q1 q2 HQ;go_wp2
     go_roundg (n-(j+1))
     case measure=>omega
     case rel=>exact⟨j+1,by omega,by go_num,HN,hb5⟩
   ·obtain rfl:j=n:=by omega
    obtain rfl:z=true:=hd.out.trans (qK Prod.fst HL.out rY.out);clear HZ hd;go_wp2;go_ret;exact⟨rfl,hb⟩
 ·rw[qL Prod.fst (fun e=>hl (by rw[HL.out,rY.out,e]))];have e1:((n:Int) !=n')=true:=by rw[bne_iff_ne];omega
  go_enter Tryz.func36,Tryz.ntmps36;go_wp2;go_ret;exact⟨rfl,Below.refl _ _⟩
theorem UL (xs ys:List (Pv × Hd)) (h k:Hd) (w:World) (h1:aJ w aA xs h) (h2:aJ w aA ys k) (s1:∀x∈xs,aJ w Nd.cells x.1.body x.2) (s2:∀x∈ys,aJ w Nd.cells x.1.body x.2):
  Calls Tryz.prog 39 #[.slice h.a h.n h.c,.slice k.a k.n k.c,.func (.func 40) #[] #[]] w fun e w'=>e=.returned (.bool (fO Prod.fst xs ys 0))/\Below w.heap.size w w':=by
 have eg:∀args w,(callFunc 40 args).run Tryz.prog w=.ok (.enter 40 args) w:=enters_of Tryz.func40 (by kernel_rfl) rfl;obtain⟨A,n,c⟩:=h;obtain⟨A',n',c'⟩:=k;have HL:=zH h1.len;have rY:=zH h2.len;have hm:n<=9223372036854775807:=by have a:=h1.cap;have b:=h1.max;unfold maxLen at b;simp only at a b;omega
 simp only at HL rY;by_cases hl:n=n'
 ·subst hl;go_enter Tryz.func39,Tryz.ntmps39;obtain⟨z,hz⟩:=zE (fO Prod.fst xs ys 0);rw[<-hz];have HZ:=zH hz;clear hz;go_wp2
  go_loopg [17] n (fun g iv wr=>∃j:Nat,j+g=n/\iv=.int .i64 j/\Hid (z=fO Prod.fst xs ys j)/\Below w.heap.size w wr)
  case atStart=>exact⟨0,by omega,rfl,HZ,Below.refl _ _⟩
  case round=>
   obtain⟨j,hj,rfl,hd,hb⟩:=hrel;by_cases hlt:j<n
   ·obtain⟨b,off,x,rfl,_,hx,hxe,hc⟩:=Am h1 hlt;obtain⟨b',off',y,rfl,_,hx',kJ,hc'⟩:=Am h2 hlt;have HS:=zH (hd.out.trans (oL Prod.fst hx hx'));have HQ:=zH (fun W hbw=>J8 false xs[j] ys[j] W ((s1 _ (List.getElem_mem hx)).below hbw) ((s2 _ (List.getElem_mem hx')).below hbw));rw[hxe,kJ] at HS HQ;simp only[Bool.false_eq_true,if_false,aA] at HS HQ;have hc0:=hc wr hb;have HC2:=zH hc';generalize decide (x.1=y.1)=q at*;have j0:(0:Int)<=(j:Int):=by omega
    have j1:(j:Int)<(n:Int):=by omega
    clear hxe kJ hd h1 h2 s1 s2 hc hc'
    go_upto_region 6 with fail
    generalize hX:wr.alloc _=W1;obtain⟨k1,b1⟩:=zA hX;have hc1:=HC2.out W1 (ah hb b1);clear hX hc0 HC2
    go_upto_region 7 with fail
    generalize hY:W1.alloc _=W2;obtain⟨k2,b2⟩:=zA hY;have hb3:=ah (ah hb b1) b2;have q1:=(k1.below b2 k1.lt).cells;have q2:=k2.cells;clear hY k1 k2 b1 b2 hc1;cases q
    ·obtain rfl:=HS.out;clear HS HZ;go_wp2_with fail;refine (HQ.out W2 hb3).mono ?_;rintro e w4 ⟨rfl,hb4⟩;have hb5:=ah hb3 hb4;clear q1 q2 HQ;go_wp2;go_ret;exact⟨rfl,hb5⟩
    ·have HN:Hid (z=fO Prod.fst xs ys (j+1)):=HS.out;clear HS HZ;go_wp2_with fail;refine (HQ.out W2 hb3).mono ?_;rintro e w4 ⟨rfl,hb4⟩;have hb5:=ah hb3 hb4;clear q1 q2 HQ;go_wp2
     go_roundg (n-(j+1))
     case measure=>omega
     case rel=>exact⟨j+1,by omega,by go_num,HN,hb5⟩
   ·obtain rfl:j=n:=by omega
    obtain rfl:z=true:=hd.out.trans (qK Prod.fst HL.out rY.out);clear HZ hd;go_wp2;go_ret;exact⟨rfl,hb⟩
 ·rw[qL Prod.fst (fun e=>hl (by rw[HL.out,rY.out,e]))];have e1:((n:Int) !=n')=true:=by rw[bne_iff_ne];omega
  go_enter Tryz.func39,Tryz.ntmps39;go_wp2;go_ret;exact⟨rfl,Below.refl _ _⟩
theorem XH {l l2:Lw} {ss ss2:List (Sc × Hd)} {ps ps2:List (Pv × Hd)} (h1:ss.map Prod.fst=l.aU) (h2:ps.map Prod.fst=l.aH) (h3:ss2.map Prod.fst=l2.aU) (h4:ps2.map Prod.fst=l2.aH):decide (l=l2)=(fO id l.facts l2.facts 0&&(fO Prod.fst ss ss2 0&&fO Prod.fst ps ps2 0)):=by
 obtain⟨a,b,c⟩:=l;obtain⟨a',b',c'⟩:=l2;dsimp only at h1 h2 h3 h4;subst h1 h2 h3 h4;unfold fO;rw[<-Bool.decide_and,<-Bool.decide_and,decide_eq_decide];simp
theorem xY (l l2:Lw) (ss ss2:List (Sc × Hd)) (ps ps2:List (Pv × Hd)) (f f2 s s2 p p2:Hd) (w:World) (h:dV w l ss ps f s p) (k:dV w l2 ss2 ps2 f2 s2 p2):
  Calls Tryz.prog 13 #[dR f s p,dR f2 s2 p2] w fun e w'=>e=.returned (.bool (decide (l=l2)))/\Below w.heap.size w w':=by
 have H1:=zH (fun W hb=>UH l.facts l2.facts f f2 W (h.below hb).f (k.below hb).f);have H2:=zH (fun W hb=>UK ss ss2 s s2 W (h.below hb).s (k.below hb).s (h.below hb).sb (k.below hb).sb);have H3:=zH (fun W hb=>UL ps ps2 p p2 W (h.below hb).p (k.below hb).p (h.below hb).pb (k.below hb).pb);rw[XH h.sl h.pl k.sl k.pl];generalize fO id l.facts l2.facts 0=d1 at*;generalize fO Prod.fst ss ss2 0=d2 at*;generalize fO Prod.fst ps ps2 0=d3 at*;clear h k;obtain⟨fa,fn,fc⟩:=f;obtain⟨sa,sn,sc⟩:=s;obtain⟨pa,pn,pc⟩:=p;obtain⟨fa',fn',fc'⟩:=f2;obtain⟨sa',XI,sc'⟩:=s2;obtain⟨pa',XJ,pc'⟩:=p2;unfold dR;dsimp only at H1 H2 H3⊢;go_enter Tryz.func13,Tryz.ntmps13
 go_upto_region 1 with fail
 generalize hX:(w.alloc _).alloc _=W2;obtain⟨k1,k2,hb⟩:=QY hX;have hc:=fun Y (hY:Below W2.heap.size W2 Y)=>And.intro (k1.below hY k1.lt).cells (k2.below hY k2.lt).cells
 clear hX k1 k2;have hc2:=hc W2 (Below.refl _ _);go_wp2_with fail;refine (H1.out W2 hb).mono ?_;rintro e w3 ⟨rfl,hb3⟩;have hc3:=hc w3 hb3;have hb4:=ah hb hb3;clear hc2 H1;cases d1
 ·go_wp2;go_ret;exact⟨rfl,hb4⟩
 go_wp2_with fail;refine (H2.out w3 hb4).mono ?_;rintro e w4 ⟨rfl,hb5⟩;have hc4:=hc w4 (ah hb3 hb5);replace hb4:=ah hb4 hb5;clear hc3 H2 hb3 hb5 hb;cases d2
 ·go_wp2;go_ret;exact⟨rfl,hb4⟩
 go_wp2_with fail;refine (H3.out w4 hb4).mono ?_;rintro e w5 ⟨rfl,hb5⟩;replace hb4:=ah hb4 hb5;clear hc hc4 H3 hb5;go_wp2;go_ret;exact⟨rfl,hb4⟩
theorem UO (x y:Sc × Hd) (w:World) (hx:aJ w Bk.cells x.1.bI x.2) (hy:aJ w Bk.cells y.1.bI y.2):
  Calls Tryz.prog 42 #[.agg (bK x).toArray,.agg (bK y).toArray] w fun e w'=>e=.returned (.bool (decide (x.1=y.1)))/\Below w.heap.size w w':=by
 obtain⟨⟨nm,m,d,bs⟩,A,n,c⟩:=x;obtain⟨⟨nm',m',d',bs'⟩,A',n',c'⟩:=y;have HX:=zH hx;have HY:=zH hy;have HL:Hid (n=bs.length):=hx.len;have rY:Hid (n'=bs'.length):=hy.len;have hm:n<=9223372036854775807:=by have a:=hx.cap;have b:=hx.max;unfold maxLen at b;simp only at a b;omega
 have HV:decide ((⟨nm,m,d,bs⟩:Sc)=⟨nm',m',d',bs'⟩)=(decide (nm=nm')&&((decide (m=m')&&decide (d=d'))&&fO id bs bs' 0)):=by
  rw[aeW,<-Bool.decide_and,<-Bool.decide_and,<-Bool.decide_and,decide_eq_decide,Sc.mk.injEq,and_assoc]
 rw[HV];have HE:Hid (n≠n'->fO id bs bs' 0=false):=fun h=>qL id (fun e=>h (by rw[HL.out,rY.out,e]))
 have h1:=NZ nm nm';have h2:=fun W=>aeV m d m' d' W
 generalize decide (nm=nm')=d1 at*;generalize (decide (m=m')&&decide (d=d'))=d2 at*;obtain⟨z,hz⟩:=zE (fO id bs bs' 0);rw[<-hz] at HE⊢;have HZ:=zH hz;clear hx hy HV hz;unfold bK;dsimp only
 go_enter Tryz.func42,Tryz.ntmps42
 go_upto_region 1 with fail
 generalize hX:(w.alloc _).alloc _=W2;obtain⟨k1,k2,hb⟩:=QY hX;have hc:=fun Y (hY:Below W2.heap.size W2 Y)=>And.intro (k1.below hY k1.lt).cells (k2.below hY k2.lt).cells
 clear hX k1 k2;have hc2:=hc W2 (Below.refl _ _);cases d1
 ·clear hc;go_wp2;go_ret;exact⟨rfl,hb⟩
 cases d2
 ·clear hc;go_wp2;go_ret;exact⟨rfl,hb⟩
 by_cases hl:n=n'
 ·subst hl;clear HE;go_wp2
  go_loopg [5] n (fun g iv wr=>∃j:Nat,j+g=n/\iv=.int .i64 j/\Hid (z=fO id bs bs' j)/\Below W2.heap.size W2 wr)
  case atStart=>exact⟨0,by omega,rfl,HZ,Below.refl _ _⟩
  case round=>
   clear hc2;obtain⟨j,hj,rfl,hd,hbr⟩:=hrel;have hcr:=hc wr hbr;have hbw:=ah hb hbr;by_cases hlt:j<n
   ·obtain⟨b,off,x,rfl,_,hx,hxe,hc1⟩:=Hl HX.out hlt;obtain⟨b',off',x',rfl,_,hx',kJ,hc1'⟩:=Hl HY.out hlt;have HS:=zH (hd.out.trans (oL id hx hx'));rw[hxe,kJ] at HS;have hc1:=hc1 wr hbw;have hc1':=hc1' wr hbw;have hq:=fun W=>XF x x' W
    unfold Bk.v at hq;simp only[id_eq] at HS;generalize decide (x=x')=q at*;have j0:(0:Int)<=(j:Int):=by omega
    have j1:(j:Int)<(n:Int):=by omega
    clear hxe kJ hd hc;cases q
    ·obtain rfl:=HS.out;clear HS HZ;go_wp2;go_quiet (fail);go_wp2;go_ret;exact⟨rfl,ah hbw (ak _ _ _)⟩
    ·have HN:Hid (z=fO id bs bs' (j+1)):=HS.out;clear HS HZ;go_wp2;go_quiet (fail);go_wp2
     go_roundg (n-(j+1))
     case measure=>omega
     case rel=>exact⟨j+1,by omega,by go_num,HN,ah hbr (ak _ _ _)⟩
   ·obtain rfl:j=n:=by omega
    obtain rfl:z=true:=hd.out.trans (qK id HL.out rY.out);clear HZ hd hc;go_wp2;go_ret;exact⟨rfl,hbw⟩
 ·obtain rfl:z=false:=HE.out hl;have e1:((n:Int) !=n')=true:=by rw[bne_iff_ne];omega
  clear hc;go_wp2;go_ret;exact⟨rfl,hb⟩
theorem Kr (l l2:Lw) (ss ss2:List (Sc × Hd)) (ps ps2:List (Pv × Hd)) (f f2 s s2 p p2:Hd) (w:World) (h:dV w l ss ps f s p) (k:dV w l2 ss2 ps2 f2 s2 p2):
  Calls Tryz.prog 14 #[dR f s p,dR f2 s2 p2] w fun e w'=>e=.returned (.bool (decide (l=l2)))/\Below w.heap.size w w':=by
 rw[XH h.sl h.pl k.sl k.pl];obtain⟨fa,fn,fc⟩:=f;obtain⟨sa,sn,sc⟩:=s;obtain⟨pa,pn,pc⟩:=p;obtain⟨fa',fn',fc'⟩:=f2;obtain⟨sa',XI,sc'⟩:=s2;obtain⟨pa',XJ,pc'⟩:=p2;have HA:=zH h;have HB:=zH k;have f1:Hid (fn=l.facts.length/\fn'=l2.facts.length):=⟨h.f.len,k.f.len⟩
 have s1:Hid (sn=ss.length/\XI=ss2.length):=⟨h.s.len,k.s.len⟩
 have p1:Hid (pn=ps.length/\XJ=ps2.length):=⟨h.p.len,k.p.len⟩
 have hm1:fn<=9223372036854775807:=by have a:=h.f.cap;have b:=h.f.max;unfold maxLen at b;simp only at a b;omega
 have hm2:sn<=9223372036854775807:=by have a:=h.s.cap;have b:=h.s.max;unfold maxLen at b;simp only at a b;omega
 have hm3:pn<=9223372036854775807:=by have a:=h.p.cap;have b:=h.p.max;unfold maxLen at b;simp only at a b;omega
 have nR:Hid (fn≠fn'->fO id l.facts l2.facts 0=false):=fun h=>qL id (fun e=>h (by rw[f1.out.1,f1.out.2,e]))
 have HE2:Hid (sn≠XI->fO Prod.fst ss ss2 0=false):=fun h=>qL _ (fun e=>h (by rw[s1.out.1,s1.out.2,e]))
 have HE3:Hid (pn≠XJ->fO Prod.fst ps ps2 0=false):=fun h=>qL _ (fun e=>h (by rw[p1.out.1,p1.out.2,e]))
 obtain⟨z1,hz1⟩:=zE (fO id l.facts l2.facts 0);obtain⟨z2,hz2⟩:=zE (fO Prod.fst ss ss2 0);obtain⟨z3,hz3⟩:=zE (fO Prod.fst ps ps2 0);rw[<-hz1,<-hz2,<-hz3];rw[<-hz1] at nR;rw[<-hz2] at HE2;rw[<-hz3] at HE3;have HZ1:=zH hz1;have HZ2:=zH hz2;have HZ3:=zH hz3;clear hz1 hz2 hz3 h k;unfold dR;dsimp only
 go_enter Tryz.func14,Tryz.ntmps14
 go_upto_region 1 with fail
 generalize hX:(w.alloc _).alloc _=W2;obtain⟨k1,k2,hb⟩:=QY hX;have hc:=fun Y (hY:Below W2.heap.size W2 Y)=>And.intro (k1.below hY k1.lt).cells (k2.below hY k2.lt).cells
 clear hX k1 k2;have hc2:=hc W2 (Below.refl _ _);by_cases hl1:fn=fn';rotate_left
 ·obtain rfl:z1=false:=nR.out hl1;have e1:((fn:Int) !=fn')=true:=by rw[bne_iff_ne];omega
  clear hc;go_wp2;go_ret;exact⟨rfl,hb⟩
 subst hl1;by_cases hl2:sn=XI;rotate_left
 ·obtain rfl:z2=false:=HE2.out hl2;have e1:((sn:Int) !=XI)=true:=by rw[bne_iff_ne];omega
  clear hc;go_wp2;go_ret;exact⟨by cases z1<;>rfl,hb⟩
 subst hl2;by_cases hl3:pn=XJ;rotate_left
 ·obtain rfl:z3=false:=HE3.out hl3;have e1:((pn:Int) !=XJ)=true:=by rw[bne_iff_ne];omega
  clear hc;go_wp2;go_ret;exact⟨by cases z1<;>cases z2<;>rfl,hb⟩
 subst hl3;clear nR HE2 HE3;go_wp2
 go_loopg [5] fn (fun g iv wr=>∃j:Nat,j+g=fn/\iv=.int .i64 j/\Hid (z1=fO id l.facts l2.facts j)/\Below W2.heap.size W2 wr)
 case atStart=>exact⟨0,by omega,rfl,HZ1,Below.refl _ _⟩
 case round=>
  clear hc2;obtain⟨j,hj,rfl,hd,hbr⟩:=hrel;have hcr:=hc wr hbr;have hbw:=ah hb hbr;by_cases hlt:j<fn
  ·obtain⟨b,off,nm,t,m,d,rfl,_,hx,hxe,hc1⟩:=DN HA.out.f hlt;obtain⟨b',off',nm',t',m',d',rfl,_,hx',kJ,hc1'⟩:=DN HB.out.f hlt;have HS:=zH (hd.out.trans (oL id hx hx'));rw[hxe,kJ] at HS;have hc1:=hc1 wr hbw;have hc1':=hc1' wr hbw;have hq:=fun W=>XE ⟨nm,t,m,d⟩ ⟨nm',t',m',d'⟩ W
   unfold Dc.v at hq;simp only[id_eq] at hq HS;generalize decide ((⟨nm,t,m,d⟩:Dc)=⟨nm',t',m',d'⟩)=q at*;have j0:(0:Int)<=(j:Int):=by omega
   have j1:(j:Int)<(fn:Int):=by omega
   clear hxe kJ hd hc;cases q
   ·obtain rfl:=HS.out;clear HS HZ1;go_wp2;go_quiet (fail);go_wp2;go_ret;exact⟨rfl,ah hbw (ak _ _ _)⟩
   ·have HN:Hid (z1=fO id l.facts l2.facts (j+1)):=HS.out;clear HS HZ1;go_wp2;go_quiet (fail);go_wp2
    go_roundg (fn-(j+1))
    case measure=>omega
    case rel=>exact⟨j+1,by omega,by go_num,HN,ah hbr (ak _ _ _)⟩
  ·obtain rfl:j=fn:=by omega
   obtain rfl:z1=true:=hd.out.trans (qK id f1.out.1 f1.out.2);clear HZ1 hd hlt;go_wp2
   go_loopg [6] sn (fun g iv X=>∃j:Nat,j+g=sn/\iv=.int .i64 j/\Hid (z2=fO Prod.fst ss ss2 j)/\Below W2.heap.size W2 X)
   case atStart=>exact⟨0,by omega,rfl,HZ2,hbr⟩
   case round=>
    clear hcr hbw hbr;obtain⟨i,hi,rfl,hd,hbr⟩:=hrel;have hcr:=hc wr hbr;have hbw:=ah hb hbr;by_cases hlt:i<sn
    ·obtain⟨b,off,nm,m,d,bs,hh,rfl,_,hx,hxe,hc1⟩:=DR HA.out.s hlt;obtain⟨b',off',nm',m',d',bs',hh',rfl,_,hx',kJ,hc1'⟩:=DR HB.out.s hlt;have HS:=zH (hd.out.trans (oL Prod.fst hx hx'));have HQ:=zH (fun W hbw=>UO ss[i] ss2[i] W ((HA.out.sb _ (List.getElem_mem hx)).below hbw) ((HB.out.sb _ (List.getElem_mem hx')).below hbw));rw[hxe,kJ] at HS HQ;dsimp only[bK] at HS HQ;have hcS:=fun Y (hY:Below wr.heap.size wr Y)=>And.intro (hc Y (ah hbr hY)) (And.intro (hc1 Y (ah hbw hY)) (hc1' Y (ah hbw hY)))
     generalize decide ((⟨nm,m,d,bs⟩:Sc)=⟨nm',m',d',bs'⟩)=q at*;have j0:(0:Int)<=(i:Int):=by omega
     have j1:(i:Int)<(sn:Int):=by omega
     clear hxe kJ hd hc hc1 hc1'
     go_upto_region 11 with fail
     clear hcr;refine dN (Below wr.heap.size wr) 99 (ak _ _ 1) (fun w5 _ hS=>?_)
     iterate 10 refine aW ?_
     refine cO 10 (HQ.out _ (ah hbw hS)) ?_;rintro e w6 ⟨rfl,hb6⟩;refine⟨_,rfl,ah hS hb6,fun hS=>?_⟩;refine aW ?_;refine dH ?_;clear hcS HQ hb6;cases q
     ·obtain rfl:=HS.out;clear HS HZ2;go_wp2;go_ret;exact⟨rfl,ah hbw hS⟩
     ·have HN:Hid (z2=fO Prod.fst ss ss2 (i+1)):=HS.out;clear HS HZ2;go_wp2
      go_roundg (sn-(i+1))
      case measure=>omega
      case rel=>exact⟨i+1,by omega,by go_num,HN,ah hbr hS⟩
    ·obtain rfl:i=sn:=by omega
     obtain rfl:z2=true:=hd.out.trans (qK Prod.fst s1.out.1 s1.out.2);clear HZ2 hd hlt;go_wp2
     go_loopg [7] pn (fun g iv X=>∃j:Nat,j+g=pn/\iv=.int .i64 j/\Hid (z3=fO Prod.fst ps ps2 j)/\Below W2.heap.size W2 X)
     case atStart=>exact⟨0,by omega,rfl,HZ3,hbr⟩
     case round=>
      clear hcr hbw hbr;obtain⟨i,hi,rfl,hd,hbr⟩:=hrel;have hcr:=hc wr hbr;have hbw:=ah hb hbr;by_cases hlt:i<pn
      ·obtain⟨b,off,x,rfl,_,hx,hxe,hc1⟩:=Am HA.out.p hlt;obtain⟨b',off',x',rfl,_,hx',kJ,hc1'⟩:=Am HB.out.p hlt;have HS:=zH (hd.out.trans (oL Prod.fst hx hx'));have HQ:=zH (fun W hbw=>J8 true ps[i] ps2[i] W ((HA.out.pb _ (List.getElem_mem hx)).below hbw) ((HB.out.pb _ (List.getElem_mem hx')).below hbw));rw[hxe,kJ] at HS HQ;simp only[if_true,aA] at HS HQ;have hcS:=fun Y (hY:Below wr.heap.size wr Y)=>And.intro (hc Y (ah hbr hY)) (And.intro (hc1 Y (ah hbw hY)) (hc1' Y (ah hbw hY)))
       generalize decide (x.1=x'.1)=q at*;have j0:(0:Int)<=(i:Int):=by omega
       have j1:(i:Int)<(pn:Int):=by omega
       clear hxe kJ hd hc hc1 hc1'
       go_upto_region 16 with fail
       clear hcr;refine dN (Below wr.heap.size wr) 99 (ak _ _ 1) (fun w5 _ hS=>?_)
       iterate 10 refine aW ?_
       refine cO 10 (HQ.out _ (ah hbw hS)) ?_;rintro e w6 ⟨rfl,hb6⟩;refine⟨_,rfl,ah hS hb6,fun hS=>?_⟩;refine aW ?_;refine dH ?_;clear hcS HQ hb6;cases q
       ·obtain rfl:=HS.out;clear HS HZ3;go_wp2;go_ret;exact⟨rfl,ah hbw hS⟩
       ·have HN:Hid (z3=fO Prod.fst ps ps2 (i+1)):=HS.out;clear HS HZ3;go_wp2
        go_roundg (pn-(i+1))
        case measure=>omega
        case rel=>exact⟨i+1,by omega,by go_num,HN,ah hbr hS⟩
      ·obtain rfl:i=pn:=by omega
       obtain rfl:z3=true:=hd.out.trans (qK Prod.fst p1.out.1 p1.out.2);clear HZ3 hd hlt;clear hc;go_wp2;go_ret;exact⟨rfl,hbw⟩
end Go.Proofs.YtimokmplkpbmdaaGreatDoor
