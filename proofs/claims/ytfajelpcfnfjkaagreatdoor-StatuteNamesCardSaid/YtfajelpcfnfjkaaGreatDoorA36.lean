/- A part of the proof: U4 U9 V1 U6 U7. -/
import Derived.Deep.LoopGhost
import Derived.Deep.RegionHeld3
import Derived.Test.YtfajelpcfnfjkaaGreatDoorA00
import Derived.Test.YtfajelpcfnfjkaaGreatDoorA19
import Derived.Test.YtfajelpcfnfjkaaGreatDoorA20
import Derived.Test.YtfajelpcfnfjkaaGreatDoorA34
import Derived.Test.YtfajelpcfnfjkaaGreatDoorA35
set_option linter.unusedVariables false
set_option linter.unusedSimpArgs false
namespace Go.Proofs.YtfajelpcfnfjkaaGreatDoor
open Go.RowKit
theorem info_strU:(Tryz.prog.info? 9).map (fun i=>(i.zero,i.size,i.bytes))=some (some (.string ⟨#[]⟩),1,16):=by kernel_rfl
def strC (s:ByteArray):List Value:=[.string s]
def strs (l:List ByteArray):List Value:=l.flatMap strC
theorem strs_append (a b:List ByteArray):strs (a++b)=strs a++strs b:=List.flatMap_append
def RowFr {α:Type} (lo:Nat) (w:World) (enc:α→List Value) (xs:List α) (h:Hd):Prop:=RowAt w enc xs h∧∀ad,h.a=some ad→lo≤ad.block
theorem RowFr.onl {α:Type} {lo G:Nat} {w w':World} {enc:α→List Value} {xs:List α} {h:Hd} (k:RowFr lo w enc xs h) (ho:Onl G w w') (hG:G<lo):RowFr lo w' enc xs h:=by
 refine⟨⟨k.1.len,k.1.cap,k.1.max,?_⟩,k.2⟩;rcases k.1.rd with h0|⟨b,off,hA,hb,hc⟩
 ·exact .inl h0
 ·have hlo:lo≤b:=k.2 ⟨b,off,none⟩ hA;refine .inr ⟨b,off,hA,Nat.lt_of_lt_of_le hb ho.size,fun i hi=>?_⟩;rw[←hc i hi];exact World.cell?_of_block (ho.block b hb (by omega))
theorem RowFr.below {α:Type} {lo:Nat} {w w':World} {enc:α→List Value} {xs:List α} {h:Hd} (k:RowFr lo w enc xs h) (hb:Below w.heap.size w w'):RowFr lo w' enc xs h:=⟨k.1.below hb,k.2⟩
theorem RowFr.of_own {α:Type} {w:World} {enc:α→List Value} {xs:List α} {base m n:Nat} {e:TypeId} {v:Value} (h:w.ownsRow base e m v n (xs.flatMap enc)) (hn:n=xs.length):∃h:Hd,v=.slice h.a h.n h.c∧RowFr base w enc xs h:=by
 obtain⟨A,c,rfl,h1,h2,h3,h4⟩:=own_rd2 h;exact⟨⟨A,n,c⟩,rfl,⟨hn,h1,h2,h3⟩,h4⟩
set_option maxRecDepth 100000 in
set_option maxHeartbeats 6400000 in
theorem uLists_any (l:Lw) (ss:List (Sc × Hd)) (ps:List (Pv × Hd)) (f s p:Hd) (w:World) (h:LawAt w l ss ps f s p) (hf:FineL l):
  Calls Tryz.prog 47 #[lawV f s p] w fun e w'=>∃h0 h1 h2:Hd,e=.returned (.agg #[.slice h0.a h0.n h0.c,.slice h1.a h1.n h1.c,.slice h2.a h2.n h2.c])∧RowAt w' strC (l.facts.map Dc.name) h0∧RowAt w' strC (l.schs.map Sc.name) h1∧RowAt w' strC (l.provs.map Pv.name) h2∧Below w.heap.size w w':=by
 have hfn1:=hf.fn;have hsn1:=hf.sn;have hpn1:=hf.pn;obtain⟨fa,fn,fc⟩:=f;obtain⟨sa,sn,sc⟩:=s;obtain⟨pa,pn,pc⟩:=p;unfold lawV;simp only
 obtain⟨W,hW⟩:∃W,W=(w.alloc (.cells #[.slice fa fn fc,.slice sa sn sc,.slice pa pn pc] 29)).alloc (.cells #[.slice none 0 0,.slice none 0 0,.slice none 0 0] 117):=⟨_,rfl⟩
 have htwo:=kTwo_new w 29 117 #[.slice fa fn fc,.slice sa sn sc,.slice pa pn pc] #[.slice none 0 0,.slice none 0 0,.slice none 0 0];rw[←hW] at htwo;obtain⟨B,hB⟩:∃B,B=w.heap.size:=⟨_,rfl⟩
 rw[←hB] at htwo;obtain⟨hk0,hk1,hba,hsz⟩:=htwo;have HKL:=Lib.hid hk0;have HKA:=Lib.hid hk1;rw[hB] at hba;have HBX:=Lib.hid hba;have HBB:=Lib.hid hB;have HSZ:Hid (W.heap.size=B+2):=hsz;have HLA:=Lib.hid h;have HFN:Hid (fn=l.facts.length):=h.f.len;have HSN:Hid (sn=l.schs.length):=by show _=_;rw[←h.sl,List.length_map];exact h.s.len
 have HPN:Hid (pn=l.provs.length):=by show _=_;rw[←h.pl,List.length_map];exact h.p.len
 rw[←HFN.out] at hfn1;rw[←HSN.out] at hsn1;rw[←HPN.out] at hpn1;have HFX:Hid (∀k (hk:k<l.schs.length) (hk':k<ss.length),l.schs[k]=ss[k].1):=fun k hk hk'=>by have e:=h.sl;simp[←e]
 have HPX:Hid (∀k (hk:k<l.provs.length) (hk':k<ps.length),l.provs[k]=ps[k].1):=fun k hk hk'=>by have e:=h.pl;simp[←e]
 clear h hf hk0 hk1 hba hsz;have hkc:=HKL.out.cells;go_enter Tryz.func47,Tryz.ntmps47
 go_upto_region 1 with fail
 simp only[←hW,←hB]
 clear hW hB;obtain⟨W0,hW0⟩:∃x,x=W:=⟨_,rfl⟩
 have HBW:Hid (Onl (B+1) W W0):=by rw[hW0];exact Onl.refl _ _
 rw[←hW0] at HKA HBX hkc⊢;clear hW0;go_wp2_with fail;have HB0:Hid (B+2≤W0.heap.size):=by have h1:=HSZ.out;have h2:=HBW.out.size;show _≤_;omega
 go_loopg [12] fn (fun g iv wr=>∃(j:Nat) (v:Value),j+g=fn∧iv=.int .i64 j∧Hid (Blk wr (B+1) 117 [v,.slice none 0 0,.slice none 0 0])∧Hid (wr.ownsRow W0.heap.size 9 1 v j (strs ((l.facts.take j).map Dc.name)))∧Hid (Onl (B+1) W0 wr)∧Hid (Below w.heap.size w wr))
 case atStart=>exact⟨0,.slice none 0 0,by omega,rfl,HKA,World.ownsRow_nil _ _ _ _,Onl.refl _ _,HBX⟩
 case round=>
  obtain⟨j,v,hj,rfl,hka,hown,hon,hbr⟩:=hrel;clear HKA HBX;by_cases hlt:j<fn
  ·have hjx:j<l.facts.length:=by rw[←HFN.out];exact hlt
   have hjm:j<l.facts.length:=by rw[←HLA.out.f.len];exact hlt
   have htm:=take_map Dc.name hjx;rw[show l.facts[j]=l.facts[j] from rfl] at htm;obtain⟨b,off,hA,hb,hc⟩:=Rd.row Dc.cells 4 (fun _=>rfl) (by omega) (HLA.out.f.below hbr.out).rd hjm;simp only at hA;subst hA;generalize l.facts[j]=x at*;obtain⟨nm,⟨tt,tm,td⟩⟩:=x;have HTM:=Lib.hid htm;have c0:=hc 0 _ rfl;have c1:=hc 1 _ rfl;have c2:=hc 2 _ rfl;have c3:=hc 3 _ rfl;simp only[Nat.add_zero] at c0;obtain⟨XS,hXS⟩:∃X,X=strs ((l.facts.take j).map Dc.name):=⟨_,rfl⟩
   rw[←hXS] at hown;have HXS:=Lib.hid hXS;have HOA:Hid ((wr.alloc (.cells #[.string nm,.bool tt,.int .i64 tm,.int .i64 td] 42)).ownsRow W0.heap.size 9 1 v j XS):=hown.out.alloc _;have hba:=(Below.refl wr.heap.size wr).alloc (Nat.le_refl _) (.cells #[.string nm,.bool tt,.int .i64 tm,.int .i64 td] 42);have HBA:Hid (Below w.heap.size w (wr.alloc (.cells #[.string nm,.bool tt,.int .i64 tm,.int .i64 td] 42))):=hbr.out.alloc hbr.out.size _;have HOA2:Hid (Onl (B+1) W0 (wr.alloc (.cells #[.string nm,.bool tt,.int .i64 tm,.int .i64 td] 42))):=hon.out.trans (Onl.of_below hba);have HKX:=Lib.hid (hka.out.below hba hka.out.lt);have hkx:∀j,(wr.alloc (.cells #[.string nm,.bool tt,.int .i64 tm,.int .i64 td] 42)).cell? ⟨B+1,j,none⟩=_:=HKX.out.cells;clear hown hbr hc htm hXS hba hon hka;go_wp2_with (at_builtin;go_must (refine wpList_push (wr.alloc (.cells #[.string nm,.bool tt,.int .i64 tm,.int .i64 td] 42)) #[.string nm] rfl _ _ 96 rfl W0.heap.size 9 _ 1 16 1 Tryz.underlying96 info_strU rfl (by decide) v j XS rfl HOA.out (by rw[World.size_alloc];rfl) rfl ?_ ?_ ?_ ?_ ?_))
   any_goals first|rfl|(unfold maxLen;omega)|omega
   ·have hz:=HOA2.out.size;rw[World.size_alloc] at hz;exact hz
   intro v' w' hown' hb';obtain⟨Av',cv',rfl,_⟩:=own_rd hown';have hka':=HKX.out.of_block (hb'.block (B+1) (by have:=HB0.out;omega));have hkc':=hka'.cells;have hkf':=hka'.froz;have HKA':=Lib.hid hka';have HOWN':=Lib.hid hown';have HBN:=Lib.hid hb';clear hown' hb' hka' c0 hkx;go_wp2
   go_roundg (fn-(j+1))
   case measure=>omega
   case rel=>
    refine⟨j+1,.slice Av' (j+1) cv',by omega,by go_num,HKA'.out.set 0 _,?_,(HOA2.out.more HBN.out).set 0 _,?_⟩
    ·show World.ownsRow _ _ _ _ _ _ _;rw[HTM.out,strs_append,←HXS.out];refine HOWN'.out.kept (grown_set w' (B+1) 0 _) (.inr (fun h=>?_));have h1:=(HOWN'.out.lt _ h).1;have:=HB0.out;omega
    ·exact (HBA.out.trans (HBN.out.mono (by have:=HB0.out;have:=HBB.out;omega))).setCell (p:=⟨B+1,0,none⟩) (by show _≤B+1;have:=HBB.out;omega) _
  ·have hjn:j=fn:=by omega
   have hown2:=hown.out;rw[hjn,List.take_of_length_le (Nat.le_of_eq HFN.out.symm)] at hown2;obtain⟨h0,rfl,hr0⟩:=RowFr.of_own (enc:=strC) hown2 (by rw[List.length_map];exact HFN.out);obtain⟨W1,hW⟩:∃x,x=wr:=⟨_,rfl⟩
   have HR0:Hid (RowFr (B+2) W1 strC (l.facts.map Dc.name) h0):=by rw[hW];exact⟨hr0.1,fun ad h=>Nat.le_trans HB0.out (hr0.2 ad h)⟩
   have HKA:Hid (Blk W1 (B+1) 117 [.slice h0.a h0.n h0.c,.slice none 0 0,.slice none 0 0]):=by rw[hW];exact hka
   have HBX:Hid (Below w.heap.size w W1):=by rw[hW];exact hbr
   have HBW:Hid (Onl (B+1) W W1):=by rw[hW];exact HBW.out.trans hon.out
   have hkc:∀j,W1.cell? ⟨B,j,none⟩=_:=(HBW.out.blk HKL.out (by omega)).cells;rw[←hW];clear hown hown2 hbr hka hon hjn hW HB0;go_wp2_with fail;have HB0:Hid (B+2≤W1.heap.size):=by have h1:=HSZ.out;have h2:=HBW.out.size;show _≤_;omega
   go_loopg [27] sn (fun g iv wr=>∃(j:Nat) (v:Value),j+g=sn∧iv=.int .i64 j∧Hid (Blk wr (B+1) 117 [.slice h0.a h0.n h0.c,v,.slice none 0 0])∧Hid (wr.ownsRow W1.heap.size 9 1 v j (strs ((l.schs.take j).map Sc.name)))∧Hid (Onl (B+1) W1 wr)∧Hid (Below w.heap.size w wr))
   case atStart=>exact⟨0,.slice none 0 0,by omega,rfl,HKA,World.ownsRow_nil _ _ _ _,Onl.refl _ _,HBX⟩
   case round=>
    obtain⟨j,v,hj,rfl,hka,hown,hon,hbr⟩:=hrel;clear HKA HBX;by_cases hlt:j<sn
    ·have hjx:j<l.schs.length:=by rw[←HSN.out];exact hlt
     have hjm:j<ss.length:=by rw[←HLA.out.s.len];exact hlt
     have htm:=take_map Sc.name hjx;rw[show l.schs[j]=ss[j].1 from HFX.out j hjx hjm] at htm;obtain⟨b,off,hA,hb,hc⟩:=Rd.row scCells 4 (fun _=>rfl) (by omega) (HLA.out.s.below hbr.out).rd hjm;simp only at hA;subst hA;generalize ss[j]=x at*;obtain⟨⟨nm,mo,da,br⟩,⟨ha,hn,hcc⟩⟩:=x;have HTM:=Lib.hid htm;have c0:=hc 0 _ rfl;have c1:=hc 1 _ rfl;have c2:=hc 2 _ rfl;have c3:=hc 3 _ rfl;simp only[Nat.add_zero] at c0;obtain⟨XS,hXS⟩:∃X,X=strs ((l.schs.take j).map Sc.name):=⟨_,rfl⟩
     rw[←hXS] at hown;have HXS:=Lib.hid hXS;have HOA:Hid ((wr.alloc (.cells #[.string nm,.int .i64 mo,.int .i64 da,.slice ha hn hcc] 76)).ownsRow W1.heap.size 9 1 v j XS):=hown.out.alloc _;have hba:=(Below.refl wr.heap.size wr).alloc (Nat.le_refl _) (.cells #[.string nm,.int .i64 mo,.int .i64 da,.slice ha hn hcc] 76);have HBA:Hid (Below w.heap.size w (wr.alloc (.cells #[.string nm,.int .i64 mo,.int .i64 da,.slice ha hn hcc] 76))):=hbr.out.alloc hbr.out.size _;have HOA2:Hid (Onl (B+1) W1 (wr.alloc (.cells #[.string nm,.int .i64 mo,.int .i64 da,.slice ha hn hcc] 76))):=hon.out.trans (Onl.of_below hba);have HKX:=Lib.hid (hka.out.below hba hka.out.lt);have hkx:∀j,(wr.alloc (.cells #[.string nm,.int .i64 mo,.int .i64 da,.slice ha hn hcc] 76)).cell? ⟨B+1,j,none⟩=_:=HKX.out.cells;clear hown hbr hc htm hXS hba hon hka;go_wp2_with (at_builtin;go_must (refine wpList_push (wr.alloc (.cells #[.string nm,.int .i64 mo,.int .i64 da,.slice ha hn hcc] 76)) #[.string nm] rfl _ _ 96 rfl W1.heap.size 9 _ 1 16 1 Tryz.underlying96 info_strU rfl (by decide) v j XS rfl HOA.out (by rw[World.size_alloc];rfl) rfl ?_ ?_ ?_ ?_ ?_))
     any_goals first|rfl|(unfold maxLen;omega)|omega
     ·have hz:=HOA2.out.size;rw[World.size_alloc] at hz;exact hz
     intro v' w' hown' hb';obtain⟨Av',cv',rfl,_⟩:=own_rd hown';have hka':=HKX.out.of_block (hb'.block (B+1) (by have:=HB0.out;omega));have hkc':=hka'.cells;have hkf':=hka'.froz;have HKA':=Lib.hid hka';have HOWN':=Lib.hid hown';have HBN:=Lib.hid hb';clear hown' hb' hka' c0 hkx;go_wp2
     go_roundg (sn-(j+1))
     case measure=>omega
     case rel=>
      refine⟨j+1,.slice Av' (j+1) cv',by omega,by go_num,HKA'.out.set 1 _,?_,(HOA2.out.more HBN.out).set 1 _,?_⟩
      ·show World.ownsRow _ _ _ _ _ _ _;rw[HTM.out,strs_append,←HXS.out];refine HOWN'.out.kept (grown_set w' (B+1) 1 _) (.inr (fun h=>?_));have h1:=(HOWN'.out.lt _ h).1;have:=HB0.out;omega
      ·exact (HBA.out.trans (HBN.out.mono (by have:=HB0.out;have:=HBB.out;omega))).setCell (p:=⟨B+1,1,none⟩) (by show _≤B+1;have:=HBB.out;omega) _
    ·have hjn:j=sn:=by omega
     have hown2:=hown.out;rw[hjn,List.take_of_length_le (Nat.le_of_eq HSN.out.symm)] at hown2;obtain⟨h1,rfl,hr1⟩:=RowFr.of_own (enc:=strC) hown2 (by rw[List.length_map];exact HSN.out);obtain⟨W2,hW⟩:∃x,x=wr:=⟨_,rfl⟩
     have HR1:Hid (RowFr (B+2) W2 strC (l.schs.map Sc.name) h1):=by rw[hW];exact⟨hr1.1,fun ad h=>Nat.le_trans HB0.out (hr1.2 ad h)⟩
     replace HR0:Hid (RowFr (B+2) W2 strC (l.facts.map Dc.name) h0):=by rw[hW];exact HR0.out.onl hon.out (by omega)
     have HKA:Hid (Blk W2 (B+1) 117 [.slice h0.a h0.n h0.c,.slice h1.a h1.n h1.c,.slice none 0 0]):=by rw[hW];exact hka
     have HBX:Hid (Below w.heap.size w W2):=by rw[hW];exact hbr
     have HBW:Hid (Onl (B+1) W W2):=by rw[hW];exact HBW.out.trans hon.out
     have hkc:∀j,W2.cell? ⟨B,j,none⟩=_:=(HBW.out.blk HKL.out (by omega)).cells;rw[←hW];clear hown hown2 hbr hka hon hjn hW HB0;go_wp2_with fail;have HB0:Hid (B+2≤W2.heap.size):=by have h1:=HSZ.out;have h2:=HBW.out.size;show _≤_;omega
     go_loopg [42] pn (fun g iv wr=>∃(j:Nat) (v:Value),j+g=pn∧iv=.int .i64 j∧Hid (Blk wr (B+1) 117 [.slice h0.a h0.n h0.c,.slice h1.a h1.n h1.c,v])∧Hid (wr.ownsRow W2.heap.size 9 1 v j (strs ((l.provs.take j).map Pv.name)))∧Hid (Onl (B+1) W2 wr)∧Hid (Below w.heap.size w wr))
     case atStart=>exact⟨0,.slice none 0 0,by omega,rfl,HKA,World.ownsRow_nil _ _ _ _,Onl.refl _ _,HBX⟩
     case round=>
      obtain⟨j,v,hj,rfl,hka,hown,hon,hbr⟩:=hrel;clear HKA HBX;by_cases hlt:j<pn
      ·have hjx:j<l.provs.length:=by rw[←HPN.out];exact hlt
       have hjm:j<ps.length:=by rw[←HLA.out.p.len];exact hlt
       have htm:=take_map Pv.name hjx;rw[show l.provs[j]=ps[j].1 from HPX.out j hjx hjm] at htm;obtain⟨b,off,hA,hb,hc⟩:=Rd.row pvCells 12 (fun _=>rfl) (by omega) (HLA.out.p.below hbr.out).rd hjm;simp only at hA;subst hA;generalize ps[j]=x at*;obtain⟨⟨nm,⟨tt,tm,td⟩,ch,⟨sn1,sn2,sn3⟩,⟨cn1,cn2,cn3⟩,bo⟩,⟨ha,hn,hcc⟩⟩:=x;have HTM:=Lib.hid htm;have c0:=hc 0 _ rfl;have c1:=hc 1 _ rfl;have c2:=hc 2 _ rfl;have c3:=hc 3 _ rfl;have c4:=hc 4 _ rfl;have c5:=hc 5 _ rfl;have c6:=hc 6 _ rfl;have c7:=hc 7 _ rfl;have c8:=hc 8 _ rfl;have c9:=hc 9 _ rfl;have c10:=hc 10 _ rfl;have c11:=hc 11 _ rfl;simp only[Nat.add_zero] at c0;obtain⟨XS,hXS⟩:∃X,X=strs ((l.provs.take j).map Pv.name):=⟨_,rfl⟩
       rw[←hXS] at hown;have HXS:=Lib.hid hXS;have HOA:Hid ((wr.alloc (.cells #[.string nm,.bool tt,.int .i64 tm,.int .i64 td,.slice ha hn hcc,.bool ch,.bool sn1,.string sn2,.string sn3,.bool cn1,.string cn2,.string cn3] 48)).ownsRow W2.heap.size 9 1 v j XS):=hown.out.alloc _;have hba:=(Below.refl wr.heap.size wr).alloc (Nat.le_refl _) (.cells #[.string nm,.bool tt,.int .i64 tm,.int .i64 td,.slice ha hn hcc,.bool ch,.bool sn1,.string sn2,.string sn3,.bool cn1,.string cn2,.string cn3] 48);have HBA:Hid (Below w.heap.size w (wr.alloc (.cells #[.string nm,.bool tt,.int .i64 tm,.int .i64 td,.slice ha hn hcc,.bool ch,.bool sn1,.string sn2,.string sn3,.bool cn1,.string cn2,.string cn3] 48))):=hbr.out.alloc hbr.out.size _;have HOA2:Hid (Onl (B+1) W2 (wr.alloc (.cells #[.string nm,.bool tt,.int .i64 tm,.int .i64 td,.slice ha hn hcc,.bool ch,.bool sn1,.string sn2,.string sn3,.bool cn1,.string cn2,.string cn3] 48))):=hon.out.trans (Onl.of_below hba);have HKX:=Lib.hid (hka.out.below hba hka.out.lt);have hkx:∀j,(wr.alloc (.cells #[.string nm,.bool tt,.int .i64 tm,.int .i64 td,.slice ha hn hcc,.bool ch,.bool sn1,.string sn2,.string sn3,.bool cn1,.string cn2,.string cn3] 48)).cell? ⟨B+1,j,none⟩=_:=HKX.out.cells;clear hown hbr hc htm hXS hba hon hka;go_wp2_with (at_builtin;go_must (refine wpList_push (wr.alloc (.cells #[.string nm,.bool tt,.int .i64 tm,.int .i64 td,.slice ha hn hcc,.bool ch,.bool sn1,.string sn2,.string sn3,.bool cn1,.string cn2,.string cn3] 48)) #[.string nm] rfl _ _ 96 rfl W2.heap.size 9 _ 1 16 1 Tryz.underlying96 info_strU rfl (by decide) v j XS rfl HOA.out (by rw[World.size_alloc];rfl) rfl ?_ ?_ ?_ ?_ ?_))
       any_goals first|rfl|(unfold maxLen;omega)|omega
       ·have hz:=HOA2.out.size;rw[World.size_alloc] at hz;exact hz
       intro v' w' hown' hb';obtain⟨Av',cv',rfl,_⟩:=own_rd hown';have hka':=HKX.out.of_block (hb'.block (B+1) (by have:=HB0.out;omega));have hkc':=hka'.cells;have hkf':=hka'.froz;have HKA':=Lib.hid hka';have HOWN':=Lib.hid hown';have HBN:=Lib.hid hb';clear hown' hb' hka' c0 hkx;go_wp2
       go_roundg (pn-(j+1))
       case measure=>omega
       case rel=>
        refine⟨j+1,.slice Av' (j+1) cv',by omega,by go_num,HKA'.out.set 2 _,?_,(HOA2.out.more HBN.out).set 2 _,?_⟩
        ·show World.ownsRow _ _ _ _ _ _ _;rw[HTM.out,strs_append,←HXS.out];refine HOWN'.out.kept (grown_set w' (B+1) 2 _) (.inr (fun h=>?_));have h1:=(HOWN'.out.lt _ h).1;have:=HB0.out;omega
        ·exact (HBA.out.trans (HBN.out.mono (by have:=HB0.out;have:=HBB.out;omega))).setCell (p:=⟨B+1,2,none⟩) (by show _≤B+1;have:=HBB.out;omega) _
      ·have hjn:j=pn:=by omega
       have hown2:=hown.out;rw[hjn,List.take_of_length_le (Nat.le_of_eq HPN.out.symm)] at hown2;obtain⟨h2,rfl,hr2⟩:=RowFr.of_own (enc:=strC) hown2 (by rw[List.length_map];exact HPN.out);obtain⟨W3,hW⟩:∃x,x=wr:=⟨_,rfl⟩
       have HR2:Hid (RowFr (B+2) W3 strC (l.provs.map Pv.name) h2):=by rw[hW];exact⟨hr2.1,fun ad h=>Nat.le_trans HB0.out (hr2.2 ad h)⟩
       replace HR0:Hid (RowFr (B+2) W3 strC (l.facts.map Dc.name) h0):=by rw[hW];exact HR0.out.onl hon.out (by omega)
       replace HR1:Hid (RowFr (B+2) W3 strC (l.schs.map Sc.name) h1):=by rw[hW];exact HR1.out.onl hon.out (by omega)
       have HKA:Hid (Blk W3 (B+1) 117 [.slice h0.a h0.n h0.c,.slice h1.a h1.n h1.c,.slice h2.a h2.n h2.c]):=by rw[hW];exact hka
       have HBX:Hid (Below w.heap.size w W3):=by rw[hW];exact hbr
       have HBW:Hid (Onl (B+1) W W3):=by rw[hW];exact HBW.out.trans hon.out
       have hkc:∀j,W3.cell? ⟨B,j,none⟩=_:=(HBW.out.blk HKL.out (by omega)).cells;rw[←hW];clear hown hown2 hbr hka hon hjn hW HB0;have hka:=HKA.out.cells;have hkf:=HKA.out.froz;have HSS:Hid (∀u0 u1 u2,Onl (B+1) W3 (((W3.setCell ⟨B+1,0,none⟩ u0).setCell ⟨B+1,1,none⟩ u1).setCell ⟨B+1,2,none⟩ u2)):=fun u0 u1 u2=>(((Onl.refl (B+1) W3).set 0 u0).set 1 u1).set 2 u2
       go_wp2;refine bodyPost_ret (v:=.agg #[.slice h0.a h0.n h0.c,.slice h1.a h1.n h1.c,.slice h2.a h2.n h2.c]) (by simp[results,Tryz.results47,go_sem,hka]) rfl ⟨h0,h1,h2,rfl,?_,?_,?_,?_⟩
       ·exact (HR0.out.onl (HSS.out _ _ _) (by omega)).1
       ·exact (HR1.out.onl (HSS.out _ _ _) (by omega)).1
       ·exact (HR2.out.onl (HSS.out _ _ _) (by omega)).1
       ·exact below_st3 (B:=B+1) HBX.out (by have:=HBB.out;omega) _ _ _
def nameOk (s:ByteArray):Bool:=nameB s.data.toList
theorem shp5:shp 5=⟨[102,97,99,116,46],0,false,true,false⟩:=rfl
theorem wrong_name (s:ByteArray):wrongN ⟨5,zR,s⟩=if nameOk s then 0 else 12:=by
 have h1:numOk ⟨5,zR,s⟩=true:=by unfold numOk;simp only[shp5];simp
 unfold wrongN;rw[h1];simp only[shp5]
 unfold nameOk;cases nameB s.data.toList<;>simp
theorem check_name (s:ByteArray):checkE [⟨5,zR,s⟩]=if nameOk s then 0 else 12:=by
 unfold checkE;rw[if_neg (by simp),chk,wrong_name];cases nameOk s
 ·rfl
 ·simp only[shp5];simp[chk]
set_option maxHeartbeats 800000 in
theorem uName_any (s:ByteArray) (w:World) (hL:LaidE w):Calls Tryz.prog 6 #[.string s] w fun e w'=>e=.returned (.bool (nameOk s))∧Below w.heap.size w w':=by
 obtain⟨W,hW⟩:∃W,W=w.alloc (.cells #[.int .i64 5,.bool false,.string ⟨#[]⟩,.string ⟨#[]⟩,.string s] 56):=⟨_,rfl⟩
 obtain⟨B,hB⟩:∃B,B=w.heap.size:=⟨_,rfl⟩
 have hK:Blk W B 56 [.int .i64 5,.bool false,.string ⟨#[]⟩,.string ⟨#[]⟩,.string s]:=by rw[hW,hB];exact Blk.new w _ _
 have HBA:Hid (Below w.heap.size w W):=by show Below _ _ _;rw[hW];exact (Below.refl _ _).alloc (Nat.le_refl _) _
 have HC:=Lib.hid (check_any [⟨5,zR,s⟩] (some ⟨B,0,none⟩) 1 1 W (hL.below HBA.out) rfl (Nat.le_refl _) (by unfold maxLen;omega) hK.rd (fun n hn=>by rw[List.mem_singleton.1 hn];exact⟨Nat.zero_le _,Nat.zero_le _⟩));rw[check_name] at HC;generalize nameOk s=q at*;clear hL hK;cases q
 ·go_enter Tryz.func6,Tryz.ntmps6;go_wp2_with fail;simp only[←hW,←hB]
  refine HC.out.mono ?_;rintro e w5 ⟨rfl,hb5⟩;have HB5:=Lib.hid (bstep HBA.out hb5);clear hb5 hW hB;go_wp2;go_ret;exact⟨rfl,HB5.out⟩
 ·go_enter Tryz.func6,Tryz.ntmps6;go_wp2_with fail;simp only[←hW,←hB]
  refine HC.out.mono ?_;rintro e w5 ⟨rfl,hb5⟩;have HB5:=Lib.hid (bstep HBA.out hb5);clear hb5 hW hB;go_wp2;go_ret;exact⟨rfl,HB5.out⟩
def okC (k:Nat) (c:UInt8):Bool:=letterC c||(decide (0<k)&&(decide (c.toNat=95)||digitC c))
def okAll (l:List UInt8) (k:Nat):Bool:=(l.take k).zipIdx.all fun x=>okC x.2 x.1
theorem okAll_succ (l:List UInt8) (k:Nat) (h:k<l.length):okAll l (k+1)=(okAll l k&&okC k l[k]):=by
 unfold okAll;rw[List.take_succ_eq_append_getElem h,List.zipIdx_append,List.all_append];simp[Nat.min_eq_left (Nat.le_of_lt h)]
theorem zip_all (l:List UInt8):∀k,0<k→((l.zipIdx k).all fun x=>okC x.2 x.1)=l.all nameC:=by
 induction l with
 |nil=>intro k _;rfl
 |cons c l ih=>
  intro k hk;rw[List.zipIdx_cons,List.all_cons,List.all_cons,ih (k+1) (Nat.succ_pos _)];congr 1;show okC k c=nameC c;unfold okC nameC;rw[decide_eq_true hk];cases letterC c<;>cases digitC c<;>cases decide (c.toNat=95)<;>rfl
theorem okAll_name (l:List UInt8):(decide (1≤l.length)&&decide (l.length≤20)&&okAll l l.length)=nameB l:=by
 unfold okAll nameB;rw[List.take_length];cases l with
 |nil=>rfl
 |cons c l=>
  rw[List.zipIdx_cons,List.all_cons,zip_all l (0+1) (by omega),List.all_cons];have h0:okC 0 c=letterC c:=by unfold okC;simp
  have h1:decide (1≤(c::l).length)=true:=by simp
  rw[h1];simp only[h0]
  have h2:(letterC c&&nameC c)=letterC c:=by unfold nameC;cases letterC c<;>simp
  cases hl:letterC c
  ·simp
  ·simp[nameC,hl]
theorem nshort_any (s:ByteArray) (w:World):Calls Tryz.prog 5 #[.string s] w fun e w'=>e=.returned (.string (s.extract 0 (min s.size 25)))∧w'=w:=by
 by_cases h:s.size≤25
 ·have hm:min (s.size:Int) 25=s.size:=by omega
  have hn:min s.size 25=s.size:=by omega
  rw[hn];go_enter Tryz.func5,Tryz.ntmps5;go_wp2;go_ret;exact⟨by simp,rfl⟩
 ·have hm:min (s.size:Int) 25=25:=by omega
  have hn:min s.size 25=25:=by omega
  have hle:(25:Int)≤s.size:=by omega
  rw[hn];go_enter Tryz.func5,Tryz.ntmps5;go_wp2;go_ret;exact⟨rfl,rfl⟩
set_option maxRecDepth 100000 in
set_option maxHeartbeats 6400000 in
theorem names_core (t s:ByteArray) (hS:∀W,Calls Tryz.prog 5 #[.string t] W fun e w'=>e=.returned (.string s)∧w'=W) (h25:s.size≤25) (w:World) (hL:LaidK w)
  (hY:Calls Tryz.prog 4 #[] w fun e w'=>e=.returned (.bool true)∧Below w.heap.size w w'):
  Calls Tryz.prog 3 #[.string t] w fun e w'=>e=.returned (.bool true)∧Below w.heap.size w w':=by
 have HS:=Lib.hid hS;have HY:=Lib.hid hY;have HN:Hid (∀W,Below w.heap.size w W→Calls Tryz.prog 6 #[.string s] W fun e w'=>e=.returned (.bool (nameB s.data.toList))∧Below W.heap.size W w'):=fun W hb=>uName_any s W (hL.below hb).e
 have hls:s.data.toList.length=s.size:=by simp
 have HOK:=Lib.hid (okAll_name s.data.toList);rw[hls] at HOK;obtain⟨b0,hb0⟩:∃b0,(decide (1≤s.size)&&decide (s.size≤20))=b0:=⟨_,rfl⟩
 rw[hb0] at HOK;have HB0:=Lib.hid hb0;have HLS:=Lib.hid hls;clear hS hY hL hls hb0;go_enter Tryz.func3,Tryz.ntmps3;go_wp2_with fail;refine HY.out.mono ?_;rintro e w1 ⟨rfl,hb1⟩;have HB1:=Lib.hid hb1;clear hb1;go_wp2_with fail;refine (HS.out w1).mono ?_;rintro e w2 ⟨rfl,hw2⟩;have hw3:=hw2.symm;clear hw2;subst hw3
 go_upto_region 3 with fail
 go_cut [4] from 10 to 17 (fun v wc=>v=.bool b0∧wc=w1)
 case first=>
  by_cases h1:1≤s.size
  ·have h1':(1:Int)≤s.size:=by omega
   by_cases h2:s.size≤20
   ·have h2':(s.size:Int)≤20:=by omega
    have hb:b0=true:=by rw[←HB0.out,decide_eq_true h1,decide_eq_true h2];rfl
    subst hb;go_wp2
    go_meet
    case rel=>exact⟨rfl,rfl⟩
   ·have h2':¬(s.size:Int)≤20:=by omega
    have hb:b0=false:=by rw[←HB0.out,decide_eq_false h2,Bool.and_false]
    subst hb;go_wp2
    go_meet
    case rel=>exact⟨rfl,rfl⟩
  ·have h1':¬(1:Int)≤s.size:=by omega
   have hb:b0=false:=by rw[←HB0.out,decide_eq_false h1,Bool.false_and]
   subst hb;go_wp2
   go_meet
   case rel=>exact⟨rfl,rfl⟩
 case rest=>
  obtain⟨rfl,rfl⟩:=hcut;go_wp2_with fail
  go_loopg [4,5] s.size (fun q bv iv wr=>∃i:Nat,i+q=s.size∧bv=.bool (b0&&okAll s.data.toList i)∧iv=.int .i64 i∧wr=wc)
  case atStart=>exact⟨0,by omega,by show _=Value.bool (b0&&okAll s.data.toList 0);rw[show okAll s.data.toList 0=true from rfl,Bool.and_true],rfl,rfl⟩
  case round=>
   obtain⟨i,hi,rfl,rfl,rfl⟩:=hrel;by_cases hlt:i<s.size
   ·have hlt':(i:Int)<s.size:=by omega
    have hi25:(i:Int)≤25:=by omega
    have hln:i<s.data.toList.length:=by simpa using hlt
    have HW0:(b0&&okAll s.data.toList (i+1))=((b0&&okAll s.data.toList i)&&okC i (s[i]'hlt)):=by
     rw[okAll_succ _ _ hln,Bool.and_assoc];rfl
    obtain⟨wv,hwv⟩:∃wv,(b0&&okAll s.data.toList i)=wv:=⟨_,rfl⟩
    rw[hwv] at HW0⊢;have HW:=Lib.hid HW0;clear HW0 hwv hln HOK HB0 HLS;have hc255:(s[i].toNat:Int)≤255:=by have:=s[i].toNat_lt;omega
    have hc0:0≤(s[i].toNat:Int):=Int.natCast_nonneg _;by_cases h97:97≤(s[i].toNat:Int)
    ·by_cases h122:(s[i].toNat:Int)≤122
     ·have HO:Hid (okC i s[i]=true):=by show _=_;unfold okC letterC;rw[decide_eq_true (show 97≤s[i].toNat by omega),decide_eq_true (show s[i].toNat≤122 by omega)];rfl
      cases wv
      ·go_wp2
       go_roundg (s.size-(i+1))
       case measure=>omega
       case rel=>exact⟨i+1,by omega,by rw[HW.out,HO.out];rfl,by go_num,rfl⟩
      ·go_wp2
       go_roundg (s.size-(i+1))
       case measure=>omega
       case rel=>exact⟨i+1,by omega,by rw[HW.out,HO.out];rfl,by go_num,rfl⟩
     ·have HL:letterC s[i]=false:=by unfold letterC;rw[decide_eq_false (show ¬s[i].toNat≤122 by omega),Bool.and_false]
      have h95:¬(s[i].toNat:Int)=95:=by omega
      have h95b:((s[i].toNat:Int)==95)=false:=beq_eq_false_iff_ne.2 h95;have h48:48≤(s[i].toNat:Int):=by omega
      have h57:¬(s[i].toNat:Int)≤57:=by omega
      have HO:Hid (okC i s[i]=false):=by
       show _=_;unfold okC digitC;rw[HL,decide_eq_false (show ¬s[i].toNat=95 by omega),decide_eq_false (show ¬s[i].toNat≤57 by omega),Bool.and_false];simp
      clear HL;by_cases hi0:(0:Int)<i
      ·cases wv
       ·go_wp2
        go_roundg (s.size-(i+1))
        case measure=>omega
        case rel=>exact⟨i+1,by omega,by rw[HW.out,HO.out];rfl,by go_num,rfl⟩
       ·go_wp2
        go_roundg (s.size-(i+1))
        case measure=>omega
        case rel=>exact⟨i+1,by omega,by rw[HW.out,HO.out];rfl,by go_num,rfl⟩
      ·cases wv
       ·go_wp2
        go_roundg (s.size-(i+1))
        case measure=>omega
        case rel=>exact⟨i+1,by omega,by rw[HW.out,HO.out];rfl,by go_num,rfl⟩
       ·go_wp2
        go_roundg (s.size-(i+1))
        case measure=>omega
        case rel=>exact⟨i+1,by omega,by rw[HW.out,HO.out];rfl,by go_num,rfl⟩
    ·have HL:Hid (letterC s[i]=false):=by show _=_;unfold letterC;rw[decide_eq_false (show ¬97≤s[i].toNat by omega),Bool.false_and]
     by_cases hi0:(0:Int)<i
     ·have hd:decide (0<i)=true:=decide_eq_true (by omega);have HD:=Lib.hid hd;clear hd;by_cases h95:(s[i].toNat:Int)=95
      ·have HO:Hid (okC i s[i]=true):=by show _=_;unfold okC;rw[HL.out,HD.out,decide_eq_true (show s[i].toNat=95 by omega)];rfl
       cases wv
       ·go_wp2
        go_roundg (s.size-(i+1))
        case measure=>omega
        case rel=>exact⟨i+1,by omega,by rw[HW.out,HO.out];rfl,by go_num,rfl⟩
       ·go_wp2
        go_roundg (s.size-(i+1))
        case measure=>omega
        case rel=>exact⟨i+1,by omega,by rw[HW.out,HO.out];rfl,by go_num,rfl⟩
      ·have h95b:((s[i].toNat:Int)==95)=false:=beq_eq_false_iff_ne.2 h95;by_cases h48:48≤(s[i].toNat:Int)
       ·by_cases h57:(s[i].toNat:Int)≤57
        ·have HO:Hid (okC i s[i]=true):=by show _=_;unfold okC digitC;rw[HL.out,HD.out,decide_eq_false (show ¬s[i].toNat=95 by omega),decide_eq_true (show 48≤s[i].toNat by omega),decide_eq_true (show s[i].toNat≤57 by omega)];rfl
         cases wv
         ·go_wp2
          go_roundg (s.size-(i+1))
          case measure=>omega
          case rel=>exact⟨i+1,by omega,by rw[HW.out,HO.out];rfl,by go_num,rfl⟩
         ·go_wp2
          go_roundg (s.size-(i+1))
          case measure=>omega
          case rel=>exact⟨i+1,by omega,by rw[HW.out,HO.out];rfl,by go_num,rfl⟩
        ·have HO:Hid (okC i s[i]=false):=by show _=_;unfold okC digitC;rw[HL.out,decide_eq_false (show ¬s[i].toNat=95 by omega),decide_eq_false (show ¬s[i].toNat≤57 by omega),Bool.and_false];simp
         cases wv
         ·go_wp2
          go_roundg (s.size-(i+1))
          case measure=>omega
          case rel=>exact⟨i+1,by omega,by rw[HW.out,HO.out];rfl,by go_num,rfl⟩
         ·go_wp2
          go_roundg (s.size-(i+1))
          case measure=>omega
          case rel=>exact⟨i+1,by omega,by rw[HW.out,HO.out];rfl,by go_num,rfl⟩
       ·have HO:Hid (okC i s[i]=false):=by show _=_;unfold okC digitC;rw[HL.out,decide_eq_false (show ¬s[i].toNat=95 by omega),decide_eq_false (show ¬48≤s[i].toNat by omega),Bool.false_and];simp
        cases wv
        ·go_wp2
         go_roundg (s.size-(i+1))
         case measure=>omega
         case rel=>exact⟨i+1,by omega,by rw[HW.out,HO.out];rfl,by go_num,rfl⟩
        ·go_wp2
         go_roundg (s.size-(i+1))
         case measure=>omega
         case rel=>exact⟨i+1,by omega,by rw[HW.out,HO.out];rfl,by go_num,rfl⟩
     ·have HO:Hid (okC i s[i]=false):=by show _=_;unfold okC;rw[HL.out,decide_eq_false (show ¬0<i by omega)];rfl
      cases wv
      ·go_wp2
       go_roundg (s.size-(i+1))
       case measure=>omega
       case rel=>exact⟨i+1,by omega,by rw[HW.out,HO.out];rfl,by go_num,rfl⟩
      ·go_wp2
       go_roundg (s.size-(i+1))
       case measure=>omega
       case rel=>exact⟨i+1,by omega,by rw[HW.out,HO.out];rfl,by go_num,rfl⟩
   ·have hin:i=s.size:=by omega
    subst hin;rw[HOK.out];generalize nameB s.data.toList=nb at*;go_wp2_with fail;refine (HN.out wr HB1.out).mono ?_;rintro e w5 ⟨rfl,hb5⟩;have HB5:=Lib.hid (bstep HB1.out hb5);cases nb
    ·go_wp2;go_ret;exact⟨rfl,HB5.out⟩
    ·go_wp2;go_ret;exact⟨rfl,HB5.out⟩
theorem any_not {α:Type} (p:α→Bool) (l:List α):(l.any fun x=> !p x)= !l.all p:=by
 induction l with
 |nil=>rfl
 |cons a l ih=>rw[List.any_cons,List.all_cons,ih,Bool.not_and]
theorem any_fst {α β:Type} (p:α→Bool) {l:List (α × β)} {l':List α} (h:l.map Prod.fst=l'):(l.any fun x=> !p x.1)= !l'.all p:=by
 subst h;rw[any_not (fun x:α × β=>p x.1),List.all_map];rfl
set_option maxHeartbeats 800000 in
theorem uTyped_any (l:Lw) (ss:List (Sc × Hd)) (ps:List (Pv × Hd)) (f s p:Hd) (w:World) (h:LawAt w l ss ps f s p):
  Calls Tryz.prog 23 #[lawV f s p] w fun e w'=>e=.returned (.bool (typedL l))∧Below w.heap.size w w':=by
 have HA:=Lib.hid (fun W hb=>conDc_at l.facts f W (h.below (w':=W) hb).f);have HP:=Lib.hid (fun W hb=>conPv_at ps p W (h.below (w':=W) hb).p);have HS:=Lib.hid (fun W hb=>conSc_at ss s W (h.below (w':=W) hb).s)
 have HT:Hid (typedL l=(!(l.facts.any fun x=> !rightB x.ty)&&(!(ps.any fun x=> !rightB x.1.ty)&& !(ss.any fun x=> !unitB x.1.money x.1.days)))):=by
  show _=_;rw[any_not (fun x:Dc=>rightB x.ty),any_fst (fun x:Pv=>rightB x.ty) h.pl,any_fst (fun x:Sc=>unitB x.money x.days) h.sl,Bool.not_not,Bool.not_not,Bool.not_not];rfl
 rw[HT.out];generalize (l.facts.any fun x=> !rightB x.ty)=a at*;generalize (ps.any fun x=> !rightB x.1.ty)=b at*;generalize (ss.any fun x=> !unitB x.1.money x.1.days)=c at*;clear HT h;obtain⟨fa,fn,fc⟩:=f;obtain⟨sa,sn,sc⟩:=s;obtain⟨pa,pn,pc⟩:=p;unfold lawV;simp only at HA HP HS⊢;obtain⟨W,hW⟩:∃W,W=w.alloc (.cells #[.slice fa fn fc,.slice sa sn sc,.slice pa pn pc] 29):=⟨_,rfl⟩
 obtain⟨B,hB⟩:∃B,B=w.heap.size:=⟨_,rfl⟩
 have HK:Hid (Blk W B 29 [.slice fa fn fc,.slice sa sn sc,.slice pa pn pc]):=by show Blk _ _ _ _;rw[hW,hB];exact Blk.new w _ _
 have HBA:Hid (Below w.heap.size w W):=by show Below _ _ _;rw[hW];exact (Below.refl _ _).alloc (Nat.le_refl _) _
 have hkc:=HK.out.cells;cases a
 ·cases b
  ·go_enter Tryz.func23,Tryz.ntmps23
   go_upto_region 1 with fail
   simp only[←hW,←hB]
   clear hW hB;go_wp2_with fail;refine (HA.out W HBA.out).mono ?_;rintro e w5 ⟨rfl,hb5⟩;have HB5:=Lib.hid (bstep HBA.out hb5);have HK5:=Lib.hid (HK.out.below hb5 HK.out.lt);have hk5:=HK5.out.cells;clear hb5;go_wp2_with fail;refine (HP.out w5 HB5.out).mono ?_;rintro e w6 ⟨rfl,hb6⟩;have HB6:=Lib.hid (bstep HB5.out hb6);have hk6:=(HK5.out.below hb6 HK5.out.lt).cells;clear hb6;go_wp2_with fail;refine (HS.out w6 HB6.out).mono ?_;rintro e w7 ⟨rfl,hb7⟩;have HB7:=Lib.hid (bstep HB6.out hb7);clear hb7;go_wp2;go_ret;exact⟨by simp,HB7.out⟩
  ·go_enter Tryz.func23,Tryz.ntmps23
   go_upto_region 1 with fail
   simp only[←hW,←hB]
   clear hW hB;go_wp2_with fail;refine (HA.out W HBA.out).mono ?_;rintro e w5 ⟨rfl,hb5⟩;have HB5:=Lib.hid (bstep HBA.out hb5);have HK5:=Lib.hid (HK.out.below hb5 HK.out.lt);have hk5:=HK5.out.cells;clear hb5;go_wp2_with fail;refine (HP.out w5 HB5.out).mono ?_;rintro e w6 ⟨rfl,hb6⟩;have HB6:=Lib.hid (bstep HB5.out hb6);clear hb6;go_wp2;go_ret;exact⟨by simp,HB6.out⟩
 ·go_enter Tryz.func23,Tryz.ntmps23
  go_upto_region 1 with fail
  simp only[←hW,←hB]
  clear hW hB;go_wp2_with fail;refine (HA.out W HBA.out).mono ?_;rintro e w5 ⟨rfl,hb5⟩;have HB5:=Lib.hid (bstep HBA.out hb5);clear hb5;go_wp2;go_ret;exact⟨by simp,HB5.out⟩
theorem fits_size {a:Ra} (h:fitsR a=true):okR a=true∧a.num.size≤50∧a.den.size≤50:=by
 unfold fitsR at h;simp only[Bool.and_eq_true,decide_eq_true_eq] at h;obtain⟨⟨h1,h2⟩,h3⟩:=h;obtain⟨p1,p2,p3,p4⟩:=okR_prts h1
 have key:∀L n,bitsN n≤8*L→n<256 ^ L:=fun L n hn=>by
  unfold bitsN at hn;rw[show (256:Nat)=2 ^ 8 from rfl,←Nat.pow_mul];split at hn
  ·next h0=>rw[h0];exact Nat.pow_pos (by omega)
  ·next h0=>exact (Nat.log2_lt h0 (k:=8*L)).1 (by omega)
 refine⟨h1,?_,?_⟩
 ·rw[←nb_ok p3];exact nbs_size_le _ 50 (key 50 _ h2)
 ·rw[←nb_ok p1];exact nbs_size_le _ 50 (key 50 _ h3)
theorem sign_pos {a:Ra} (h:0<signR a):a.num≠⟨#[]⟩:=by
 intro e;unfold signR at h;split at h
 ·next h1=>
  split at h
  ·cases h
  ·next h2=>
   split at h
   ·cases h
   ·next h3=>
    obtain⟨p1,p2,p3,p4⟩:=okR_prts h1;refine h2 ?_;rw[←p4,e];unfold low ofI;have e0:vbs ⟨#[]⟩=0:=rfl;rw[e0,Nat.gcd_zero_left,Nat.zero_div,Nat.div_self p2];simp
 ·cases h
theorem fld_den (x:Bool) (y z:ByteArray) (w:World):(Instr.field 46 (.agg #[.bool x,.string y,.string z]) 2).run Tryz.prog w=.ok (.string z) w:=by kernel_rfl
set_option maxHeartbeats 800000 in
theorem uPlain_any (x:Pv × Hd) (w:World):Calls Tryz.prog 41 #[.agg (pvCells x).toArray] w fun e w'=>e=.returned (.bool (plainP x.1))∧Below w.heap.size w w':=by
 have HP:Hid (plainP x.1=(decide (x.1.step=zR)&&decide (x.1.cap=zR))):=rfl;rw[HP.out];have HE1:=fun W=>eql_ra x.1.step zR W
 have HE2:=fun W=>eql_ra x.1.cap zR W
 generalize decide (x.1.step=zR)=a at*;generalize decide (x.1.cap=zR)=b at*;clear HP;obtain⟨⟨nm,⟨tt,tm,td⟩,ch,⟨sn1,sn2,sn3⟩,⟨cn1,cn2,cn3⟩,bo⟩,⟨ha,hn,hcc⟩⟩:=x;unfold pvCells;simp only[Ra.v,zR] at HE1 HE2⊢;obtain⟨W,hW⟩:∃W,W=w.alloc (.cells #[.string nm,.bool tt,.int .i64 tm,.int .i64 td,.slice ha hn hcc,.bool ch,.bool sn1,.string sn2,.string sn3,.bool cn1,.string cn2,.string cn3] 48):=⟨_,rfl⟩
 obtain⟨B,hB⟩:∃B,B=w.heap.size:=⟨_,rfl⟩
 have HK:Hid (Blk W B 48 [.string nm,.bool tt,.int .i64 tm,.int .i64 td,.slice ha hn hcc,.bool ch,.bool sn1,.string sn2,.string sn3,.bool cn1,.string cn2,.string cn3]):=by show Blk _ _ _ _;rw[hW,hB];exact Blk.new w _ _
 have HBA:Hid (Below w.heap.size w W):=by show Below _ _ _;rw[hW];exact (Below.refl _ _).alloc (Nat.le_refl _) _
 have hkc:=HK.out.cells;cases a
 ·skip
  go_enter Tryz.func41,Tryz.ntmps41
  go_upto_region 1 with fail
  simp only[←hW,←hB]
  clear hW hB;go_wp2;go_ret;exact⟨by simp,HBA.out⟩
 ·skip
  go_enter Tryz.func41,Tryz.ntmps41
  go_upto_region 1 with fail
  simp only[←hW,←hB]
  clear hW hB;go_wp2;go_ret;exact⟨by simp,HBA.out⟩
set_option maxRecDepth 100000 in
set_option maxHeartbeats 3200000 in
theorem uCapped_any (x:Pv × Hd) (w:World) (hs:FineR x.1.step) (hc:FineR x.1.cap):Calls Tryz.prog 63 #[.agg (pvCells x).toArray] w fun e w'=>e=.returned (.bool (cappedP x.1))∧Below w.heap.size w w':=by
 obtain⟨s1,s2⟩:=hs;obtain⟨c1,c2⟩:=hc;have HP:Hid (cappedP x.1=(!x.1.ty.truth&&(fitsR x.1.step&&(fitsR x.1.cap&&(decide (0<signR x.1.step)&&(decide ((quoR x.1.cap x.1.step).1.den=(ofI 1).den)&&(decide (0<signR (quoR x.1.cap x.1.step).1)&&decide (cmpR (quoR x.1.cap x.1.step).1 (ofI 200)≤0)))))))):=rfl;rw[HP.out];have HF1:=Lib.hid (fun W=>mFits_any x.1.step W (by omega) (by omega));have HF2:=Lib.hid (fun W=>mFits_any x.1.cap W (by omega) (by omega));have HS1:=Lib.hid (fun W=>qSign_any x.1.step W (by omega) (by omega));have HZ1:=Lib.hid (fun h:fitsR x.1.step=true=>fits_size h);have HZ2:=Lib.hid (fun h:fitsR x.1.cap=true=>fits_size h)
 have HQ:Hid (∀W,fitsR x.1.step=true→fitsR x.1.cap=true→0<signR x.1.step→Calls Tryz.prog 94 #[x.1.cap.v,x.1.step.v] W fun e w'=>e=.returned (.tuple #[(quoR x.1.cap x.1.step).1.v,.bool true])∧Below W.heap.size W w'):=fun W h1 h2 h3=>by
  obtain⟨p1,p2,p3⟩:=HZ1.out h1;obtain⟨q1,q2,q3⟩:=HZ2.out h2;exact qQuo_ok x.1.cap x.1.step W q1 p1 (sign_pos h3) 50 (by omega) q2 q3 p2 p3
 have HQZ:Hid (fitsR x.1.step=true→fitsR x.1.cap=true→0<signR x.1.step→okR (quoR x.1.cap x.1.step).1=true∧(quoR x.1.cap x.1.step).1.num.size≤100∧(quoR x.1.cap x.1.step).1.den.size≤100):=fun h1 h2 h3=>by
  obtain⟨p1,p2,p3⟩:=HZ1.out h1;obtain⟨q1,q2,q3⟩:=HZ2.out h2;have hz:=quoR_size x.1.cap x.1.step 50 q2 q3 p2 p3;refine⟨?_,hz.1,hz.2⟩;unfold quoR;rw[if_neg (sign_pos h3)];refine low_okR _ _ _ (Nat.mul_pos (okR_prts q1).2.1 ?_);exact vbs_pos (okR_prts p1).2.2.1 (sign_pos h3)
 have HO1:=Lib.hid (fun W=>qOf_any 1 W (by omega) (by omega));have HO2:=Lib.hid (fun W=>qOf_any 200 W (by omega) (by omega));generalize quoR x.1.cap x.1.step=q at*;obtain⟨⟨qn,qm,qd⟩,qb⟩:=q;simp only at HQ HQZ⊢;generalize fitsR x.1.step=f1 at*;generalize fitsR x.1.cap=f2 at*;generalize signR x.1.step=sg at*;clear HP HZ1 HZ2 s1 s2 c1 c2;obtain⟨⟨nm,⟨tt,tm,td⟩,ch,⟨sn1,sn2,sn3⟩,⟨cn1,cn2,cn3⟩,bo⟩,⟨ha,hn,hcc⟩⟩:=x;unfold pvCells;simp only[Ra.v] at HF1 HF2 HS1 HQ⊢;obtain⟨W,hW⟩:∃W,W=w.alloc (.cells #[.string nm,.bool tt,.int .i64 tm,.int .i64 td,.slice ha hn hcc,.bool ch,.bool sn1,.string sn2,.string sn3,.bool cn1,.string cn2,.string cn3] 48):=⟨_,rfl⟩
 obtain⟨B,hB⟩:∃B,B=w.heap.size:=⟨_,rfl⟩
 have HK:Hid (Blk W B 48 [.string nm,.bool tt,.int .i64 tm,.int .i64 td,.slice ha hn hcc,.bool ch,.bool sn1,.string sn2,.string sn3,.bool cn1,.string cn2,.string cn3]):=by show Blk _ _ _ _;rw[hW,hB];exact Blk.new w _ _
 have HBA:Hid (Below w.heap.size w W):=by show Below _ _ _;rw[hW];exact (Below.refl _ _).alloc (Nat.le_refl _) _
 have hkc:=HK.out.cells;cases tt
 ·cases f1
  ·skip
   go_enter Tryz.func63,Tryz.ntmps63
   go_upto_region 1 with fail
   simp only[←hW,←hB]
   clear hW hB;go_wp2_with fail;refine (HF1.out W).mono ?_;rintro e w5 ⟨rfl,hb5⟩;have HB5:=Lib.hid (bstep HBA.out hb5);clear hb5;go_wp2;go_ret;exact⟨by simp,HB5.out⟩
  cases f2
  ·skip
   go_enter Tryz.func63,Tryz.ntmps63
   go_upto_region 1 with fail
   simp only[←hW,←hB]
   clear hW hB;go_wp2_with fail;refine (HF1.out W).mono ?_;rintro e w5 ⟨rfl,hb5⟩;have HB5:=Lib.hid (bstep HBA.out hb5);have HK5:=Lib.hid (HK.out.below hb5 HK.out.lt);have hk5:=HK5.out.cells;clear hb5;go_wp2_with fail;refine (HF2.out w5).mono ?_;rintro e w6 ⟨rfl,hb6⟩;have HB6:=Lib.hid (bstep HB5.out hb6);clear hb6;go_wp2;go_ret;exact⟨by simp,HB6.out⟩
  by_cases hsg:0<sg
  ·have hsn:decide (sg≤0)=false:=decide_eq_false (by omega);have hdp:decide (0<sg)=true:=decide_eq_true hsg;rw[hdp];obtain⟨z1,z2,z3⟩:=HQZ.out rfl rfl hsg;have HQ2:=Lib.hid (fun W=>HQ.out W rfl rfl hsg);have HSG:=Lib.hid (fun W=>qSign_any ⟨qn,qm,qd⟩ W (Nat.le_trans z2 (by omega)) (Nat.le_trans z3 (by omega)));have HCM:=Lib.hid (fun W=>qCmp_ok ⟨qn,qm,qd⟩ (ofI 200) W z1 (by decide) 100 (by omega) z2 z3 (by decide) (by decide));simp only[Ra.v] at HSG HCM;generalize signR ⟨qn,qm,qd⟩=sq at*;generalize cmpR ⟨qn,qm,qd⟩ (ofI 200)=cq at*;obtain⟨dq,hdq⟩:∃dq,(qd.toList==(nbs 1).toList)=dq:=⟨_,rfl⟩
   have hdd:decide (qd=(ofI 1).den)=dq:=by rw[←hdq,beq_toList];rfl
   rw[hdd];clear hdd;have hfd:=fld_den;clear hsg z1 z2 z3 HQ HQZ hdp;go_enter Tryz.func63,Tryz.ntmps63
   go_upto_region 1 with fail
   simp only[←hW,←hB]
   clear hW hB;go_wp2_with fail;refine (HF1.out W).mono ?_;rintro e w5 ⟨rfl,hb5⟩;have HB5:=Lib.hid (bstep HBA.out hb5);have HK5:=Lib.hid (HK.out.below hb5 HK.out.lt);have hk5:=HK5.out.cells;clear hb5;go_wp2_with fail;refine (HF2.out w5).mono ?_;rintro e w6 ⟨rfl,hb6⟩;have HB6:=Lib.hid (bstep HB5.out hb6);have HK6:=Lib.hid (HK5.out.below hb6 HK5.out.lt);have hk6:=HK6.out.cells;clear hb6;go_wp2_with fail;refine (HS1.out w6).mono ?_;rintro e w8 ⟨rfl,hb8⟩;have HB8:=Lib.hid (bstep HB6.out hb8);have HK8:=Lib.hid (HK6.out.below hb8 HK6.out.lt);have hk8:=HK8.out.cells;clear hb8;go_wp2_with fail;refine (HQ2.out w8).mono ?_;rintro e w9 ⟨rfl,hb9⟩;have HB9:=Lib.hid (bstep HB8.out hb9);clear hb9
   go_upto_region 4 with fail
   obtain⟨w7,hw7⟩:∃x,x=w9.alloc (.cells #[.bool qn,.string qm,.string qd] 46):=⟨_,rfl⟩
   obtain⟨N,hN⟩:∃N,N=w9.heap.size:=⟨_,rfl⟩
   have HKN:Hid (Blk w7 N 46 [.bool qn,.string qm,.string qd]):=by show Blk _ _ _ _;rw[hw7,hN];exact Blk.new _ _ _
   have HB7:Hid (Below w.heap.size w w7):=by show Below _ _ _;rw[hw7];exact bstep HB9.out ((Below.refl _ _).alloc (Nat.le_refl _) _)
   simp only[←hw7,←hN]
   clear hw7 hN hkc hk5 hk6 hk8
   have HSS:Hid (∀W,Below w7.heap.size w7 W→Below w7.heap.size w7 W∧W.cell? ⟨N,0,none⟩=some (.bool qn)∧W.cell? ⟨N,1,none⟩=some (.string qm)∧W.cell? ⟨N,2,none⟩=some (.string qd)):=fun W hb=>
    ⟨hb,(hb.cell HKN.out.lt).trans (HKN.out.cells 0),(hb.cell HKN.out.lt).trans (HKN.out.cells 1),(hb.cell HKN.out.lt).trans (HKN.out.cells 2)⟩
   cases dq
   ·skip
    refine wp_region_noPanic ?_;refine wp_region_held_drew (S:=(fun w'=>Below w7.heap.size w7 w'∧w'.cell? ⟨N,0,none⟩=some (.bool qn)∧w'.cell? ⟨N,1,none⟩=some (.string qm)∧w'.cell? ⟨N,2,none⟩=some (.string qd))) (by kernel_rfl) (HSS.out _ (drewN_below w7.heap.size w7 1)) (fun hHeld=>?_);refine tkY 0 ?_ rfl ?_ ?_;rotate_left
    ·intro w hSw;(try dsimp only at hSw);go_simp
     all_goals with_reducible rfl
    try simp only[Act.put,tk1,tk2,tk3,tk4,tk5,tk6]
    refine tkY 1 ?_ rfl ?_ ?_;rotate_left
    ·intro w hSw;(try dsimp only at hSw);go_simp
     all_goals with_reducible rfl
    try simp only[Act.put,tk1,tk2,tk3,tk4,tk5,tk6]
    refine wpAnyH_ready (rs:=[2]) (by kernel_rfl) (by simp) ?_;refine AllReadyH.cons rfl (fun K hK=>?_) AllReadyH.nil;go_simp;have hbS:=hHeld.1;refine (HO1.out _).mono ?_;rintro e w10 ⟨rfl,hb10⟩;simp only[Ra.v,ofI]
    have HBT:=Lib.hid (bstep hbS hb10);go_wp2_with fail;refine hK.out _ _ ?_ (fun hHeld=>?_)
    ·exact HSS.out _ HBT.out
    clear hK K
    try simp only[Act.put,tk1,tk2,tk3,tk4,tk5,tk6]
    refine tkY 3 ?_ rfl ?_ ?_;rotate_left
    ·intro w hSw;(try dsimp only at hSw);go_simp
     all_goals with_reducible rfl
    try simp only[Act.put,tk1,tk2,tk3,tk4,tk5,tk6]
    refine tkY 4 (.bool false) rfl ?_ ?_
    ·intro w hSw;(try dsimp only at hSw);go_simp
     all_goals with_reducible rfl
    try simp only[Act.put,tk1,tk2,tk3,tk4,tk5,tk6]
    refine tkY 5 ?_ rfl ?_ ?_;rotate_left
    ·intro w hSw;(try dsimp only at hSw);go_simp
     all_goals with_reducible rfl
    try simp only[Act.put,tk1,tk2,tk3,tk4,tk5,tk6]
    refine tkN 6 rfl ?_
    try simp only[Act.put,tk1,tk2,tk3,tk4,tk5,tk6]
    refine tkN 7 rfl ?_
    try simp only[Act.put,tk1,tk2,tk3,tk4,tk5,tk6]
    refine tkN 8 rfl ?_
    try simp only[Act.put,tk1,tk2,tk3,tk4,tk5,tk6]
    refine tkY 9 ?_ rfl ?_ ?_;rotate_left
    ·intro w hSw;(try dsimp only at hSw);go_simp
     all_goals with_reducible rfl
    try simp only[Act.put,tk1,tk2,tk3,tk4,tk5,tk6]
    refine tkY 10 ?_ rfl ?_ ?_;rotate_left
    ·intro w hSw;(try dsimp only at hSw);go_simp
     all_goals with_reducible rfl
    try simp only[Act.put,tk1,tk2,tk3,tk4,tk5,tk6]
    refine tkN 11 rfl ?_
    try simp only[Act.put,tk1,tk2,tk3,tk4,tk5,tk6]
    refine tkN 12 rfl ?_
    try simp only[Act.put,tk1,tk2,tk3,tk4,tk5,tk6]
    refine tkN 13 rfl ?_
    try simp only[Act.put,tk1,tk2,tk3,tk4,tk5,tk6]
    refine tkN 14 rfl ?_
    try simp only[Act.put,tk1,tk2,tk3,tk4,tk5,tk6]
    refine tkY 15 ?_ rfl ?_ ?_;rotate_left
    ·intro w hSw;(try dsimp only at hSw);go_simp
     all_goals with_reducible rfl
    try simp only[Act.put,tk1,tk2,tk3,tk4,tk5,tk6]
    refine tkY 16 ?_ rfl ?_ ?_;rotate_left
    ·intro w hSw;(try dsimp only at hSw);go_simp
     all_goals with_reducible rfl
    try simp only[Act.put,tk1,tk2,tk3,tk4,tk5,tk6]
    refine wpAnyH_done (by kernel_rfl) ?_ _;refine NoPanic.normal ?_;go_wp2;go_ret;exact⟨by simp,bstep HB7.out HBT.out⟩
   by_cases hsq:0<sq
   ·have hsqd:decide (0<sq)=true:=decide_eq_true hsq;by_cases hcq:cq≤0
    ·have hcqd:decide (cq≤0)=true:=decide_eq_true hcq;refine wp_region_noPanic ?_;refine wp_region_held_drew (S:=(fun w'=>Below w7.heap.size w7 w'∧w'.cell? ⟨N,0,none⟩=some (.bool qn)∧w'.cell? ⟨N,1,none⟩=some (.string qm)∧w'.cell? ⟨N,2,none⟩=some (.string qd))) (by kernel_rfl) (HSS.out _ (drewN_below w7.heap.size w7 1)) (fun hHeld=>?_);refine tkY 0 ?_ rfl ?_ ?_;rotate_left
     ·intro w hSw;(try dsimp only at hSw);go_simp
      all_goals with_reducible rfl
     try simp only[Act.put,tk1,tk2,tk3,tk4,tk5,tk6]
     refine tkY 1 ?_ rfl ?_ ?_;rotate_left
     ·intro w hSw;(try dsimp only at hSw);go_simp
      all_goals with_reducible rfl
     try simp only[Act.put,tk1,tk2,tk3,tk4,tk5,tk6]
     refine wpAnyH_ready (rs:=[2]) (by kernel_rfl) (by simp) ?_;refine AllReadyH.cons rfl (fun K hK=>?_) AllReadyH.nil;go_simp;have hbS:=hHeld.1;refine (HO1.out _).mono ?_;rintro e w10 ⟨rfl,hb10⟩;simp only[Ra.v,ofI]
     have HBT:=Lib.hid (bstep hbS hb10);go_wp2_with fail;refine hK.out _ _ ?_ (fun hHeld=>?_)
     ·exact HSS.out _ HBT.out
     clear hK K
     try simp only[Act.put,tk1,tk2,tk3,tk4,tk5,tk6]
     refine tkY 3 ?_ rfl ?_ ?_;rotate_left
     ·intro w hSw;(try dsimp only at hSw);go_simp
      all_goals with_reducible rfl
     try simp only[Act.put,tk1,tk2,tk3,tk4,tk5,tk6]
     refine tkY 4 (.bool true) rfl ?_ ?_
     ·intro w hSw;(try dsimp only at hSw);go_simp
      all_goals with_reducible rfl
     try simp only[Act.put,tk1,tk2,tk3,tk4,tk5,tk6]
     refine tkY 5 ?_ rfl ?_ ?_;rotate_left
     ·intro w hSw;(try dsimp only at hSw);go_simp
      all_goals with_reducible rfl
     try simp only[Act.put,tk1,tk2,tk3,tk4,tk5,tk6]
     refine tkY 6 ?_ rfl ?_ ?_;rotate_left
     ·intro w hSw;(try dsimp only at hSw);go_simp
      all_goals with_reducible rfl
     try simp only[Act.put,tk1,tk2,tk3,tk4,tk5,tk6]
     refine wpAnyH_ready (rs:=[7]) (by kernel_rfl) (by simp) ?_;refine AllReadyH.cons rfl (fun K hK=>?_) AllReadyH.nil;go_simp;have hbS:=hHeld.1;refine (HSG.out _).mono ?_;rintro e w10 ⟨rfl,hb10⟩;simp only[Ra.v,ofI]
     have HBT:=Lib.hid (bstep hbS hb10);go_wp2_with fail;refine hK.out _ _ ?_ (fun hHeld=>?_)
     ·exact HSS.out _ HBT.out
     clear hK K
     try simp only[Act.put,tk1,tk2,tk3,tk4,tk5,tk6]
     refine tkY 8 ?_ rfl ?_ ?_;rotate_left
     ·intro w hSw;(try dsimp only at hSw);go_simp
      all_goals with_reducible rfl
     try simp only[Act.put,tk1,tk2,tk3,tk4,tk5,tk6]
     refine tkY 9 ?_ rfl ?_ ?_;rotate_left
     ·intro w hSw;(try dsimp only at hSw);go_simp
      all_goals with_reducible rfl
     try simp only[Act.put,tk1,tk2,tk3,tk4,tk5,tk6]
     refine tkY 10 ?_ rfl ?_ ?_;rotate_left
     ·intro w hSw;(try dsimp only at hSw);go_simp
      all_goals with_reducible rfl
     try simp only[Act.put,tk1,tk2,tk3,tk4,tk5,tk6]
     refine tkY 11 ?_ rfl ?_ ?_;rotate_left
     ·intro w hSw;(try dsimp only at hSw);go_simp
      all_goals with_reducible rfl
     try simp only[Act.put,tk1,tk2,tk3,tk4,tk5,tk6]
     refine wpAnyH_ready (rs:=[12]) (by kernel_rfl) (by simp) ?_;refine AllReadyH.cons rfl (fun K hK=>?_) AllReadyH.nil;go_simp;have hbS:=hHeld.1;refine (HO2.out _).mono ?_;rintro e w10 ⟨rfl,hb10⟩;simp only[Ra.v,ofI]
     have HBT:=Lib.hid (bstep hbS hb10);go_wp2_with fail;refine hK.out _ _ ?_ (fun hHeld=>?_)
     ·exact HSS.out _ HBT.out
     clear hK K
     try simp only[Act.put,tk1,tk2,tk3,tk4,tk5,tk6]
     refine wpAnyH_ready (rs:=[13]) (by kernel_rfl) (by simp) ?_;refine AllReadyH.cons rfl (fun K hK=>?_) AllReadyH.nil;go_simp;have hbS:=hHeld.1;refine (HCM.out _).mono ?_;rintro e w10 ⟨rfl,hb10⟩;simp only[Ra.v,ofI]
     have HBT:=Lib.hid (bstep hbS hb10);go_wp2_with fail;refine hK.out _ _ ?_ (fun hHeld=>?_)
     ·exact HSS.out _ HBT.out
     clear hK K
     try simp only[Act.put,tk1,tk2,tk3,tk4,tk5,tk6]
     refine tkY 14 ?_ rfl ?_ ?_;rotate_left
     ·intro w hSw;(try dsimp only at hSw);go_simp
      all_goals with_reducible rfl
     try simp only[Act.put,tk1,tk2,tk3,tk4,tk5,tk6]
     refine tkY 15 ?_ rfl ?_ ?_;rotate_left
     ·intro w hSw;(try dsimp only at hSw);go_simp
      all_goals with_reducible rfl
     try simp only[Act.put,tk1,tk2,tk3,tk4,tk5,tk6]
     refine tkY 16 ?_ rfl ?_ ?_;rotate_left
     ·intro w hSw;(try dsimp only at hSw);go_simp
      all_goals with_reducible rfl
     try simp only[Act.put,tk1,tk2,tk3,tk4,tk5,tk6]
     refine wpAnyH_done (by kernel_rfl) ?_ _;refine NoPanic.normal ?_;go_wp2;go_ret;exact⟨by simp[hsqd,hcqd],bstep HB7.out HBT.out⟩
    ·have hcqd:decide (cq≤0)=false:=decide_eq_false hcq;refine wp_region_noPanic ?_;refine wp_region_held_drew (S:=(fun w'=>Below w7.heap.size w7 w'∧w'.cell? ⟨N,0,none⟩=some (.bool qn)∧w'.cell? ⟨N,1,none⟩=some (.string qm)∧w'.cell? ⟨N,2,none⟩=some (.string qd))) (by kernel_rfl) (HSS.out _ (drewN_below w7.heap.size w7 1)) (fun hHeld=>?_);refine tkY 0 ?_ rfl ?_ ?_;rotate_left
     ·intro w hSw;(try dsimp only at hSw);go_simp
      all_goals with_reducible rfl
     try simp only[Act.put,tk1,tk2,tk3,tk4,tk5,tk6]
     refine tkY 1 ?_ rfl ?_ ?_;rotate_left
     ·intro w hSw;(try dsimp only at hSw);go_simp
      all_goals with_reducible rfl
     try simp only[Act.put,tk1,tk2,tk3,tk4,tk5,tk6]
     refine wpAnyH_ready (rs:=[2]) (by kernel_rfl) (by simp) ?_;refine AllReadyH.cons rfl (fun K hK=>?_) AllReadyH.nil;go_simp;have hbS:=hHeld.1;refine (HO1.out _).mono ?_;rintro e w10 ⟨rfl,hb10⟩;simp only[Ra.v,ofI]
     have HBT:=Lib.hid (bstep hbS hb10);go_wp2_with fail;refine hK.out _ _ ?_ (fun hHeld=>?_)
     ·exact HSS.out _ HBT.out
     clear hK K
     try simp only[Act.put,tk1,tk2,tk3,tk4,tk5,tk6]
     refine tkY 3 ?_ rfl ?_ ?_;rotate_left
     ·intro w hSw;(try dsimp only at hSw);go_simp
      all_goals with_reducible rfl
     try simp only[Act.put,tk1,tk2,tk3,tk4,tk5,tk6]
     refine tkY 4 (.bool true) rfl ?_ ?_
     ·intro w hSw;(try dsimp only at hSw);go_simp
      all_goals with_reducible rfl
     try simp only[Act.put,tk1,tk2,tk3,tk4,tk5,tk6]
     refine tkY 5 ?_ rfl ?_ ?_;rotate_left
     ·intro w hSw;(try dsimp only at hSw);go_simp
      all_goals with_reducible rfl
     try simp only[Act.put,tk1,tk2,tk3,tk4,tk5,tk6]
     refine tkY 6 ?_ rfl ?_ ?_;rotate_left
     ·intro w hSw;(try dsimp only at hSw);go_simp
      all_goals with_reducible rfl
     try simp only[Act.put,tk1,tk2,tk3,tk4,tk5,tk6]
     refine wpAnyH_ready (rs:=[7]) (by kernel_rfl) (by simp) ?_;refine AllReadyH.cons rfl (fun K hK=>?_) AllReadyH.nil;go_simp;have hbS:=hHeld.1;refine (HSG.out _).mono ?_;rintro e w10 ⟨rfl,hb10⟩;simp only[Ra.v,ofI]
     have HBT:=Lib.hid (bstep hbS hb10);go_wp2_with fail;refine hK.out _ _ ?_ (fun hHeld=>?_)
     ·exact HSS.out _ HBT.out
     clear hK K
     try simp only[Act.put,tk1,tk2,tk3,tk4,tk5,tk6]
     refine tkY 8 ?_ rfl ?_ ?_;rotate_left
     ·intro w hSw;(try dsimp only at hSw);go_simp
      all_goals with_reducible rfl
     try simp only[Act.put,tk1,tk2,tk3,tk4,tk5,tk6]
     refine tkY 9 ?_ rfl ?_ ?_;rotate_left
     ·intro w hSw;(try dsimp only at hSw);go_simp
      all_goals with_reducible rfl
     try simp only[Act.put,tk1,tk2,tk3,tk4,tk5,tk6]
     refine tkY 10 ?_ rfl ?_ ?_;rotate_left
     ·intro w hSw;(try dsimp only at hSw);go_simp
      all_goals with_reducible rfl
     try simp only[Act.put,tk1,tk2,tk3,tk4,tk5,tk6]
     refine tkY 11 ?_ rfl ?_ ?_;rotate_left
     ·intro w hSw;(try dsimp only at hSw);go_simp
      all_goals with_reducible rfl
     try simp only[Act.put,tk1,tk2,tk3,tk4,tk5,tk6]
     refine wpAnyH_ready (rs:=[12]) (by kernel_rfl) (by simp) ?_;refine AllReadyH.cons rfl (fun K hK=>?_) AllReadyH.nil;go_simp;have hbS:=hHeld.1;refine (HO2.out _).mono ?_;rintro e w10 ⟨rfl,hb10⟩;simp only[Ra.v,ofI]
     have HBT:=Lib.hid (bstep hbS hb10);go_wp2_with fail;refine hK.out _ _ ?_ (fun hHeld=>?_)
     ·exact HSS.out _ HBT.out
     clear hK K
     try simp only[Act.put,tk1,tk2,tk3,tk4,tk5,tk6]
     refine wpAnyH_ready (rs:=[13]) (by kernel_rfl) (by simp) ?_;refine AllReadyH.cons rfl (fun K hK=>?_) AllReadyH.nil;go_simp;have hbS:=hHeld.1;refine (HCM.out _).mono ?_;rintro e w10 ⟨rfl,hb10⟩;simp only[Ra.v,ofI]
     have HBT:=Lib.hid (bstep hbS hb10);go_wp2_with fail;refine hK.out _ _ ?_ (fun hHeld=>?_)
     ·exact HSS.out _ HBT.out
     clear hK K
     try simp only[Act.put,tk1,tk2,tk3,tk4,tk5,tk6]
     refine tkY 14 ?_ rfl ?_ ?_;rotate_left
     ·intro w hSw;(try dsimp only at hSw);go_simp
      all_goals with_reducible rfl
     try simp only[Act.put,tk1,tk2,tk3,tk4,tk5,tk6]
     refine tkY 15 ?_ rfl ?_ ?_;rotate_left
     ·intro w hSw;(try dsimp only at hSw);go_simp
      all_goals with_reducible rfl
     try simp only[Act.put,tk1,tk2,tk3,tk4,tk5,tk6]
     refine tkY 16 ?_ rfl ?_ ?_;rotate_left
     ·intro w hSw;(try dsimp only at hSw);go_simp
      all_goals with_reducible rfl
     try simp only[Act.put,tk1,tk2,tk3,tk4,tk5,tk6]
     refine wpAnyH_done (by kernel_rfl) ?_ _;refine NoPanic.normal ?_;go_wp2;go_ret;exact⟨by simp[hsqd,hcqd],bstep HB7.out HBT.out⟩
   ·have hsqd:decide (0<sq)=false:=decide_eq_false hsq;refine wp_region_noPanic ?_;refine wp_region_held_drew (S:=(fun w'=>Below w7.heap.size w7 w'∧w'.cell? ⟨N,0,none⟩=some (.bool qn)∧w'.cell? ⟨N,1,none⟩=some (.string qm)∧w'.cell? ⟨N,2,none⟩=some (.string qd))) (by kernel_rfl) (HSS.out _ (drewN_below w7.heap.size w7 1)) (fun hHeld=>?_);refine tkY 0 ?_ rfl ?_ ?_;rotate_left
    ·intro w hSw;(try dsimp only at hSw);go_simp
     all_goals with_reducible rfl
    try simp only[Act.put,tk1,tk2,tk3,tk4,tk5,tk6]
    refine tkY 1 ?_ rfl ?_ ?_;rotate_left
    ·intro w hSw;(try dsimp only at hSw);go_simp
     all_goals with_reducible rfl
    try simp only[Act.put,tk1,tk2,tk3,tk4,tk5,tk6]
    refine wpAnyH_ready (rs:=[2]) (by kernel_rfl) (by simp) ?_;refine AllReadyH.cons rfl (fun K hK=>?_) AllReadyH.nil;go_simp;have hbS:=hHeld.1;refine (HO1.out _).mono ?_;rintro e w10 ⟨rfl,hb10⟩;simp only[Ra.v,ofI]
    have HBT:=Lib.hid (bstep hbS hb10);go_wp2_with fail;refine hK.out _ _ ?_ (fun hHeld=>?_)
    ·exact HSS.out _ HBT.out
    clear hK K
    try simp only[Act.put,tk1,tk2,tk3,tk4,tk5,tk6]
    refine tkY 3 ?_ rfl ?_ ?_;rotate_left
    ·intro w hSw;(try dsimp only at hSw);go_simp
     all_goals with_reducible rfl
    try simp only[Act.put,tk1,tk2,tk3,tk4,tk5,tk6]
    refine tkY 4 (.bool true) rfl ?_ ?_
    ·intro w hSw;(try dsimp only at hSw);go_simp
     all_goals with_reducible rfl
    try simp only[Act.put,tk1,tk2,tk3,tk4,tk5,tk6]
    refine tkY 5 ?_ rfl ?_ ?_;rotate_left
    ·intro w hSw;(try dsimp only at hSw);go_simp
     all_goals with_reducible rfl
    try simp only[Act.put,tk1,tk2,tk3,tk4,tk5,tk6]
    refine tkY 6 ?_ rfl ?_ ?_;rotate_left
    ·intro w hSw;(try dsimp only at hSw);go_simp
     all_goals with_reducible rfl
    try simp only[Act.put,tk1,tk2,tk3,tk4,tk5,tk6]
    refine wpAnyH_ready (rs:=[7]) (by kernel_rfl) (by simp) ?_;refine AllReadyH.cons rfl (fun K hK=>?_) AllReadyH.nil;go_simp;have hbS:=hHeld.1;refine (HSG.out _).mono ?_;rintro e w10 ⟨rfl,hb10⟩;simp only[Ra.v,ofI]
    have HBT:=Lib.hid (bstep hbS hb10);go_wp2_with fail;refine hK.out _ _ ?_ (fun hHeld=>?_)
    ·exact HSS.out _ HBT.out
    clear hK K
    try simp only[Act.put,tk1,tk2,tk3,tk4,tk5,tk6]
    refine tkY 8 ?_ rfl ?_ ?_;rotate_left
    ·intro w hSw;(try dsimp only at hSw);go_simp
     all_goals with_reducible rfl
    try simp only[Act.put,tk1,tk2,tk3,tk4,tk5,tk6]
    refine tkY 9 ?_ rfl ?_ ?_;rotate_left
    ·intro w hSw;(try dsimp only at hSw);go_simp
     all_goals with_reducible rfl
    try simp only[Act.put,tk1,tk2,tk3,tk4,tk5,tk6]
    refine tkY 10 ?_ rfl ?_ ?_;rotate_left
    ·intro w hSw;(try dsimp only at hSw);go_simp
     all_goals with_reducible rfl
    try simp only[Act.put,tk1,tk2,tk3,tk4,tk5,tk6]
    refine tkN 11 rfl ?_
    try simp only[Act.put,tk1,tk2,tk3,tk4,tk5,tk6]
    refine tkN 12 rfl ?_
    try simp only[Act.put,tk1,tk2,tk3,tk4,tk5,tk6]
    refine tkN 13 rfl ?_
    try simp only[Act.put,tk1,tk2,tk3,tk4,tk5,tk6]
    refine tkN 14 rfl ?_
    try simp only[Act.put,tk1,tk2,tk3,tk4,tk5,tk6]
    refine tkY 15 ?_ rfl ?_ ?_;rotate_left
    ·intro w hSw;(try dsimp only at hSw);go_simp
     all_goals with_reducible rfl
    try simp only[Act.put,tk1,tk2,tk3,tk4,tk5,tk6]
    refine tkY 16 ?_ rfl ?_ ?_;rotate_left
    ·intro w hSw;(try dsimp only at hSw);go_simp
     all_goals with_reducible rfl
    try simp only[Act.put,tk1,tk2,tk3,tk4,tk5,tk6]
    refine wpAnyH_done (by kernel_rfl) ?_ _;refine NoPanic.normal ?_;go_wp2;go_ret;exact⟨by simp[hsqd],bstep HB7.out HBT.out⟩
  ·have hsn:decide (sg≤0)=true:=decide_eq_true (by omega);have hdp:decide (0<sg)=false:=decide_eq_false hsg;rw[hdp];go_enter Tryz.func63,Tryz.ntmps63
   go_upto_region 1 with fail
   simp only[←hW,←hB]
   clear hW hB;go_wp2_with fail;refine (HF1.out W).mono ?_;rintro e w5 ⟨rfl,hb5⟩;have HB5:=Lib.hid (bstep HBA.out hb5);have HK5:=Lib.hid (HK.out.below hb5 HK.out.lt);have hk5:=HK5.out.cells;clear hb5;go_wp2_with fail;refine (HF2.out w5).mono ?_;rintro e w6 ⟨rfl,hb6⟩;have HB6:=Lib.hid (bstep HB5.out hb6);have HK6:=Lib.hid (HK5.out.below hb6 HK5.out.lt);have hk6:=HK6.out.cells;clear hb6;go_wp2_with fail;refine (HS1.out w6).mono ?_;rintro e w8 ⟨rfl,hb8⟩;have HB8:=Lib.hid (bstep HB6.out hb8);clear hb8;go_wp2;go_ret;exact⟨by simp,HB8.out⟩
 ·skip
  go_enter Tryz.func63,Tryz.ntmps63
  go_upto_region 1 with fail
  simp only[←hW,←hB]
  clear hW hB;go_wp2;go_ret;exact⟨by simp,HBA.out⟩
end Go.Proofs.YtfajelpcfnfjkaaGreatDoor
