/- A part of the proof: U4 Tf U9 Y3 U5 U6 Uy U7 U8. -/
import Derived.Test.YtimokmplkpbmdaaGreatDoorB29
set_option linter.all false
set_option maxRecDepth 100000
set_option maxHeartbeats 0
namespace Go.Proofs.YtimokmplkpbmdaaGreatDoor
open Go.RowKit
theorem info_strU:(Tryz.prog.info? 9).map (fun i=>(i.zero,i.size,i.bytes))=some (some (.string ⟨#[]⟩),1,16):=by kernel_rfl
def strC (s:ByteArray):List Value:=[.string s]
def strs (l:List ByteArray):List Value:=l.flatMap strC
theorem strs_append (a b:List ByteArray):strs (a++b)=strs a++strs b:=List.flatMap_append
def RowFr {α:Type} (lo:Nat) (w:World) (enc:α->List Value) (xs:List α) (h:Hd):Prop:=RowAt w enc xs h/\∀ad,h.a=some ad->lo<=ad.block
theorem RowFr.onl {α:Type} {lo G:Nat} {w w':World} {enc:α->List Value} {xs:List α} {h:Hd} (k:RowFr lo w enc xs h) (ho:Onl G w w') (hG:G<lo):RowFr lo w' enc xs h:=by
 refine⟨⟨k.1.len,k.1.cap,k.1.max,?_⟩,k.2⟩;rcases k.1.rd with h0|⟨b,off,hA,hb,hc⟩
 ·exact .inl h0
 ·have hlo:lo<=b:=k.2 ⟨b,off,none⟩ hA;refine .inr ⟨b,off,hA,Nat.lt_of_lt_of_le hb ho.size,fun i hi=>?_⟩;rw[<-hc i hi];exact World.cell?_of_block (ho.block b hb (by omega))
theorem RowFr.below {α:Type} {lo:Nat} {w w':World} {enc:α->List Value} {xs:List α} {h:Hd} (k:RowFr lo w enc xs h) (hb:Below w.heap.size w w'):RowFr lo w' enc xs h:=⟨k.1.below hb,k.2⟩
theorem RowFr.of_own {α:Type} {w:World} {enc:α->List Value} {xs:List α} {base m n:Nat} {e:TypeId} {v:Value} (h:w.ownsRow base e m v n (xs.flatMap enc)) (hn:n=xs.length):∃h:Hd,v=.slice h.a h.n h.c/\RowFr base w enc xs h:=by
 obtain⟨A,c,rfl,h1,h2,h3,h4⟩:=own_rd2 h;exact⟨⟨A,n,c⟩,rfl,⟨hn,h1,h2,h3⟩,h4⟩
theorem uLists_any (l:Lw) (ss:List (Sc × Hd)) (ps:List (Pv × Hd)) (f s p:Hd) (w:World) (h:LawAt w l ss ps f s p) (hf:FineL l):
  Calls Tryz.prog 63 #[lawV f s p] w fun e w'=>∃h0 h1 h2:Hd,e=.returned (.agg #[.slice h0.a h0.n h0.c,.slice h1.a h1.n h1.c,.slice h2.a h2.n h2.c])/\RowAt w' strC (l.facts.map Dc.name) h0/\RowAt w' strC (l.schs.map Sc.name) h1/\RowAt w' strC (l.provs.map Pv.name) h2/\Below w.heap.size w w':=by
 have hfn1:=hf.fn;have hsn1:=hf.sn;have hpn1:=hf.pn;obtain⟨fa,fn,fc⟩:=f;obtain⟨sa,sn,sc⟩:=s;obtain⟨pa,pn,pc⟩:=p;unfold lawV;simp only
 obtain⟨W,hW⟩:=zE ((w.alloc (.cells #[.slice fa fn fc,.slice sa sn sc,.slice pa pn pc] 28)).alloc (.cells #[.slice none 0 0,.slice none 0 0,.slice none 0 0] 121));have htwo:=kTwo_new w 28 121 #[.slice fa fn fc,.slice sa sn sc,.slice pa pn pc] #[.slice none 0 0,.slice none 0 0,.slice none 0 0];rw[<-hW] at htwo;obtain⟨B,hB⟩:=zE w.heap.size;rw[<-hB] at htwo;obtain⟨hk0,hk1,hba,hsz⟩:=htwo;have HKL:=zH hk0;have HKA:=zH hk1;rw[hB] at hba;have HBX:=zH hba;have HBB:=zH hB;have HSZ:Hid (W.heap.size=B+2):=hsz;have HLA:=zH h;have HFN:Hid (fn=l.facts.length):=h.f.len;have HSN:Hid (sn=l.schs.length):=by show _=_;rw[<-h.sl,List.length_map];exact h.s.len
 have HPN:Hid (pn=l.provs.length):=by show _=_;rw[<-h.pl,List.length_map];exact h.p.len
 rw[<-HFN.out] at hfn1;rw[<-HSN.out] at hsn1;rw[<-HPN.out] at hpn1;have HFX:Hid (∀k (hk:k<l.schs.length) (hk':k<ss.length),l.schs[k]=ss[k].1):=fun k hk hk'=>by have e:=h.sl;simp[<-e]
 have HPX:Hid (∀k (hk:k<l.provs.length) (hk':k<ps.length),l.provs[k]=ps[k].1):=fun k hk hk'=>by have e:=h.pl;simp[<-e]
 clear h hf hk0 hk1 hba hsz;have hkc:=HKL.out.cells;go_enter Tryz.func63,Tryz.ntmps63
 go_upto_region 1 with fail
 simp only[<-hW,<-hB]
 clear hW hB;obtain⟨W0,hW0⟩:∃x,x=W:=⟨_,rfl⟩
 have HBW:Hid (Onl (B+1) W W0):=by rw[hW0];exact Onl.refl _ _
 rw[<-hW0] at HKA HBX hkc⊢;clear hW0;go_wp2_with fail;have HB0:Hid (B+2<=W0.heap.size):=by have h1:=HSZ.out;have h2:=HBW.out.size;show _<=_;omega
 go_loopg [12] fn (fun g iv wr=>∃(j:Nat) (v:Value),j+g=fn/\iv=.int .i64 j/\Hid (Blk wr (B+1) 121 [v,.slice none 0 0,.slice none 0 0])/\Hid (wr.ownsRow W0.heap.size 9 1 v j (strs ((l.facts.take j).map Dc.name)))/\Hid (Onl (B+1) W0 wr)/\Hid (Below w.heap.size w wr))
 case atStart=>exact⟨0,.slice none 0 0,by omega,rfl,HKA,World.ownsRow_nil _ _ _ _,Onl.refl _ _,HBX⟩
 case round=>
  obtain⟨j,v,hj,rfl,hka,hown,hon,hbr⟩:=hrel;clear HKA HBX;by_cases hlt:j<fn
  ·have hjx:j<l.facts.length:=by rw[<-HFN.out];exact hlt
   have hjm:j<l.facts.length:=by rw[<-HLA.out.f.len];exact hlt
   have htm:=take_map Dc.name hjx;rw[show l.facts[j]=l.facts[j] from rfl] at htm;obtain⟨b,off,hA,hb,hc⟩:=Rd.row Dc.cells 4 (fun _=>rfl) (by omega) (HLA.out.f.below hbr.out).rd hjm;simp only at hA;subst hA;generalize l.facts[j]=x at*;obtain⟨nm,⟨tt,tm,td⟩⟩:=x;have HTM:=zH htm;have c0:=hc 0 _ rfl;have c1:=hc 1 _ rfl;have c2:=hc 2 _ rfl;have c3:=hc 3 _ rfl;simp only[Nat.add_zero] at c0;obtain⟨XS,hXS⟩:∃X,X=strs ((l.facts.take j).map Dc.name):=⟨_,rfl⟩
   rw[<-hXS] at hown;have HXS:=zH hXS;have HOA:Hid ((wr.alloc (.cells #[.string nm,.bool tt,.int .i64 tm,.int .i64 td] 36)).ownsRow W0.heap.size 9 1 v j XS):=hown.out.alloc _;have hba:=(Below.refl wr.heap.size wr).alloc (Nat.le_refl _) (.cells #[.string nm,.bool tt,.int .i64 tm,.int .i64 td] 36);have HBA:Hid (Below w.heap.size w (wr.alloc (.cells #[.string nm,.bool tt,.int .i64 tm,.int .i64 td] 36))):=hbr.out.alloc hbr.out.size _;have HOA2:Hid (Onl (B+1) W0 (wr.alloc (.cells #[.string nm,.bool tt,.int .i64 tm,.int .i64 td] 36))):=hon.out.trans (Onl.of_below hba);have HKX:=zH (hka.out.below hba hka.out.lt);have hkx:∀j,(wr.alloc (.cells #[.string nm,.bool tt,.int .i64 tm,.int .i64 td] 36)).cell? ⟨B+1,j,none⟩=_:=HKX.out.cells;clear hown hbr hc htm hXS hba hon hka;go_wp2_with (at_builtin;go_must (refine wpList_push (wr.alloc (.cells #[.string nm,.bool tt,.int .i64 tm,.int .i64 td] 36)) #[.string nm] rfl _ _ 120 rfl W0.heap.size 9 _ 1 16 1 Tryz.underlying120 info_strU rfl (by decide) v j XS rfl HOA.out (by rw[World.size_alloc];rfl) rfl ?_ ?_ ?_ ?_ ?_))
   any_goals first|rfl|(unfold maxLen;omega)|omega
   ·have hz:=HOA2.out.size;rw[World.size_alloc] at hz;exact hz
   intro v' w' hown' hb';obtain⟨Av',cv',rfl,_⟩:=own_rd hown';have hka':=HKX.out.of_block (hb'.block (B+1) (by have:=HB0.out;omega));have hkc':=hka'.cells;have hkf':=hka'.froz;have HKA':=zH hka';have HOWN':=zH hown';have HBN:=zH hb';clear hown' hb' hka' c0 hkx;go_wp2
   go_roundg (fn-(j+1))
   case measure=>omega
   case rel=>
    refine⟨j+1,.slice Av' (j+1) cv',by omega,by go_num,HKA'.out.set 0 _,?_,(HOA2.out.more HBN.out).set 0 _,?_⟩
    ·show World.ownsRow _ _ _ _ _ _ _;rw[HTM.out,strs_append,<-HXS.out];refine HOWN'.out.kept (grown_set w' (B+1) 0 _) (.inr (fun h=>?_));have h1:=(HOWN'.out.lt _ h).1;have:=HB0.out;omega
    ·exact (HBA.out.trans (HBN.out.mono (by have:=HB0.out;have:=HBB.out;omega))).setCell (p:=⟨B+1,0,none⟩) (by show _<=B+1;have:=HBB.out;omega) _
  ·have hjn:j=fn:=by omega
   have hown2:=hown.out;rw[hjn,List.take_of_length_le (Nat.le_of_eq HFN.out.symm)] at hown2;obtain⟨h0,rfl,hr0⟩:=RowFr.of_own (enc:=strC) hown2 (by rw[List.length_map];exact HFN.out);obtain⟨W1,hW⟩:∃x,x=wr:=⟨_,rfl⟩
   have HR0:Hid (RowFr (B+2) W1 strC (l.facts.map Dc.name) h0):=by rw[hW];exact⟨hr0.1,fun ad h=>Nat.le_trans HB0.out (hr0.2 ad h)⟩
   have HKA:Hid (Blk W1 (B+1) 121 [.slice h0.a h0.n h0.c,.slice none 0 0,.slice none 0 0]):=by rw[hW];exact hka
   have HBX:Hid (Below w.heap.size w W1):=by rw[hW];exact hbr
   have HBW:Hid (Onl (B+1) W W1):=by rw[hW];exact HBW.out.trans hon.out
   have hkc:∀j,W1.cell? ⟨B,j,none⟩=_:=(HBW.out.blk HKL.out (by omega)).cells;rw[<-hW];clear hown hown2 hbr hka hon hjn hW HB0;go_wp2_with fail;have HB0:Hid (B+2<=W1.heap.size):=by have h1:=HSZ.out;have h2:=HBW.out.size;show _<=_;omega
   go_loopg [27] sn (fun g iv wr=>∃(j:Nat) (v:Value),j+g=sn/\iv=.int .i64 j/\Hid (Blk wr (B+1) 121 [.slice h0.a h0.n h0.c,v,.slice none 0 0])/\Hid (wr.ownsRow W1.heap.size 9 1 v j (strs ((l.schs.take j).map Sc.name)))/\Hid (Onl (B+1) W1 wr)/\Hid (Below w.heap.size w wr))
   case atStart=>exact⟨0,.slice none 0 0,by omega,rfl,HKA,World.ownsRow_nil _ _ _ _,Onl.refl _ _,HBX⟩
   case round=>
    obtain⟨j,v,hj,rfl,hka,hown,hon,hbr⟩:=hrel;clear HKA HBX;by_cases hlt:j<sn
    ·have hjx:j<l.schs.length:=by rw[<-HSN.out];exact hlt
     have hjm:j<ss.length:=by rw[<-HLA.out.s.len];exact hlt
     have htm:=take_map Sc.name hjx;rw[show l.schs[j]=ss[j].1 from HFX.out j hjx hjm] at htm;obtain⟨b,off,hA,hb,hc⟩:=Rd.row scCells 4 (fun _=>rfl) (by omega) (HLA.out.s.below hbr.out).rd hjm;simp only at hA;subst hA;generalize ss[j]=x at*;obtain⟨⟨nm,mo,da,br⟩,⟨ha,hn,hcc⟩⟩:=x;have HTM:=zH htm;have c0:=hc 0 _ rfl;have c1:=hc 1 _ rfl;have c2:=hc 2 _ rfl;have c3:=hc 3 _ rfl;simp only[Nat.add_zero] at c0;obtain⟨XS,hXS⟩:∃X,X=strs ((l.schs.take j).map Sc.name):=⟨_,rfl⟩
     rw[<-hXS] at hown;have HXS:=zH hXS;have HOA:Hid ((wr.alloc (.cells #[.string nm,.int .i64 mo,.int .i64 da,.slice ha hn hcc] 39)).ownsRow W1.heap.size 9 1 v j XS):=hown.out.alloc _;have hba:=(Below.refl wr.heap.size wr).alloc (Nat.le_refl _) (.cells #[.string nm,.int .i64 mo,.int .i64 da,.slice ha hn hcc] 39);have HBA:Hid (Below w.heap.size w (wr.alloc (.cells #[.string nm,.int .i64 mo,.int .i64 da,.slice ha hn hcc] 39))):=hbr.out.alloc hbr.out.size _;have HOA2:Hid (Onl (B+1) W1 (wr.alloc (.cells #[.string nm,.int .i64 mo,.int .i64 da,.slice ha hn hcc] 39))):=hon.out.trans (Onl.of_below hba);have HKX:=zH (hka.out.below hba hka.out.lt);have hkx:∀j,(wr.alloc (.cells #[.string nm,.int .i64 mo,.int .i64 da,.slice ha hn hcc] 39)).cell? ⟨B+1,j,none⟩=_:=HKX.out.cells;clear hown hbr hc htm hXS hba hon hka;go_wp2_with (at_builtin;go_must (refine wpList_push (wr.alloc (.cells #[.string nm,.int .i64 mo,.int .i64 da,.slice ha hn hcc] 39)) #[.string nm] rfl _ _ 120 rfl W1.heap.size 9 _ 1 16 1 Tryz.underlying120 info_strU rfl (by decide) v j XS rfl HOA.out (by rw[World.size_alloc];rfl) rfl ?_ ?_ ?_ ?_ ?_))
     any_goals first|rfl|(unfold maxLen;omega)|omega
     ·have hz:=HOA2.out.size;rw[World.size_alloc] at hz;exact hz
     intro v' w' hown' hb';obtain⟨Av',cv',rfl,_⟩:=own_rd hown';have hka':=HKX.out.of_block (hb'.block (B+1) (by have:=HB0.out;omega));have hkc':=hka'.cells;have hkf':=hka'.froz;have HKA':=zH hka';have HOWN':=zH hown';have HBN:=zH hb';clear hown' hb' hka' c0 hkx;go_wp2
     go_roundg (sn-(j+1))
     case measure=>omega
     case rel=>
      refine⟨j+1,.slice Av' (j+1) cv',by omega,by go_num,HKA'.out.set 1 _,?_,(HOA2.out.more HBN.out).set 1 _,?_⟩
      ·show World.ownsRow _ _ _ _ _ _ _;rw[HTM.out,strs_append,<-HXS.out];refine HOWN'.out.kept (grown_set w' (B+1) 1 _) (.inr (fun h=>?_));have h1:=(HOWN'.out.lt _ h).1;have:=HB0.out;omega
      ·exact (HBA.out.trans (HBN.out.mono (by have:=HB0.out;have:=HBB.out;omega))).setCell (p:=⟨B+1,1,none⟩) (by show _<=B+1;have:=HBB.out;omega) _
    ·have hjn:j=sn:=by omega
     have hown2:=hown.out;rw[hjn,List.take_of_length_le (Nat.le_of_eq HSN.out.symm)] at hown2;obtain⟨h1,rfl,hr1⟩:=RowFr.of_own (enc:=strC) hown2 (by rw[List.length_map];exact HSN.out);obtain⟨W2,hW⟩:∃x,x=wr:=⟨_,rfl⟩
     have HR1:Hid (RowFr (B+2) W2 strC (l.schs.map Sc.name) h1):=by rw[hW];exact⟨hr1.1,fun ad h=>Nat.le_trans HB0.out (hr1.2 ad h)⟩
     replace HR0:Hid (RowFr (B+2) W2 strC (l.facts.map Dc.name) h0):=by rw[hW];exact HR0.out.onl hon.out (by omega)
     have HKA:Hid (Blk W2 (B+1) 121 [.slice h0.a h0.n h0.c,.slice h1.a h1.n h1.c,.slice none 0 0]):=by rw[hW];exact hka
     have HBX:Hid (Below w.heap.size w W2):=by rw[hW];exact hbr
     have HBW:Hid (Onl (B+1) W W2):=by rw[hW];exact HBW.out.trans hon.out
     have hkc:∀j,W2.cell? ⟨B,j,none⟩=_:=(HBW.out.blk HKL.out (by omega)).cells;rw[<-hW];clear hown hown2 hbr hka hon hjn hW HB0;go_wp2_with fail;have HB0:Hid (B+2<=W2.heap.size):=by have h1:=HSZ.out;have h2:=HBW.out.size;show _<=_;omega
     go_loopg [42] pn (fun g iv wr=>∃(j:Nat) (v:Value),j+g=pn/\iv=.int .i64 j/\Hid (Blk wr (B+1) 121 [.slice h0.a h0.n h0.c,.slice h1.a h1.n h1.c,v])/\Hid (wr.ownsRow W2.heap.size 9 1 v j (strs ((l.provs.take j).map Pv.name)))/\Hid (Onl (B+1) W2 wr)/\Hid (Below w.heap.size w wr))
     case atStart=>exact⟨0,.slice none 0 0,by omega,rfl,HKA,World.ownsRow_nil _ _ _ _,Onl.refl _ _,HBX⟩
     case round=>
      obtain⟨j,v,hj,rfl,hka,hown,hon,hbr⟩:=hrel;clear HKA HBX;by_cases hlt:j<pn
      ·have hjx:j<l.provs.length:=by rw[<-HPN.out];exact hlt
       have hjm:j<ps.length:=by rw[<-HLA.out.p.len];exact hlt
       have htm:=take_map Pv.name hjx;rw[show l.provs[j]=ps[j].1 from HPX.out j hjx hjm] at htm;obtain⟨b,off,hA,hb,hc⟩:=Rd.row pvCells 12 (fun _=>rfl) (by omega) (HLA.out.p.below hbr.out).rd hjm;simp only at hA;subst hA;generalize ps[j]=x at*;obtain⟨⟨nm,⟨tt,tm,td⟩,ch,⟨sn1,sn2,sn3⟩,⟨cn1,cn2,cn3⟩,bo⟩,⟨ha,hn,hcc⟩⟩:=x;have HTM:=zH htm;have c0:=hc 0 _ rfl;have c1:=hc 1 _ rfl;have c2:=hc 2 _ rfl;have c3:=hc 3 _ rfl;have c4:=hc 4 _ rfl;have c5:=hc 5 _ rfl;have c6:=hc 6 _ rfl;have c7:=hc 7 _ rfl;have c8:=hc 8 _ rfl;have c9:=hc 9 _ rfl;have c10:=hc 10 _ rfl;have c11:=hc 11 _ rfl;simp only[Nat.add_zero] at c0;obtain⟨XS,hXS⟩:∃X,X=strs ((l.provs.take j).map Pv.name):=⟨_,rfl⟩
       rw[<-hXS] at hown;have HXS:=zH hXS;have HOA:Hid ((wr.alloc (.cells #[.string nm,.bool tt,.int .i64 tm,.int .i64 td,.slice ha hn hcc,.bool ch,.bool sn1,.string sn2,.string sn3,.bool cn1,.string cn2,.string cn3] 45)).ownsRow W2.heap.size 9 1 v j XS):=hown.out.alloc _;have hba:=(Below.refl wr.heap.size wr).alloc (Nat.le_refl _) (.cells #[.string nm,.bool tt,.int .i64 tm,.int .i64 td,.slice ha hn hcc,.bool ch,.bool sn1,.string sn2,.string sn3,.bool cn1,.string cn2,.string cn3] 45);have HBA:Hid (Below w.heap.size w (wr.alloc (.cells #[.string nm,.bool tt,.int .i64 tm,.int .i64 td,.slice ha hn hcc,.bool ch,.bool sn1,.string sn2,.string sn3,.bool cn1,.string cn2,.string cn3] 45))):=hbr.out.alloc hbr.out.size _;have HOA2:Hid (Onl (B+1) W2 (wr.alloc (.cells #[.string nm,.bool tt,.int .i64 tm,.int .i64 td,.slice ha hn hcc,.bool ch,.bool sn1,.string sn2,.string sn3,.bool cn1,.string cn2,.string cn3] 45))):=hon.out.trans (Onl.of_below hba);have HKX:=zH (hka.out.below hba hka.out.lt);have hkx:∀j,(wr.alloc (.cells #[.string nm,.bool tt,.int .i64 tm,.int .i64 td,.slice ha hn hcc,.bool ch,.bool sn1,.string sn2,.string sn3,.bool cn1,.string cn2,.string cn3] 45)).cell? ⟨B+1,j,none⟩=_:=HKX.out.cells;clear hown hbr hc htm hXS hba hon hka;go_wp2_with (at_builtin;go_must (refine wpList_push (wr.alloc (.cells #[.string nm,.bool tt,.int .i64 tm,.int .i64 td,.slice ha hn hcc,.bool ch,.bool sn1,.string sn2,.string sn3,.bool cn1,.string cn2,.string cn3] 45)) #[.string nm] rfl _ _ 120 rfl W2.heap.size 9 _ 1 16 1 Tryz.underlying120 info_strU rfl (by decide) v j XS rfl HOA.out (by rw[World.size_alloc];rfl) rfl ?_ ?_ ?_ ?_ ?_))
       any_goals first|rfl|(unfold maxLen;omega)|omega
       ·have hz:=HOA2.out.size;rw[World.size_alloc] at hz;exact hz
       intro v' w' hown' hb';obtain⟨Av',cv',rfl,_⟩:=own_rd hown';have hka':=HKX.out.of_block (hb'.block (B+1) (by have:=HB0.out;omega));have hkc':=hka'.cells;have hkf':=hka'.froz;have HKA':=zH hka';have HOWN':=zH hown';have HBN:=zH hb';clear hown' hb' hka' c0 hkx;go_wp2
       go_roundg (pn-(j+1))
       case measure=>omega
       case rel=>
        refine⟨j+1,.slice Av' (j+1) cv',by omega,by go_num,HKA'.out.set 2 _,?_,(HOA2.out.more HBN.out).set 2 _,?_⟩
        ·show World.ownsRow _ _ _ _ _ _ _;rw[HTM.out,strs_append,<-HXS.out];refine HOWN'.out.kept (grown_set w' (B+1) 2 _) (.inr (fun h=>?_));have h1:=(HOWN'.out.lt _ h).1;have:=HB0.out;omega
        ·exact (HBA.out.trans (HBN.out.mono (by have:=HB0.out;have:=HBB.out;omega))).setCell (p:=⟨B+1,2,none⟩) (by show _<=B+1;have:=HBB.out;omega) _
      ·have hjn:j=pn:=by omega
       have hown2:=hown.out;rw[hjn,List.take_of_length_le (Nat.le_of_eq HPN.out.symm)] at hown2;obtain⟨h2,rfl,hr2⟩:=RowFr.of_own (enc:=strC) hown2 (by rw[List.length_map];exact HPN.out);obtain⟨W3,hW⟩:∃x,x=wr:=⟨_,rfl⟩
       have HR2:Hid (RowFr (B+2) W3 strC (l.provs.map Pv.name) h2):=by rw[hW];exact⟨hr2.1,fun ad h=>Nat.le_trans HB0.out (hr2.2 ad h)⟩
       replace HR0:Hid (RowFr (B+2) W3 strC (l.facts.map Dc.name) h0):=by rw[hW];exact HR0.out.onl hon.out (by omega)
       replace HR1:Hid (RowFr (B+2) W3 strC (l.schs.map Sc.name) h1):=by rw[hW];exact HR1.out.onl hon.out (by omega)
       have HKA:Hid (Blk W3 (B+1) 121 [.slice h0.a h0.n h0.c,.slice h1.a h1.n h1.c,.slice h2.a h2.n h2.c]):=by rw[hW];exact hka
       have HBX:Hid (Below w.heap.size w W3):=by rw[hW];exact hbr
       have HBW:Hid (Onl (B+1) W W3):=by rw[hW];exact HBW.out.trans hon.out
       have hkc:∀j,W3.cell? ⟨B,j,none⟩=_:=(HBW.out.blk HKL.out (by omega)).cells;rw[<-hW];clear hown hown2 hbr hka hon hjn hW HB0;have hka:=HKA.out.cells;have hkf:=HKA.out.froz;have HSS:Hid (∀u0 u1 u2,Onl (B+1) W3 (((W3.setCell ⟨B+1,0,none⟩ u0).setCell ⟨B+1,1,none⟩ u1).setCell ⟨B+1,2,none⟩ u2)):=fun u0 u1 u2=>(((Onl.refl (B+1) W3).set 0 u0).set 1 u1).set 2 u2
       go_wp2;refine bodyPost_ret (v:=.agg #[.slice h0.a h0.n h0.c,.slice h1.a h1.n h1.c,.slice h2.a h2.n h2.c]) (by simp[results,Tryz.results63,go_sem,hka]) rfl ⟨h0,h1,h2,rfl,?_,?_,?_,?_⟩
       ·exact (HR0.out.onl (HSS.out _ _ _) (by omega)).1
       ·exact (HR1.out.onl (HSS.out _ _ _) (by omega)).1
       ·exact (HR2.out.onl (HSS.out _ _ _) (by omega)).1
       ·exact below_st3 (B:=B+1) HBX.out (by have:=HBB.out;omega) _ _ _
theorem zPg {P:Program} {W:World} {news:Array Value} {ops:Array Oper} {rest:List Oper} {o:Oper} {a:Act} {Q:Exit->Act->World->Prop} {s x:Operand} {t e:TypeId} {z v:Value} {base size bytes n:Nat} {xs:List Value} {a':Value->Act}
  (hinfo:(P.info? e).map (fun i=>(i.zero,i.size,i.bytes))=some (some z,size,bytes)) (ht:P.underlying t=some (.slice e)) (hown:W.ownsRow base e size v n xs) (hn:n<=100000) (hbase:base<=W.heap.size)
  (h:∀v' w',w'.ownsRow base e size v' (n+1) (xs++news.toList)->W.grownBy w' v.ownBlock->wpList P ops Q rest (a' v') w')
  (hgd:o.guard=none:=by rfl) (ho:o.op=.call {callee:=.builtin .append,args:=#[s,x],argTypes:=#[t,t]}:=by rfl) (hs:a.eval s=v:=by rfl) (hx:a.eval x=.slice (some ⟨W.heap.size,0,none⟩) 1 1:=by rfl)
  (hl:news.size=1*size:=by rfl) (hzs:z.cells.size=size:=by rfl) (hsz:0<size:=by decide) (hby:bytes<=1000:=by decide) (h1:∀u∈news.toList,u.oneCell'=true:=by (simp<;>(repeat' constructor)))
  (ha:∀v,a.put o.dst v=a' v:=by (intro v;rfl)):wpList P ops Q (o::rest) a (W.alloc (.cells news e)):=
 wpList_push_at W news hgd s x t ho base e z size bytes 1 ht hinfo hzs hsz v n xs hs hown hx hl h1 (by unfold maxLen;omega) (Nat.le_trans (Nat.mul_le_mul (show n+1<=100001 by omega) hby) (by decide)) hbase (fun v' w' h2 h3 _=>by rw[ha];exact h v' w' h2 h3)
section
variable {α:Type} {w:World} {A:Option Addr} {n c j:Nat}
theorem RowAt.at {enc:α->List Value} {xs:List α} (m:Nat) (hm:∀a,(enc a).length=m) (h0:0<m) (k:RowAt w enc xs ⟨A,n,c⟩) (hj:j<n):∃b off,A=some ⟨b,off,none⟩/\b<w.heap.size/\∃hx:j<xs.length,∀X,Below w.heap.size w X->∀i v,(enc xs[j])[i]?=some v->X.cell? ⟨b,off+j*m+i,none⟩=some v:=by
 have hx:j<xs.length:=by rw[<-k.len];exact hj
 obtain⟨b,off,hA,hb,hc⟩:=Rd.row enc m hm h0 k.rd hx;exact⟨b,off,hA,hb,hx,fun X hX i v hv=>(hX.cell (p:=⟨b,off+j*m+i,none⟩) hb).trans (hc i v hv)⟩
theorem dc_at {xs:List Dc} (k:RowAt w Dc.cells xs ⟨A,n,c⟩) (hj:j<n):∃b off nm t m d,A=some ⟨b,off,none⟩/\b<w.heap.size/\∃hx:j<xs.length,xs[j]=⟨nm,⟨t,m,d⟩⟩/\∀X,Below w.heap.size w X->X.cell? ⟨b,off+j*4,none⟩=some (.string nm)/\X.cell? ⟨b,off+j*4+1,none⟩=some (.bool t)/\X.cell? ⟨b,off+j*4+2,none⟩=some (.int .i64 m)/\X.cell? ⟨b,off+j*4+3,none⟩=some (.int .i64 d):=by
 obtain⟨b,off,hA,hb,hx,hc⟩:=k.at 4 (fun _=>rfl) (by omega) hj;exact⟨b,off,_,_,_,_,hA,hb,hx,rfl,fun X hX=>⟨hc X hX 0 _ rfl,hc X hX 1 _ rfl,hc X hX 2 _ rfl,hc X hX 3 _ rfl⟩⟩
theorem sc_at {xs:List (Sc × Hd)} (k:RowAt w scCells xs ⟨A,n,c⟩) (hj:j<n):∃b off nm m d bs h,A=some ⟨b,off,none⟩/\b<w.heap.size/\∃hx:j<xs.length,xs[j]=(⟨nm,m,d,bs⟩,h)/\∀X,Below w.heap.size w X->X.cell? ⟨b,off+j*4,none⟩=some (.string nm)/\X.cell? ⟨b,off+j*4+1,none⟩=some (.int .i64 m)/\X.cell? ⟨b,off+j*4+2,none⟩=some (.int .i64 d)/\X.cell? ⟨b,off+j*4+3,none⟩=some (.slice h.a h.n h.c):=by
 obtain⟨b,off,hA,hb,hx,hc⟩:=k.at 4 (fun _=>rfl) (by omega) hj;exact⟨b,off,_,_,_,_,_,hA,hb,hx,rfl,fun X hX=>⟨hc X hX 0 _ rfl,hc X hX 1 _ rfl,hc X hX 2 _ rfl,hc X hX 3 _ rfl⟩⟩
theorem pv_at {xs:List (Pv × Hd)} (k:RowAt w pvCells xs ⟨A,n,c⟩) (hj:j<n):∃b off p,A=some ⟨b,off,none⟩/\b<w.heap.size/\∃hx:j<xs.length,xs[j]=p/\∀X,Below w.heap.size w X->X.cell? ⟨b,off+j*12,none⟩=some (.string p.1.name)/\X.cell? ⟨b,off+j*12+1,none⟩=some (.bool p.1.ty.truth)/\X.cell? ⟨b,off+j*12+2,none⟩=some (.int .i64 p.1.ty.money)/\X.cell? ⟨b,off+j*12+3,none⟩=some (.int .i64 p.1.ty.days)/\X.cell? ⟨b,off+j*12+4,none⟩=some (.slice p.2.a p.2.n p.2.c)/\X.cell? ⟨b,off+j*12+5,none⟩=some (.bool p.1.charge)/\
  X.cell? ⟨b,off+j*12+6,none⟩=some (.bool p.1.step.neg)/\X.cell? ⟨b,off+j*12+7,none⟩=some (.string p.1.step.num)/\X.cell? ⟨b,off+j*12+8,none⟩=some (.string p.1.step.den)/\X.cell? ⟨b,off+j*12+9,none⟩=some (.bool p.1.cap.neg)/\X.cell? ⟨b,off+j*12+10,none⟩=some (.string p.1.cap.num)/\X.cell? ⟨b,off+j*12+11,none⟩=some (.string p.1.cap.den):=by
 obtain⟨b,off,hA,hb,hx,hc⟩:=k.at 12 (fun _=>rfl) (by omega) hj;exact⟨b,off,_,hA,hb,hx,rfl,fun X hX=>⟨hc X hX 0 _ rfl,hc X hX 1 _ rfl,hc X hX 2 _ rfl,hc X hX 3 _ rfl,hc X hX 4 _ rfl,hc X hX 5 _ rfl,hc X hX 6 _ rfl,hc X hX 7 _ rfl,hc X hX 8 _ rfl,hc X hX 9 _ rfl,hc X hX 10 _ rfl,hc X hX 11 _ rfl⟩⟩
end
def nameOk (s:ByteArray):Bool:=nameB s.data.toList
theorem shp5:shp 5=⟨[102,97,99,116,46],0,false,true,false⟩:=rfl
theorem wrong_name (s:ByteArray):wrongN ⟨5,zR,s⟩=if nameOk s then 0 else 12:=by
 have h1:numOk ⟨5,zR,s⟩=true:=by unfold numOk;simp only[shp5];simp
 unfold wrongN;rw[h1];simp only[shp5]
 unfold nameOk;cases nameB s.data.toList<;>simp
theorem check_name (s:ByteArray):checkE [⟨5,zR,s⟩]=if nameOk s then 0 else 12:=by
 unfold checkE;rw[if_neg (by simp),chk,wrong_name];cases nameOk s
 ·rfl
 ·simp only[shp5];simp[chk]
theorem uName_any (s:ByteArray) (w:World) (hL:LaidE w):Calls Tryz.prog 20 #[.string s] w fun e w'=>e=.returned (.bool (nameOk s))/\Below w.heap.size w w':=by
 obtain⟨W,hW⟩:=zE (w.alloc (.cells #[.int .i64 5,.bool false,.string ⟨#[]⟩,.string ⟨#[]⟩,.string s] 49));obtain⟨B,hB⟩:=zE w.heap.size;have hK:Blk W B 49 [.int .i64 5,.bool false,.string ⟨#[]⟩,.string ⟨#[]⟩,.string s]:=by rw[hW,hB];exact Blk.new w _ _
 have HBA:Hid (Below w.heap.size w W):=by show Below _ _ _;rw[hW];exact zB _ _
 have HC:=zH (check_any [⟨5,zR,s⟩] (some ⟨B,0,none⟩) 1 1 W (hL.below HBA.out) rfl (Nat.le_refl _) (by unfold maxLen;omega) hK.rd (fun n hn=>by rw[List.mem_singleton.1 hn];exact⟨Nat.zero_le _,Nat.zero_le _⟩));rw[check_name] at HC;generalize nameOk s=q at*;clear hL hK;cases q
 ·go_enter Tryz.func20,Tryz.ntmps20;go_wp2_with fail;simp only[<-hW,<-hB]
  refine HC.out.mono ?_;rintro e w5 ⟨rfl,hb5⟩;have HB5:=zH (bstep HBA.out hb5);clear hb5 hW hB;go_wp2;go_ret;exact⟨rfl,HB5.out⟩
 ·go_enter Tryz.func20,Tryz.ntmps20;go_wp2_with fail;simp only[<-hW,<-hB]
  refine HC.out.mono ?_;rintro e w5 ⟨rfl,hb5⟩;have HB5:=zH (bstep HBA.out hb5);clear hb5 hW hB;go_wp2;go_ret;exact⟨rfl,HB5.out⟩
theorem xnumber_any (m d:Int) (w:World):Calls Tryz.prog 102 #[.agg #[.int .i64 m,.int .i64 d]] w fun e w'=>e=.returned (.agg #[.bool false,.int .i64 m,.int .i64 d])/\Below w.heap.size w w':=by
 go_enter Tryz.func102,Tryz.ntmps102;go_wp2;exact bodyPost_ret (v:=.agg #[.bool false,.int .i64 m,.int .i64 d]) (by simp[results,Tryz.results102,go_sem]) rfl ⟨rfl,(zB _ _).alloc (by simp) _⟩
def SgIs (sg:List Sg) (w:World) (e:Ending) (w':World):Prop:=∃v,e=.returned v/\w'.ownsRow w.heap.size 102 5 v sg.length (sgs sg)/\Below w.heap.size w w'
def restP (ps:List (Pv × Hd)) (q:Nat):List Sg:=match q with
 |0=>ps.map (fun x=>pSig 6 x.1)++(ps.map (fun x=>pSig 7 x.1)++ps.map (fun x=>pSig 8 x.1))
 |1=>ps.map (fun x=>pSig 7 x.1)++ps.map (fun x=>pSig 8 x.1)
 |2=>ps.map (fun x=>pSig 8 x.1)
 |_=>[]
theorem restP_succ (ps:List (Pv × Hd)) {q:Nat} (h:q<3):restP ps q=ps.map (fun x=>pSig (6+(q:Int)) x.1)++restP ps (q+1):=by
 rcases (by omega:q=0∨q=1∨q=2) with rfl|rfl|rfl
 ·rfl
 ·rfl
 ·simp[restP]
structure SX (W wr:World) (v:Value) (m:Nat) (ns:List Sg):Prop where
 o:wr.ownsRow W.heap.size 102 5 v ns.length (sgs ns)
 l:ns.length<=m
 b:Below W.heap.size W wr
theorem SX.push {W w1 w':World} {v v':Value} {m m':Nat} {ns:List Sg} (h:SX W w1 v m ns) (g:Sg) (ho:w'.ownsRow W.heap.size 102 5 v' (ns.length+1) (sgs ns++g.cells)) (hb:Below W.heap.size W w') (hm:m+1=m'):SX W w' v' m' (ns++[g]):=
 ⟨by rw[sgs_append,List.length_append];exact ho,by have:=h.l;rw[List.length_append,List.length_singleton];omega,hb⟩
theorem SX.below {W w1 w':World} {v:Value} {m:Nat} {ns:List Sg} (h:SX W w1 v m ns) (hb:Below w1.heap.size w1 w'):SX W w' v m ns:=⟨own_below h.o hb,h.l,bstep h.b hb⟩
theorem xSigs_any (fs:List Dc) (ss:List (Sc × Hd)) (ps:List (Pv × Hd)) (f s p:Hd) (w:World) (hf:RowAt w Dc.cells fs f) (hs:RowAt w scCells ss s) (hp:RowAt w pvCells ps p) (f1:fs.length<=100) (s1:ss.length<=100) (p1:ps.length<=100):
  Calls Tryz.prog 55 #[lawV f s p] w (SgIs (fs.map fSig++(restP ps 0++ss.map fun x=>sSig x.1)) w):=by
 have hal:(fs.map fSig++(restP ps 0++ss.map fun x=>sSig x.1)).length<=1000:=by simp[restP];omega
 obtain⟨al,HAL⟩:=zE (fs.map fSig++(restP ps 0++ss.map fun x=>sSig x.1));rw[<-HAL] at hal⊢;replace HAL:=zH HAL;obtain⟨fa,fn,fc⟩:=f;obtain⟨sa,sn,sc⟩:=s;obtain⟨pa,pn,pc⟩:=p;rw[<-hf.len] at f1;rw[<-hs.len] at s1;rw[<-hp.len] at p1;simp only at f1 s1 p1;unfold lawV;go_enter Tryz.func55,Tryz.ntmps55
 go_upto_region 1 with fail
 generalize hW:w.alloc _=W;obtain⟨hk,hb0⟩:=zA hW;replace hf:=hf.below hb0;replace hs:=hs.below hb0;replace hp:=hp.below hb0;have hL:∀X,Below W.heap.size W X->X.cell? ⟨w.heap.size,0,none⟩=some (.slice fa fn fc)/\X.cell? ⟨w.heap.size,1,none⟩=some (.slice sa sn sc)/\X.cell? ⟨w.heap.size,2,none⟩=some (.slice pa pn pc):=fun X h=>⟨(hk.below h hk.lt).cells 0,(hk.below h hk.lt).cells 1,(hk.below h hk.lt).cells 2⟩
 clear hW hk;generalize hB:w.heap.size=B at hL⊢;have hb2:=Below.refl W.heap.size W;go_wp2
 go_loopg [3,4] fn (fun g ov iv wr=>∃(j:Nat) (ns:List Sg),j+g=fn/\iv=.int .i64 j/\Hid (ns++((fs.drop j).map fSig++(restP ps 0++ss.map fun x=>sSig x.1))=al)/\SX W wr ov j ns)
 case atStart=>exact⟨0,[],by omega,rfl,HAL.out.symm,World.ownsRow_nil _ _ _ _,Nat.le_refl _,hb2⟩
 case round=>
  obtain⟨j,ns,hj,rfl,HE,h⟩:=hrel;have hb:=h.b;by_cases hlt:j<fn
  ·obtain⟨b,off,nm,t,m,d,rfl,_,hx,hx2,hc⟩:=dc_at hf hlt;replace HE:Hid (ns++[fSig ⟨nm,⟨t,m,d⟩⟩]++((fs.drop (j+1)).map fSig++(restP ps 0++ss.map fun x=>sSig x.1))=al):=by have h:=HE.out;rw[List.drop_eq_getElem_cons hx,hx2] at h;show _=_;rw[<-h];simp
   clear hx2
   go_upto_region 5 with fail
   refine reS (Below W.heap.size W) 99 hb.drew (fun w1 h1 hS=>?_);replace h:=h.below h1
   iterate 14 refine reA ?_
   refine reV 14 (fun _=>hS.alloc hS.size _) (fun _=>?_);refine reP 15 info_sig Tryz.underlying61 h.o (by have:=h.l;omega) h.b.size (fun v' w9 ho _ _ hb9=>⟨h.b.trans hb9,fun hS=>?_⟩);refine reA ?_;refine reE ?_;go_wp2
   go_roundg (fn-(j+1))
   case measure=>omega
   case rel=>exact⟨j+1,_,by omega,by go_num,HE.out,h.push ⟨5,nm,⟨t,m,d⟩⟩ ho hS rfl⟩
  ·replace HE:Hid (ns++(restP ps 0++ss.map fun x=>sSig x.1)=al):=by have h:=HE.out;rw[List.drop_eq_nil_of_le (by have:=hf.len;simp only at this;omega)] at h;exact h
   go_wp2
   go_loopg [3,5] 3 (fun g ov iv wr=>∃(q:Nat) (ns:List Sg),q+g=3/\iv=.int .i64 (6+q)/\Hid (ns++(restP ps q++ss.map fun x=>sSig x.1)=al)/\SX W wr ov (100+100*q) ns)
   case atStart=>exact⟨0,ns,by omega,rfl,HE.out,h.o,by have:=h.l;omega,h.b⟩
   case round=>
    clear h HE;obtain⟨q,ns,hq,rfl,HE,h⟩:=hrel;have hb:=h.b;by_cases hlq:q<3
    ·have hq8:(6:Int)+(q:Int)<=8:=by omega
     have HR:=zH (restP_succ ps hlq);go_wp2
     go_loopg [3,6] pn (fun g ov iv wr=>∃(j:Nat) (ns:List Sg),j+g=pn/\iv=.int .i64 j/\Hid (ns++((ps.drop j).map (fun x=>pSig (6+(q:Int)) x.1)++(restP ps (q+1)++ss.map fun x=>sSig x.1))=al)/\SX W wr ov (100+100*q+j) ns)
     case atStart=>exact⟨0,ns,by omega,rfl,by have h:=HE.out;rw[HR.out,List.append_assoc] at h;exact h,h⟩
     case round=>
      clear h hb HE;obtain⟨j,ns,hj,rfl,HE,h⟩:=hrel;have hb:=h.b;by_cases hlt:j<pn
      ·obtain⟨b,off,p,rfl,_,hx,hx2,hc⟩:=pv_at hp hlt;replace HE:Hid (ns++[pSig (6+(q:Int)) p.1]++((ps.drop (j+1)).map (fun x=>pSig (6+(q:Int)) x.1)++(restP ps (q+1)++ss.map fun x=>sSig x.1))=al):=by have h:=HE.out;rw[List.drop_eq_getElem_cons hx,hx2] at h;show _=_;rw[<-h];simp
       clear hx2
       go_upto_region 12 with fail
       refine reS (Below W.heap.size W) 99 hb.drew (fun w1 h1 hS=>?_);replace h:=h.below h1
       iterate 15 refine reA ?_
       refine reV 15 (fun _=>hS.alloc hS.size _) (fun _=>?_);refine reP 16 info_sig Tryz.underlying61 h.o (by have:=h.l;omega) h.b.size (fun v' w9 ho _ _ hb9=>⟨h.b.trans hb9,fun hS=>?_⟩);refine reA ?_;refine reE ?_;go_wp2
       go_roundg (pn-(j+1))
       case measure=>omega
       case rel=>exact⟨j+1,_,by omega,by go_num,HE.out,h.push ⟨6+(q:Int),p.1.name,p.1.ty⟩ ho hS rfl⟩
      ·have hw6:IntKind.i64.wrap (6+(q:Int)+1)=6+(q:Int)+1:=IntWalk.i64_in _ (by omega);go_wp2
       go_roundg (3-(q+1))
       case measure=>omega
       case rel=>exact⟨q+1,ns,by omega,by push_cast;rw[Int.add_assoc],by have h:=HE.out;rw[List.drop_eq_nil_of_le (by have:=hp.len;simp only at this;omega)] at h;exact h,h.o,by have:=h.l;omega,h.b⟩
    ·have hq8:¬(6:Int)+(q:Int)<=8:=by omega
     have HE:Hid (ns++(ss.map fun x=>sSig x.1)=al):=by have h:=HE.out;rw[show q=3 by omega] at h;exact h
     go_wp2
     go_loopg [3,7] sn (fun g ov iv wr=>∃(j:Nat) (ns:List Sg),j+g=sn/\iv=.int .i64 j/\Hid (ns++((ss.drop j).map fun x=>sSig x.1)=al)/\SX W wr ov (400+j) ns)
     case atStart=>exact⟨0,ns,by omega,rfl,HE.out,h.o,by have:=h.l;omega,h.b⟩
     case round=>
      clear h hb HE;obtain⟨j,ns,hj,rfl,HE,h⟩:=hrel;have hb:=h.b;by_cases hlt:j<sn
      ·obtain⟨b,off,nm,m,d,bs,hd,rfl,_,hx,hx2,hc⟩:=sc_at hs hlt;replace HE:Hid (ns++[⟨24,nm,⟨false,m,d⟩⟩]++((ss.drop (j+1)).map fun x=>sSig x.1)=al):=by have h:=HE.out;rw[List.drop_eq_getElem_cons hx,hx2] at h;show _=_;rw[<-h];simp[sSig]
       clear hx2
       go_upto_region 16 with fail
       refine reS (Below W.heap.size W) 99 hb.drew (fun w1 h1 hS=>?_);replace h:=h.below h1
       iterate 13 refine reA ?_
       refine reC 13 (xnumber_any m d w1) ?_;rintro e w2 ⟨rfl,h2⟩;replace h:=h.below h2;refine⟨_,rfl,h.b,fun hS=>?_⟩
       iterate 1 refine reA ?_
       refine reV 15 (fun _=>hS.alloc hS.size _) (fun _=>?_);refine reP 16 info_sig Tryz.underlying61 h.o (by have:=h.l;omega) h.b.size (fun v' w9 ho _ _ hb9=>⟨h.b.trans hb9,fun hS=>?_⟩);refine reA ?_;refine reE ?_;go_wp2
       go_roundg (sn-(j+1))
       case measure=>omega
       case rel=>exact⟨j+1,_,by omega,by go_num,HE.out,h.push ⟨24,nm,⟨false,m,d⟩⟩ ho hS rfl⟩
      ·go_wp2;go_ret;have HE:=HE.out;rw[List.drop_eq_nil_of_le (by have:=hs.len;simp only at this;omega),List.map_nil,List.append_nil] at HE;subst HE;exact⟨_,rfl,own_lower h.o hb0.size,bstep hb0 h.b⟩
theorem uTyped1_any (x:Dc) (w:World):Calls Tryz.prog 65 #[.agg (Dc.cells x).toArray] w fun e w'=>e=.returned (.bool (!rightB x.ty))/\Below w.heap.size w w':=by
 have HU:=zH (fun W=>uIsType_any x.ty W);generalize rightB x.ty=q at*;obtain⟨nm,⟨tt,tm,td⟩⟩:=x;unfold Dc.cells;simp only[Ty.v] at HU⊢;obtain⟨W,hW⟩:=zE (w.alloc (.cells #[.string nm,.bool tt,.int .i64 tm,.int .i64 td] 36));have hkc:=(Blk.new w 36 #[.string nm,.bool tt,.int .i64 tm,.int .i64 td]).cells;have HBA:Hid (Below w.heap.size w W):=by show Below _ _ _;rw[hW];exact zB _ _
 rw[<-hW] at hkc;obtain⟨B,hB⟩:=zE w.heap.size;rw[<-hB] at hkc;go_enter Tryz.func65,Tryz.ntmps65
 go_upto_region 1 with fail
 simp only[<-hW,<-hB]
 clear hW hB;go_wp2_with fail;refine (HU.out W).mono ?_;rintro e w5 ⟨rfl,hb5⟩;have HBE:=zH (bstep HBA.out hb5);clear hb5;go_wp2;go_ret;exact⟨rfl,HBE.out⟩
theorem uTyped2_any (x:Pv × Hd) (w:World):Calls Tryz.prog 68 #[.agg (pvCells x).toArray] w fun e w'=>e=.returned (.bool (!rightB x.1.ty))/\Below w.heap.size w w':=by
 have HU:=zH (fun W=>uIsType_any x.1.ty W);generalize rightB x.1.ty=q at*;obtain⟨⟨nm,⟨tt,tm,td⟩,ch,⟨sn1,sn2,sn3⟩,⟨cn1,cn2,cn3⟩,bo⟩,⟨ha,hn,hcc⟩⟩:=x;unfold pvCells;simp only[Ty.v] at HU⊢;obtain⟨W,hW⟩:=zE (w.alloc (.cells #[.string nm,.bool tt,.int .i64 tm,.int .i64 td,.slice ha hn hcc,.bool ch,.bool sn1,.string sn2,.string sn3,.bool cn1,.string cn2,.string cn3] 45));have hkc:=(Blk.new w 45 #[.string nm,.bool tt,.int .i64 tm,.int .i64 td,.slice ha hn hcc,.bool ch,.bool sn1,.string sn2,.string sn3,.bool cn1,.string cn2,.string cn3]).cells;have HBA:Hid (Below w.heap.size w W):=by show Below _ _ _;rw[hW];exact zB _ _
 rw[<-hW] at hkc;obtain⟨B,hB⟩:=zE w.heap.size;rw[<-hB] at hkc;go_enter Tryz.func68,Tryz.ntmps68
 go_upto_region 1 with fail
 simp only[<-hW,<-hB]
 clear hW hB;go_wp2_with fail;refine (HU.out W).mono ?_;rintro e w5 ⟨rfl,hb5⟩;have HBE:=zH (bstep HBA.out hb5);clear hb5;go_wp2;go_ret;exact⟨rfl,HBE.out⟩
theorem uTyped3_any (x:Sc × Hd) (w:World):Calls Tryz.prog 70 #[.agg (scCells x).toArray] w fun e w'=>e=.returned (.bool (!unitB x.1.money x.1.days))/\Below w.heap.size w w':=by
 have HU:=zH (fun W=>kUnit_any x.1.money x.1.days W);generalize unitB x.1.money x.1.days=q at*;obtain⟨⟨nm,mo,da,br⟩,⟨ha,hn,hcc⟩⟩:=x;unfold scCells;simp only at HU⊢;obtain⟨W,hW⟩:=zE (w.alloc (.cells #[.string nm,.int .i64 mo,.int .i64 da,.slice ha hn hcc] 39));have hkc:=(Blk.new w 39 #[.string nm,.int .i64 mo,.int .i64 da,.slice ha hn hcc]).cells;have HBA:Hid (Below w.heap.size w W):=by show Below _ _ _;rw[hW];exact zB _ _
 rw[<-hW] at hkc;obtain⟨B,hB⟩:=zE w.heap.size;rw[<-hB] at hkc;go_enter Tryz.func70,Tryz.ntmps70
 go_upto_region 1 with fail
 simp only[<-hW,<-hB]
 clear hW hB;go_wp2_with fail;refine (HU.out W).mono ?_;rintro e w5 ⟨rfl,hb5⟩;have HBE:=zH (bstep HBA.out hb5);clear hb5;go_wp2;go_ret;exact⟨rfl,HBE.out⟩
theorem conDc_nil (A:Option Addr) (c:Nat) (fv:Value) (w:World):Calls Tryz.prog 64 #[.slice A 0 c,fv] w fun e w'=>e=.returned (.bool false)/\Below w.heap.size w w':=by
 have HBA:Hid (Below w.heap.size w w):=Below.refl _ _;go_enter Tryz.func64,Tryz.ntmps64;go_wp2
 go_loopg [8] 0 (fun g iv wr=>iv=.int .i64 0/\wr=w)
 case atStart=>exact⟨rfl,rfl⟩
 case round=>
  obtain⟨rfl,rfl⟩:=hrel;go_wp2;go_ret;exact⟨rfl,HBA.out⟩
theorem conDc_at (xs:List (Dc)) (h:Hd) (w:World) (hr:RowAt w Dc.cells xs h):
  Calls Tryz.prog 64 #[.slice h.a h.n h.c,.func (.func 65) #[] #[]] w fun e w'=>e=.returned (.bool (xs.any fun x=> !rightB x.ty))/\Below w.heap.size w w':=by
 by_cases h0:h.n=0
 ·have hx:xs=[]:=List.eq_nil_of_length_eq_zero (by rw[<-hr.len];exact h0);subst hx;rw[h0];exact conDc_nil _ _ _ w
 ·have hlen:=hr.len;have hmx:=hr.max;have hcp:=hr.cap;obtain⟨b,off,hA,hb,_⟩:=Rd.row Dc.cells 4 (fun _=>rfl) (by omega) hr.rd (j:=0) (by omega);have eg:∀args w,(callFunc 65 args).run Tryz.prog w=.ok (.enter 65 args) w:=enters_of Tryz.func65 (by kernel_rfl) rfl;have hrd:=hr.rd;rw[hA] at hrd⊢
  letI:Inhabited (Dc):=⟨xs[0]'(by omega)⟩
  have hh:=AnyQ.slices_ContainsFunc Tryz.conD 4 Tryz.isAgg36 Tryz.sizeOf36 Dc.cells (fun _=>rfl) (fun x=> !rightB x.ty) 65 #[] eg b off h.n h.c xs w
   (fun W x hW=>(uTyped1_any x W).mono (fun e w' ⟨h1,h2⟩=>⟨h1,bstep hW h2⟩)) (by omega) (by unfold maxLen at hmx;omega) hb (fun j hj i v hv=>by
     obtain⟨b',off',hA',hb',hc'⟩:=Rd.row Dc.cells 4 (fun _=>rfl) (by omega) hrd hj;injection hA' with hA';injection hA' with h1 h2;subst h1 h2;refine hc' i v ?_;have e:=getElem!_pos xs j hj;rw[e] at hv;exact hv)
  rw[List.take_of_length_le (by omega)] at hh;exact hh
theorem conPv_nil (A:Option Addr) (c:Nat) (fv:Value) (w:World):Calls Tryz.prog 67 #[.slice A 0 c,fv] w fun e w'=>e=.returned (.bool false)/\Below w.heap.size w w':=by
 have HBA:Hid (Below w.heap.size w w):=Below.refl _ _;go_enter Tryz.func67,Tryz.ntmps67;go_wp2
 go_loopg [8] 0 (fun g iv wr=>iv=.int .i64 0/\wr=w)
 case atStart=>exact⟨rfl,rfl⟩
 case round=>
  obtain⟨rfl,rfl⟩:=hrel;go_wp2;go_ret;exact⟨rfl,HBA.out⟩
theorem conPv_at (xs:List (Pv × Hd)) (h:Hd) (w:World) (hr:RowAt w pvCells xs h):
  Calls Tryz.prog 67 #[.slice h.a h.n h.c,.func (.func 68) #[] #[]] w fun e w'=>e=.returned (.bool (xs.any fun x=> !rightB x.1.ty))/\Below w.heap.size w w':=by
 by_cases h0:h.n=0
 ·have hx:xs=[]:=List.eq_nil_of_length_eq_zero (by rw[<-hr.len];exact h0);subst hx;rw[h0];exact conPv_nil _ _ _ w
 ·have hlen:=hr.len;have hmx:=hr.max;have hcp:=hr.cap;obtain⟨b,off,hA,hb,_⟩:=Rd.row pvCells 12 (fun _=>rfl) (by omega) hr.rd (j:=0) (by omega);have eg:∀args w,(callFunc 68 args).run Tryz.prog w=.ok (.enter 68 args) w:=enters_of Tryz.func68 (by kernel_rfl) rfl;have hrd:=hr.rd;rw[hA] at hrd⊢
  letI:Inhabited (Pv × Hd):=⟨xs[0]'(by omega)⟩
  have hh:=AnyQ.slices_ContainsFunc Tryz.conP 12 Tryz.isAgg45 Tryz.sizeOf45 pvCells (fun _=>rfl) (fun x=> !rightB x.1.ty) 68 #[] eg b off h.n h.c xs w
   (fun W x hW=>(uTyped2_any x W).mono (fun e w' ⟨h1,h2⟩=>⟨h1,bstep hW h2⟩)) (by omega) (by unfold maxLen at hmx;omega) hb (fun j hj i v hv=>by
     obtain⟨b',off',hA',hb',hc'⟩:=Rd.row pvCells 12 (fun _=>rfl) (by omega) hrd hj;injection hA' with hA';injection hA' with h1 h2;subst h1 h2;refine hc' i v ?_;have e:=getElem!_pos xs j hj;rw[e] at hv;exact hv)
  rw[List.take_of_length_le (by omega)] at hh;exact hh
theorem conSc_nil (A:Option Addr) (c:Nat) (fv:Value) (w:World):Calls Tryz.prog 69 #[.slice A 0 c,fv] w fun e w'=>e=.returned (.bool false)/\Below w.heap.size w w':=by
 have HBA:Hid (Below w.heap.size w w):=Below.refl _ _;go_enter Tryz.func69,Tryz.ntmps69;go_wp2
 go_loopg [8] 0 (fun g iv wr=>iv=.int .i64 0/\wr=w)
 case atStart=>exact⟨rfl,rfl⟩
 case round=>
  obtain⟨rfl,rfl⟩:=hrel;go_wp2;go_ret;exact⟨rfl,HBA.out⟩
theorem conSc_at (xs:List (Sc × Hd)) (h:Hd) (w:World) (hr:RowAt w scCells xs h):
  Calls Tryz.prog 69 #[.slice h.a h.n h.c,.func (.func 70) #[] #[]] w fun e w'=>e=.returned (.bool (xs.any fun x=> !unitB x.1.money x.1.days))/\Below w.heap.size w w':=by
 by_cases h0:h.n=0
 ·have hx:xs=[]:=List.eq_nil_of_length_eq_zero (by rw[<-hr.len];exact h0);subst hx;rw[h0];exact conSc_nil _ _ _ w
 ·have hlen:=hr.len;have hmx:=hr.max;have hcp:=hr.cap;obtain⟨b,off,hA,hb,_⟩:=Rd.row scCells 4 (fun _=>rfl) (by omega) hr.rd (j:=0) (by omega);have eg:∀args w,(callFunc 70 args).run Tryz.prog w=.ok (.enter 70 args) w:=enters_of Tryz.func70 (by kernel_rfl) rfl;have hrd:=hr.rd;rw[hA] at hrd⊢
  letI:Inhabited (Sc × Hd):=⟨xs[0]'(by omega)⟩
  have hh:=AnyQ.slices_ContainsFunc Tryz.conS 4 Tryz.isAgg39 Tryz.sizeOf39 scCells (fun _=>rfl) (fun x=> !unitB x.1.money x.1.days) 70 #[] eg b off h.n h.c xs w
   (fun W x hW=>(uTyped3_any x W).mono (fun e w' ⟨h1,h2⟩=>⟨h1,bstep hW h2⟩)) (by omega) (by unfold maxLen at hmx;omega) hb (fun j hj i v hv=>by
     obtain⟨b',off',hA',hb',hc'⟩:=Rd.row scCells 4 (fun _=>rfl) (by omega) hrd hj;injection hA' with hA';injection hA' with h1 h2;subst h1 h2;refine hc' i v ?_;have e:=getElem!_pos xs j hj;rw[e] at hv;exact hv)
  rw[List.take_of_length_le (by omega)] at hh;exact hh
theorem any_not {α:Type} (p:α->Bool) (l:List α):(l.any fun x=> !p x)= !l.all p:=by
 induction l with
 |nil=>rfl
 |cons a l ih=>rw[List.any_cons,List.all_cons,ih,Bool.not_and]
theorem any_fst {α β:Type} (p:α->Bool) {l:List (α × β)} {l':List α} (h:l.map Prod.fst=l'):(l.any fun x=> !p x.1)= !l'.all p:=by
 subst h;rw[any_not (fun x:α × β=>p x.1),List.all_map];rfl
theorem uTyped_any (l:Lw) (ss:List (Sc × Hd)) (ps:List (Pv × Hd)) (f s p:Hd) (w:World) (h:LawAt w l ss ps f s p):
  Calls Tryz.prog 27 #[lawV f s p] w fun e w'=>e=.returned (.bool (typedL l))/\Below w.heap.size w w':=by
 have HA:=zH (fun W hb=>conDc_at l.facts f W (h.below (w':=W) hb).f);have HP:=zH (fun W hb=>conPv_at ps p W (h.below (w':=W) hb).p);have HS:=zH (fun W hb=>conSc_at ss s W (h.below (w':=W) hb).s)
 have HT:Hid (typedL l=(!(l.facts.any fun x=> !rightB x.ty)&&(!(ps.any fun x=> !rightB x.1.ty)&& !(ss.any fun x=> !unitB x.1.money x.1.days)))):=by
  show _=_;rw[any_not (fun x:Dc=>rightB x.ty),any_fst (fun x:Pv=>rightB x.ty) h.pl,any_fst (fun x:Sc=>unitB x.money x.days) h.sl,Bool.not_not,Bool.not_not,Bool.not_not];rfl
 rw[HT.out];generalize (l.facts.any fun x=> !rightB x.ty)=a at*;generalize (ps.any fun x=> !rightB x.1.ty)=b at*;generalize (ss.any fun x=> !unitB x.1.money x.1.days)=c at*;clear HT h;obtain⟨fa,fn,fc⟩:=f;obtain⟨sa,sn,sc⟩:=s;obtain⟨pa,pn,pc⟩:=p;unfold lawV;simp only at HA HP HS⊢;obtain⟨W,hW⟩:=zE (w.alloc (.cells #[.slice fa fn fc,.slice sa sn sc,.slice pa pn pc] 28));obtain⟨B,hB⟩:=zE w.heap.size;have HK:Hid (Blk W B 28 [.slice fa fn fc,.slice sa sn sc,.slice pa pn pc]):=by show Blk _ _ _ _;rw[hW,hB];exact Blk.new w _ _
 have HBA:Hid (Below w.heap.size w W):=by show Below _ _ _;rw[hW];exact zB _ _
 have hkc:=HK.out.cells;cases a
 ·cases b
  ·go_enter Tryz.func27,Tryz.ntmps27
   go_upto_region 1 with fail
   simp only[<-hW,<-hB]
   clear hW hB;go_wp2_with fail;refine (HA.out W HBA.out).mono ?_;rintro e w5 ⟨rfl,hb5⟩;have HB5:=zH (bstep HBA.out hb5);have HK5:=zH (HK.out.below hb5 HK.out.lt);have hk5:=HK5.out.cells;clear hb5;go_wp2_with fail;refine (HP.out w5 HB5.out).mono ?_;rintro e w6 ⟨rfl,hb6⟩;have HB6:=zH (bstep HB5.out hb6);have hk6:=(HK5.out.below hb6 HK5.out.lt).cells;clear hb6;go_wp2_with fail;refine (HS.out w6 HB6.out).mono ?_;rintro e w7 ⟨rfl,hb7⟩;have HB7:=zH (bstep HB6.out hb7);clear hb7;go_wp2;go_ret;exact⟨by simp,HB7.out⟩
  ·go_enter Tryz.func27,Tryz.ntmps27
   go_upto_region 1 with fail
   simp only[<-hW,<-hB]
   clear hW hB;go_wp2_with fail;refine (HA.out W HBA.out).mono ?_;rintro e w5 ⟨rfl,hb5⟩;have HB5:=zH (bstep HBA.out hb5);have HK5:=zH (HK.out.below hb5 HK.out.lt);have hk5:=HK5.out.cells;clear hb5;go_wp2_with fail;refine (HP.out w5 HB5.out).mono ?_;rintro e w6 ⟨rfl,hb6⟩;have HB6:=zH (bstep HB5.out hb6);clear hb6;go_wp2;go_ret;exact⟨by simp,HB6.out⟩
 ·go_enter Tryz.func27,Tryz.ntmps27
  go_upto_region 1 with fail
  simp only[<-hW,<-hB]
  clear hW hB;go_wp2_with fail;refine (HA.out W HBA.out).mono ?_;rintro e w5 ⟨rfl,hb5⟩;have HB5:=zH (bstep HBA.out hb5);clear hb5;go_wp2;go_ret;exact⟨by simp,HB5.out⟩
theorem tOf_any (n:Int) (w:World) (h0:0<=n) (h1:n<=9223372036854775807):Calls Tryz.prog 17 #[.int .i64 n] w fun e w'=>e=.returned (.agg #[.bool false,.string (nbs n.toNat),.string (nbs 1)])/\Below w.heap.size w w':=by
 obtain⟨W,hW⟩:=zE (w.alloc (.cells #[.bool false,.string ⟨#[]⟩,.string ⟨#[]⟩] 43));obtain⟨B,hB⟩:=zE w.heap.size;have HK:Hid (Blk W B 43 [.bool false,.string ⟨#[]⟩,.string ⟨#[]⟩]):=by show Blk _ _ _ _;rw[hW,hB];exact Blk.new w _ _
 have HBA:Hid (Below w.heap.size w W):=by show Below _ _ _;rw[hW];exact zB _ _
 have HBB:=zH (Nat.le_of_eq hB.symm);have HO:=zH (fun W=>rOf_any n W (by omega) h1);have HO1:=zH (fun W=>rOf_any 1 W (by omega) (by omega));rw[show (1:Int).toNat=1 from rfl] at HO1;have hn:¬n<0:=by omega
 go_enter Tryz.func17,Tryz.ntmps17
 go_upto_region 1 with fail
 simp only[<-hW,<-hB]
 clear hW hB;go_wp2_with fail;refine (HO.out W).mono ?_;rintro e w1 ⟨rfl,hb1⟩;go_wp2_with fail;refine (HO1.out w1).mono ?_;rintro e w2 ⟨rfl,hb2⟩;have hb12:=bstep hb1 hb2;have HK2:=zH (HK.out.below hb12 HK.out.lt);have HB2:=zH (bstep HBA.out hb12);have hkc:=HK2.out.cells;have hkf:=HK2.out.froz;clear hb1 hb2 hb12;go_wp2;have HKF:=((HK2.out.set 0 (.bool false)).set 1 (.string (nbs n.toNat))).set 2 (.string (nbs 1));have hc:=HKF.cells;refine bodyPost_ret (v:=.agg #[.bool false,.string (nbs n.toNat),.string (nbs 1)]) (by simp[results,Tryz.results17,go_sem,hc]) rfl ⟨rfl,?_⟩;exact ((HB2.out.setCell (p:=⟨B,0,none⟩) HBB.out _).setCell (p:=⟨B,1,none⟩) HBB.out _).setCell (p:=⟨B,2,none⟩) HBB.out _
def isName (q:ByteArray) (x:Pv × Hd):Bool:=decide (x.1.name=q)
theorem uFind1_any (x:Pv × Hd) (q:ByteArray) (b:Nat) (t:TypeId) (w:World) (hb:Blk w b t [.string q]):Calls Tryz.prog 49 #[.agg (pvCells x).toArray,.pointer (some ⟨b,0,none⟩)] w fun e w'=>e=.returned (.bool (isName q x))/\Below w.heap.size w w':=by
 obtain⟨⟨nm,⟨tt,tm,td⟩,ch,⟨s1,s2,s3⟩,⟨p1,p2,p3⟩,body⟩,⟨ha,hn,hcc⟩⟩:=x;unfold pvCells isName;simp only
 obtain⟨W,hW⟩:=zE (w.alloc (.cells #[.string nm,.bool tt,.int .i64 tm,.int .i64 td,.slice ha hn hcc,.bool ch,.bool s1,.string s2,.string s3,.bool p1,.string p2,.string p3] 45));obtain⟨B,hB⟩:=zE w.heap.size;have HK:Hid (Blk W B 45 [.string nm,.bool tt,.int .i64 tm,.int .i64 td,.slice ha hn hcc,.bool ch,.bool s1,.string s2,.string s3,.bool p1,.string p2,.string p3]):=by show Blk _ _ _ _;rw[hW,hB];exact Blk.new w _ _
 have HBA:Hid (Below w.heap.size w W):=by show Below _ _ _;rw[hW];exact zB _ _
 have hkc:=HK.out.cells;have hqc:W.cell? ⟨b,0,none⟩=some (.string q):=(hb.below HBA.out hb.lt).cells 0
 have HEQ:Hid ((nm.toList==q.toList)=decide (nm=q)):=by
  show _=_;rw[ByteArray.toList_eq,ByteArray.toList_eq]
  cases nm with|mk d=>cases q with|mk d'=>cases d with|mk l=>cases d' with|mk l'=>
   by_cases h:l=l'
   ·subst h;simp
   ·have h2:¬((⟨⟨l⟩⟩:ByteArray)=⟨⟨l'⟩⟩):=fun e=>h (by injection e with e;injection e)
    rw[decide_eq_false h2];simp[h]
 go_enter Tryz.func49,Tryz.ntmps49
 go_upto_region 1 with fail
 simp only[<-hW,<-hB]
 clear hW hB;go_wp2;go_ret;exact⟨by simp[HEQ.out],HBA.out⟩
def findL (q:ByteArray) (xs:List (Pv × Hd)) [Inhabited (Pv × Hd)]:Int:=Lib.idxBy (fun _ y=>isName q y) xs default
theorem idxPv_at (xs:List (Pv × Hd)) (h:Hd) (q:ByteArray) (b:Nat) (t:TypeId) (w:World) (hb:Blk w b t [.string q]) (hr:RowAt w pvCells xs h) (h0:0<xs.length) [hinh:Inhabited (Pv × Hd)]:
  Calls Tryz.prog 48 #[.slice h.a h.n h.c,.func (.func 49) #[] #[.pointer (some ⟨b,0,none⟩)]] w fun e w'=>e=.returned (.int .i64 (findL q xs))/\Below w.heap.size w w':=by
 have hlen:=hr.len;have hmx:=hr.max;have hcp:=hr.cap;obtain⟨g,off,hA,hg,_⟩:=Rd.row pvCells 12 (fun _=>rfl) (by omega) hr.rd (j:=0) (by omega);have eg:∀args w,(callFunc 49 args).run Tryz.prog w=.ok (.enter 49 args) w:=enters_of Tryz.func49 (by kernel_rfl) rfl;have hrd:=hr.rd;rw[hA] at hrd⊢
 have hh:=AnyQ.slices_IndexFunc Tryz.idxP 12 Tryz.isAgg45 Tryz.sizeOf45 pvCells (fun _=>rfl) (isName q) 49 #[.pointer (some ⟨b,0,none⟩)] eg g off h.n h.c xs w
  (fun W x hW=>(uFind1_any x q b t W (hb.below hW hb.lt)).mono (fun e w' ⟨h1,h2⟩=>⟨h1,bstep hW h2⟩)) (by omega) (by unfold maxLen at hmx;omega) hg (fun j hj i v hv=>by
    obtain⟨b',off',hA',hb',hc'⟩:=Rd.row pvCells 12 (fun _=>rfl) (by omega) hrd hj;injection hA' with hA';injection hA' with h1 h2;subst h1 h2;refine hc' i v ?_;have e:=getElem!_pos xs j hj;rw[e] at hv;exact hv)
 rw[List.take_of_length_le (by omega)] at hh;exact hh
theorem uFind_any (q:ByteArray) (xs:List (Pv × Hd)) (f s p:Hd) (w:World) (hr:RowAt w pvCells xs p) (h0:0<xs.length) [hinh:Inhabited (Pv × Hd)] (z:Int) (hz:findL q xs=z) (hz0:0<=z):
  Calls Tryz.prog 19 #[lawV f s p,.string q] w fun e w'=>e=.returned (.tuple #[.int .i64 z,.bool true])/\Below w.heap.size w w':=by
 obtain⟨fa,fn,fc⟩:=f;obtain⟨sa,sn,sc⟩:=s;obtain⟨pa,pn,pc⟩:=p;unfold lawV;simp only
 obtain⟨W,hW⟩:=zE ((w.alloc (.cells #[.slice fa fn fc,.slice sa sn sc,.slice pa pn pc] 28)).alloc (.cells #[.string q] 9));obtain⟨B,hB⟩:=zE w.heap.size;have HK:Hid (Blk W B 28 [.slice fa fn fc,.slice sa sn sc,.slice pa pn pc]):=by show Blk _ _ _ _;rw[hW,hB];exact (Blk.new w _ _).alloc _
 have HQ:Hid (Blk W (B+1) 9 [.string q]):=by
  show Blk _ _ _ _;rw[hW,hB];have h:=Blk.new (w.alloc (.cells #[.slice fa fn fc,.slice sa sn sc,.slice pa pn pc] 28)) 9 #[.string q];rw[World.size_alloc] at h;exact h
 have HBA:Hid (Below w.heap.size w W):=by show Below _ _ _;rw[hW];exact (zB _ _).alloc (by simp) _
 have HF:=zH (idxPv_at xs ⟨pa,pn,pc⟩ q (B+1) 9 W HQ.out (hr.below HBA.out) h0);rw[hz] at HF;simp only at HF;have hmf:∀(fn:Fn) (first cap:Array Value) (w:World),(Instr.makeFunc fn first cap).run Tryz.prog w=.ok (.func fn first cap) w:=fun _ _ _ _=>rfl
 have hkc:=HK.out.cells;have hmx:max z 0=z:=by omega
 clear hz hr;go_enter Tryz.func19,Tryz.ntmps19
 go_upto_region 1 with fail
 simp only[<-hW,<-hB]
 clear hW hB;go_wp2_with fail;refine HF.out.mono ?_;rintro e w2 ⟨rfl,hb2⟩;have HB2:=zH (bstep HBA.out hb2);clear hb2;go_wp2;go_ret2;exact⟨rfl,HB2.out⟩
theorem fits_size {a:Ra} (h:fitsR a=true):okR a=true/\a.num.size<=50/\a.den.size<=50:=by
 unfold fitsR at h;simp only[Bool.and_eq_true,decide_eq_true_eq] at h;obtain⟨⟨h1,h2⟩,h3⟩:=h;obtain⟨p1,p2,p3,p4⟩:=okR_prts h1
 have key:∀L n,bitsN n<=8*L->n<256 ^ L:=fun L n hn=>by
  unfold bitsN at hn;rw[show (256:Nat)=2 ^ 8 from rfl,<-Nat.pow_mul];split at hn
  ·next h0=>rw[h0];exact Nat.pow_pos (by omega)
  ·next h0=>exact (Nat.log2_lt h0 (k:=8*L)).1 (by omega)
 refine⟨h1,?_,?_⟩
 ·rw[<-nb_ok p3];exact nbs_size_le _ 50 (key 50 _ h2)
 ·rw[<-nb_ok p1];exact nbs_size_le _ 50 (key 50 _ h3)
theorem sign_pos {a:Ra} (h:0<signR a):a.num≠⟨#[]⟩:=by
 intro e;unfold signR at h;split at h
 ·next h1=>
  split at h
  ·cases h
  ·next h2=>
   split at h
   ·cases h
   ·next h3=>
    obtain⟨p1,p2,p3,p4⟩:=okR_prts h1;refine h2 ?_;rw[<-p4,e];unfold low ofI;have e0:vbs ⟨#[]⟩=0:=rfl;rw[e0,Nat.gcd_zero_left,Nat.zero_div,Nat.div_self p2];simp
 ·cases h
theorem fld_den (x:Bool) (y z:ByteArray) (w:World):(Instr.field 43 (.agg #[.bool x,.string y,.string z]) 2).run Tryz.prog w=.ok (.string z) w:=by kernel_rfl
theorem uPlain_any (x:Pv × Hd) (w:World):Calls Tryz.prog 79 #[.agg (pvCells x).toArray] w fun e w'=>e=.returned (.bool (plainP x.1))/\Below w.heap.size w w':=by
 unfold plainP;have HE1:=fun W=>eql_ra x.1.step zR W
 have HE2:=fun W=>eql_ra x.1.cap zR W
 generalize decide (x.1.step=zR)=a at*;generalize decide (x.1.cap=zR)=b at*;obtain⟨⟨nm,⟨tt,tm,td⟩,ch,⟨sn1,sn2,sn3⟩,⟨cn1,cn2,cn3⟩,bo⟩,⟨ha,hn,hcc⟩⟩:=x;unfold pvCells;simp only[Ra.v,zR] at HE1 HE2⊢;go_enter Tryz.func79,Tryz.ntmps79
 go_upto_region 1 with fail
 generalize hX:w.alloc _=W;obtain⟨hk,hb⟩:=zA hX;have hkc:=hk.cells;clear hX hk;cases a
 all_goals
  go_wp2;go_ret;exact⟨by simp,hb⟩
theorem uCapped_any (x:Pv × Hd) (w:World) (hs:FineR x.1.step) (hc:FineR x.1.cap):Calls Tryz.prog 80 #[.agg (pvCells x).toArray] w fun e w'=>e=.returned (.bool (cappedP x.1))/\Below w.heap.size w w':=by
 obtain⟨s1,s2⟩:=hs;obtain⟨c1,c2⟩:=hc;have HP:Hid (cappedP x.1=(!x.1.ty.truth&&(fitsR x.1.step&&(fitsR x.1.cap&&(decide (0<signR x.1.step)&&(decide ((quoR x.1.cap x.1.step).1.den=(ofI 1).den)&&(decide (0<signR (quoR x.1.cap x.1.step).1)&&decide (cmpR (quoR x.1.cap x.1.step).1 (ofI 200)<=0)))))))):=rfl;rw[HP.out];have HF1:=zH (fun W=>mFits_any x.1.step W (by omega) (by omega));have HF2:=zH (fun W=>mFits_any x.1.cap W (by omega) (by omega));have HS1:=zH (fun W=>qSign_any x.1.step W (by omega) (by omega));have HZ1:=zH (fun h:fitsR x.1.step=true=>fits_size h);have HZ2:=zH (fun h:fitsR x.1.cap=true=>fits_size h)
 have HQ:Hid (∀W,fitsR x.1.step=true->fitsR x.1.cap=true->0<signR x.1.step->Calls Tryz.prog 120 #[x.1.cap.v,x.1.step.v] W fun e w'=>e=.returned (.tuple #[(quoR x.1.cap x.1.step).1.v,.bool true])/\Below W.heap.size W w'):=fun W h1 h2 h3=>by
  obtain⟨p1,p2,p3⟩:=HZ1.out h1;obtain⟨q1,q2,q3⟩:=HZ2.out h2;exact qQuo_ok x.1.cap x.1.step W q1 p1 (sign_pos h3) 50 (by omega) q2 q3 p2 p3
 have HQZ:Hid (fitsR x.1.step=true->fitsR x.1.cap=true->0<signR x.1.step->okR (quoR x.1.cap x.1.step).1=true/\(quoR x.1.cap x.1.step).1.num.size<=100/\(quoR x.1.cap x.1.step).1.den.size<=100):=fun h1 h2 h3=>by
  obtain⟨p1,p2,p3⟩:=HZ1.out h1;obtain⟨q1,q2,q3⟩:=HZ2.out h2;have hz:=quoR_size x.1.cap x.1.step 50 q2 q3 p2 p3;refine⟨?_,hz.1,hz.2⟩;unfold quoR;rw[if_neg (sign_pos h3)];refine low_okR _ _ _ (Nat.mul_pos (okR_prts q1).2.1 ?_);exact vbs_pos (okR_prts p1).2.2.1 (sign_pos h3)
 have HO1:=zH (fun W=>qOf_any 1 W (by omega) (by omega));have HO2:=zH (fun W=>qOf_any 200 W (by omega) (by omega));generalize quoR x.1.cap x.1.step=q at*;obtain⟨⟨qn,qm,qd⟩,qb⟩:=q;simp only at HQ HQZ⊢;generalize fitsR x.1.step=f1 at*;generalize fitsR x.1.cap=f2 at*;generalize signR x.1.step=sg at*;clear HP HZ1 HZ2 s1 s2 c1 c2;obtain⟨⟨nm,⟨tt,tm,td⟩,ch,⟨sn1,sn2,sn3⟩,⟨cn1,cn2,cn3⟩,bo⟩,⟨ha,hn,hcc⟩⟩:=x;unfold pvCells;simp only[Ra.v] at HF1 HF2 HS1 HQ⊢;go_enter Tryz.func80,Tryz.ntmps80
 go_upto_region 1 with fail
 generalize hX:w.alloc _=W;obtain⟨hk,hb⟩:=zA hX;clear hX;have hc:=fun X (hX:Below W.heap.size W X)=>have q:=(hk.below hX hk.lt).cells;And.intro (q 1) (And.intro (q 6) (And.intro (q 7) (And.intro (q 8) (And.intro (q 9) (And.intro (q 10) (q 11))))))
 simp only[List.getElem?_cons_zero,List.getElem?_cons_succ] at hc;have hq:=hc W (Below.refl _ _);cases tt;rotate_left
 ·go_wp2;go_ret;exact⟨by simp,hb⟩
 go_wp2_with fail;refine (HF1.out W).mono ?_;rintro e w5 ⟨rfl,hb5⟩;have hq:=hc w5 hb5;cases f1
 ·go_wp2;go_ret;exact⟨by simp,bstep hb hb5⟩
 go_wp2_with fail;refine (HF2.out w5).mono ?_;rintro e w6 ⟨rfl,hb6⟩;replace hb6:=bstep hb5 hb6;have hq:=hc w6 hb6;cases f2
 ·go_wp2;go_ret;exact⟨by simp,bstep hb hb6⟩
 go_wp2_with fail;refine (HS1.out w6).mono ?_;rintro e w7 ⟨rfl,hb7⟩;replace hb7:=bstep hb6 hb7;have hq:=hc w7 hb7;by_cases hsg:sg<=0
 ·have h1:¬0<sg:=by omega
  go_wp2;go_ret;exact⟨by rw[decide_eq_false (show ¬0<sg by omega)];simp,bstep hb hb7⟩
 have hsp:0<sg:=by omega
 obtain⟨z1,z2,z3⟩:=HQZ.out trivial trivial hsp;have HQ2:=HQ.out w7 trivial trivial hsp;have HSG:=zH (fun W=>qSign_any ⟨qn,qm,qd⟩ W (Nat.le_trans z2 (by omega)) (Nat.le_trans z3 (by omega)));have HCM:=zH (fun W=>qCmp_ok ⟨qn,qm,qd⟩ (ofI 200) W z1 (by decide) 100 (by omega) z2 z3 (by decide) (by decide));simp only[Ra.v] at HSG HCM;obtain⟨sq,hsq⟩:=zF (signR ⟨qn,qm,qd⟩);obtain⟨cq,hcq⟩:=zF (cmpR ⟨qn,qm,qd⟩ (ofI 200));rw[hsq] at HSG;rw[hcq] at HCM;have HSQ:=zH hsq;have HCQ:=zH hcq;clear hsq hcq;obtain⟨dq,hdq⟩:=zF (qd.toList==(nbs 1).toList);have HDD:Hid (decide (qd=(ofI 1).den)=dq):=by show _=_;rw[<-hdq,beq_toList];rfl
 have hfd:=fld_den;clear z1 z2 z3 HQ HQZ;go_wp2_with fail;refine HQ2.mono ?_;rintro e w8 ⟨rfl,hb8⟩
 go_upto_region 4 with fail
 generalize hX:w8.alloc _=X;obtain⟨hn,hbn⟩:=zA hX;have hw:=bstep hb (bstep hb7 (bstep hb8 hbn));clear hX HQ2 hq hc hk hb8 hbn hsg;have hc:=fun Y (hY:Below X.heap.size X Y)=>have q:=(hn.below hY hn.lt).cells;And.intro (q 0) (And.intro (q 1) (q 2))
 simp only[List.getElem?_cons_zero,List.getElem?_cons_succ] at hc;refine reS (Below X.heap.size X) 99 (drewN_below _ _ 1) (fun w9 _ hS=>?_)
 iterate 2 refine reA ?_
 refine reC 2 (HO1.out w9) ?_;rintro e w9 ⟨rfl,h9⟩;refine⟨.agg #[.bool _,.string _,.string (nbs 1)],rfl,bstep hS h9,fun hS=>?_⟩
 iterate 3 refine reA ?_
 cases dq
 ·iterate 3 refine reB ?_
  iterate 2 refine reA ?_
  iterate 4 refine reB ?_
  iterate 2 refine reA ?_
  refine reE ?_;go_wp2;go_ret;exact⟨by rw[HDD.out];simp,bstep hw hS⟩
 refine reA ?_;refine reC 7 (HSG.out w9) ?_;rintro e w9 ⟨rfl,h9⟩;refine⟨_,rfl,bstep hS h9,fun hS=>?_⟩;by_cases hsq:0<sq
 ·iterate 4 refine reA ?_
  refine reC 12 (HO2.out w9) ?_;rintro e w9 ⟨rfl,h9⟩;refine⟨_,rfl,bstep hS h9,fun hS=>?_⟩;refine reC 13 (HCM.out w9) ?_;rintro e w9 ⟨rfl,h9⟩;refine⟨_,rfl,bstep hS h9,fun hS=>?_⟩
  iterate 3 refine reA ?_
  refine reE ?_;go_wp2;go_ret;exact⟨by rw[HDD.out,HSQ.out,HCQ.out,decide_eq_true hsq];(try rw[decide_eq_true hsp]);simp,bstep hw hS⟩
 ·have hs1:sq<=0:=by omega
  iterate 3 refine reA ?_
  iterate 4 refine reB ?_
  iterate 2 refine reA ?_
  refine reE ?_;go_wp2;go_ret;exact⟨by rw[HDD.out,HSQ.out,decide_eq_false (show ¬0<sq by omega)];simp,bstep hw hS⟩
theorem uProvision_any (sg:List Sg) (x:Pv × Hd) (A1:Option Addr) (k1 c1:Nat) (w:World) (hL:LaidK w) (hk1:k1=sg.length) (hm1:k1<=maxLen) (hr1:Rd w A1 (sgs sg)) (hb:RowAt w Nd.cells x.1.body x.2) (hs:FineR x.1.step) (hc:FineR x.1.cap) (hf:∀n∈x.1.body,Fine n):
  Calls Tryz.prog 29 #[.slice A1 k1 c1,.agg (pvCells x).toArray] w fun e w'=>e=.returned (.int .i64 (provE sg x.1))/\Below w.heap.size w w':=by
 have HT:=zH (fun W (h:Below w.heap.size w W)=>kType_any sg x.1.body A1 x.2.a k1 c1 x.2.n x.2.c W (hL.below h) hk1 hm1 (hr1.below h) ⟨(hb.below h).len,(hb.below h).cap,(hb.below h).max,(hb.below h).rd⟩ hf);have HPL:=zH (fun W=>uPlain_any x W);have HCP:=zH (fun W=>uCapped_any x W hs hc);have HL:Hid (∀W,Below w.heap.size w W->LaidK W):=fun W hb=>hL.below hb
 have HV1:Hid ((typeE sg x.1.body).2≠0->provE sg x.1=(typeE sg x.1.body).2):=fun h=>by unfold provE;rw[if_pos h]
 have HV2:Hid ((typeE sg x.1.body).2=0->decide ((typeE sg x.1.body).1=x.1.ty)=false->provE sg x.1=13):=fun h h2=>by unfold provE;rw[if_neg (by rw[h];simp),if_pos (of_decide_eq_false h2)]
 have HV3:Hid ((typeE sg x.1.body).2=0->decide ((typeE sg x.1.body).1=x.1.ty)=true->provE sg x.1=if (x.1.charge&& !decide ((typeE sg x.1.body).1=tCash))||(!plainP x.1&& !cappedP x.1) then 1 else 0):=fun h h2=>by
  have e:=of_decide_eq_true h2;unfold provE;rw[if_neg (by rw[h];simp),if_neg (by rw[e];simp),e];congr 3;rw[decide_not]
 have HNE:=fun W=>neq_ty (typeE sg x.1.body).1 x.1.ty W
 have HNC:=fun W=>neq_ty (typeE sg x.1.body).1 tCash W
 generalize provE sg x.1=R at*;generalize typeE sg x.1.body=te at*;generalize plainP x.1=pl at*;generalize cappedP x.1=cp at*;clear hL hk1 hm1 hr1 hb hs hc hf;obtain⟨te,z⟩:=te;simp only at HT HV1 HV2 HV3 HNE HNC;generalize decide (te=x.1.ty)=q1 at*;generalize decide (te=tCash)=q2 at*;obtain⟨et,em,ed⟩:=te;obtain⟨⟨nm,⟨tt,tm,td⟩,ch,⟨sn1,sn2,sn3⟩,⟨cn1,cn2,cn3⟩,bo⟩,⟨ha,hn,hcc⟩⟩:=x;unfold pvCells at HPL HCP⊢;simp only[Ty.v,tCash] at HT HNE HNC HPL HCP HV3⊢;obtain⟨W,hW⟩:=zE (w.alloc (.cells #[.string nm,.bool tt,.int .i64 tm,.int .i64 td,.slice ha hn hcc,.bool ch,.bool sn1,.string sn2,.string sn3,.bool cn1,.string cn2,.string cn3] 45));obtain⟨B,hB⟩:=zE w.heap.size;have HK:Hid (Blk W B 45 [.string nm,.bool tt,.int .i64 tm,.int .i64 td,.slice ha hn hcc,.bool ch,.bool sn1,.string sn2,.string sn3,.bool cn1,.string cn2,.string cn3]):=by show Blk _ _ _ _;rw[hW,hB];exact Blk.new w _ _
 have HBA:Hid (Below w.heap.size w W):=by show Below _ _ _;rw[hW];exact zB _ _
 have hkc:=HK.out.cells;go_enter Tryz.func29,Tryz.ntmps29
 go_upto_region 1 with fail
 simp only[<-hW,<-hB]
 clear hW hB;go_wp2_with fail;refine (HT.out W HBA.out).mono ?_;rintro e w5 ⟨rfl,hb5⟩;have HB5:=zH (bstep HBA.out hb5);have HK5:=zH (HK.out.below hb5 HK.out.lt);clear hb5 hkc HT
 go_upto_region 2 with fail
 obtain⟨w6,hw6⟩:∃x,x=w5.alloc (.cells #[.bool et,.int .i64 em,.int .i64 ed] 34):=⟨_,rfl⟩
 obtain⟨N,hN⟩:=zE w5.heap.size;have HKN:Hid (Blk w6 N 34 [.bool et,.int .i64 em,.int .i64 ed]):=by show Blk _ _ _ _;rw[hw6,hN];exact Blk.new _ _ _
 have HK6:Hid (Blk w6 B 45 [.string nm,.bool tt,.int .i64 tm,.int .i64 td,.slice ha hn hcc,.bool ch,.bool sn1,.string sn2,.string sn3,.bool cn1,.string cn2,.string cn3]):=by show Blk _ _ _ _;rw[hw6];exact HK5.out.alloc _
 have HB6:Hid (Below w.heap.size w w6):=by show Below _ _ _;rw[hw6];exact bstep HB5.out (zB _ _)
 simp only[<-hw6,<-hN]
 clear hw6 hN;have hkn:=HKN.out.cells;have hk6:=HK6.out.cells;have g0:=(HL.out _ HB6.out).scash 0 _ rfl;have g1:=(HL.out _ HB6.out).scash 1 _ rfl;have g2:=(HL.out _ HB6.out).scash 2 _ rfl;unfold tCash at g0 g1 g2;simp only at g0 g1 g2;by_cases hz:z=0
 ·subst hz;cases q1
  ·obtain rfl:R=13:=HV2.out rfl rfl;go_wp2;go_ret;exact⟨rfl,HB6.out⟩
  ·have hv3:=HV3.out rfl rfl;clear HV1 HV2 HV3;by_cases h1:(ch&& !q2)=true
   ·obtain⟨rfl,h2⟩:=Bool.and_eq_true_iff.1 h1;obtain rfl:q2=false:=by simpa using h2
    obtain rfl:R=1:=hv3;clear h1 h2;go_wp2;go_ret;exact⟨rfl,HB6.out⟩
   ·have h1':(ch&& !q2)=false:=by simpa using h1
    rw[h1',Bool.false_or] at hv3;have HV:=zH hv3;clear h1 hv3;have HX:Hid (∀W',Below w.heap.size w W'->True):=fun _ _=>trivial
    go_upto_region 6 with fail
    go_cut [23] from 24 to 30 (fun v wc=>v=.bool false/\wc=w6)
    case first=>
     cases ch
     ·go_wp2
      go_meet
      case rel=>exact⟨rfl,rfl⟩
     ·obtain rfl:q2=true:=by simpa using h1'
      go_wp2
      go_meet
      case rel=>exact⟨rfl,rfl⟩
    case rest=>
     obtain⟨rfl,rfl⟩:=hcut;clear h1';go_wp2_with fail;refine (HPL.out _).mono ?_;rintro e w7 ⟨rfl,hb7⟩;have HB7:=zH (bstep HB6.out hb7);have hk7:=(HK6.out.below hb7 HK6.out.lt).cells;clear hb7;cases pl
     ·go_wp2_with fail;refine (HCP.out _).mono ?_;rintro e w8 ⟨rfl,hb8⟩;have HB8:=zH (bstep HB7.out hb8);clear hb8;cases cp
      ·obtain rfl:R=1:=HV.out;go_wp2;go_ret;exact⟨rfl,HB8.out⟩
      ·obtain rfl:R=0:=HV.out;go_wp2;go_ret;exact⟨rfl,HB8.out⟩
     ·obtain rfl:R=0:=HV.out;go_wp2;go_ret;exact⟨rfl,HB7.out⟩
 ·obtain rfl:R=z:=HV1.out hz;have hzb:(R !=0)=true:=by simp[hz]
  have hzc:(R==0)=false:=by simp[hz]
  clear HV1 HV2 HV3 hz;go_wp2;go_ret;exact⟨rfl,HB6.out⟩
end Go.Proofs.YtimokmplkpbmdaaGreatDoor
