/- A part of the proof: Et Eu. -/
import Derived.Test.YtfajelpcfnfjkaaGreatDoorA31
set_option linter.unusedVariables false
set_option linter.unusedSimpArgs false
namespace Go.Proofs.YtfajelpcfnfjkaaGreatDoor
open Go.RowKit
set_option maxRecDepth 100000 in
set_option maxHeartbeats 3200000 in
theorem ex_op3 (w0:World) (hL:LaidE w0) (R:Nat) (hR0:w0.heap.size≤R) (s:List UInt8) (ns:List Nd) (b:Nat) (v:Value) (w:World) (hw0:Below w0.heap.size w0 w)
  (hR:Blk w R 177 [.string ⟨s.toArray⟩,v,.int .i64 (b:Int)]) (hown:w.ownsRow (R+1) 56 5 v ns.length (nds ns)) (hs:s.length≤1048576) (hb:b≤59) (hns:ns.length≤b) (hq:litA s=some none) (hy:spanW lettersL s≠yesL) (hn:spanW lettersL s≠noL) (hdot:Lib.hasPrefix (spanR lettersL s) [46]=false) (k:Nat) (hp:placeOf ⟨(dotA s).1.toArray⟩=(k:Int)) (hstp:(shp (k:Int)).stp=true) (f:Nat) (ih:∀(s:List UInt8) (ns:List Nd) (b:Nat) (v:Value) (w:World),Below w0.heap.size w0 w→Blk w R 177 [.string ⟨s.toArray⟩,v,.int .i64 (b:Int)]→w.ownsRow (R+1) 56 5 v ns.length (nds ns)→s.length≤1048576→ns.length≤b→b≤60→61≤b+f→Calls Tryz.prog 105 #[.pointer (some ⟨R,0,none⟩)] w (ExPost (parA f s ns b) R v w)) (hbf:61≤b+1+f):
  Calls Tryz.prog 105 #[.pointer (some ⟨R,0,none⟩)] w (ExPost (tailA (parA f) (k:Int) (dotA s).2 ns (b+1)) R v w):=by
 obtain⟨hk25,hkw,_⟩:=place_spec hp;have hnam:=dot_nam hp;rw[hdot] at hnam;have hol:=shp_ops_le (k:Int);have HIH:=Lib.hid ih;obtain⟨T,hT⟩:∃T,T=tailA (parA f) (k:Int) (dotA s).2 ns (b+1):=⟨_,rfl⟩
 rw[←hT];have HT:=Lib.hid hT;clear hT;clear ih hkw;have hc:=hR.cells;have hf:=hR.froz;have hb1:((b:Int)+1)≤60:=by omega
 have HO1:Hid (Onl R w (w.setCell ⟨R,2,none⟩ (.int .i64 ((b:Int)+1)))):=(Onl.refl R w).set 2 _;have HR1:Hid (Blk (w.setCell ⟨R,2,none⟩ (.int .i64 ((b:Int)+1))) R 177 [.string ⟨s.toArray⟩,v,.int .i64 ((b:Int)+1)]):=hR.set 2 _;have HU1:Hid (Under R (w.setCell ⟨R,2,none⟩ (.int .i64 ((b:Int)+1)))):=(under_of hL hR0 hw0).onl HO1.out;have HOWN:=Lib.hid hown;obtain⟨W1,hW1⟩:∃W1,W1=w.setCell ⟨R,2,none⟩ (.int .i64 ((b:Int)+1)):=⟨_,rfl⟩
 rw[←hW1] at HO1 HR1 HU1;have HLA:=Lib.hid (lit_any s R 177 [v,.int .i64 ((b:Int)+1)] W1 HR1.out HU1.out hs);go_enter Tryz.func105,Tryz.ntmps105;go_wp2_with fail;simp only[←hW1]
 clear hW1 hc hf;refine HLA.out.mono ?_;rw[hq];rintro e w2 ⟨⟨rfl,hk2⟩,ho2⟩;unfold nd Nd.v zR;simp only
 obtain⟨W2,hW2⟩:∃W2,W2=w2.alloc (.cells #[.int .i64 0,.bool false,.string ⟨#[]⟩,.string ⟨#[]⟩,.string ⟨#[]⟩] 56):=⟨_,rfl⟩
 obtain⟨N,hN⟩:∃N,N=w2.heap.size:=⟨_,rfl⟩
 have hkR:Blk W2 R 177 [.string ⟨s.toArray⟩,v,.int .i64 ((b:Int)+1)]:=by rw[hW2];exact hk2.alloc _
 have HO2:Hid (Onl R w W2):=by show Onl _ _ _;rw[hW2];exact (HO1.out.trans ho2).trans (Onl.of_below ((Below.refl _ _).alloc (Nat.le_refl _) _))
 have HSP:=Lib.hid (spanL_at s lettersL R 177 [v,.int .i64 ((b:Int)+1)] W2 hkR hs (by decide) (by decide));clear hk2 ho2 hkR HLA HR1 HO1;obtain⟨D,hD⟩:∃D:ByteArray,D=⟨(spanW lettersL s).toArray⟩:=⟨_,rfl⟩
 rw[←hD] at HSP;have hy1:(D.toList==[121,101,115])=false:=by rw[hD];exact ba_ne hy
 have hy2:(D.toList==[110,111])=false:=by rw[hD];exact ba_ne hn
 have hDs:D.size≤1048576:=by rw[hD];have:=spanW_len lettersL s;show (spanW lettersL s).length≤_;omega
 have HD:=Lib.hid hD;clear hD;unfold lettersL at HSP;go_wp2_with fail;simp only[←hW2,←hN]
 clear hW2 hN;refine HSP.out.mono ?_;rintro e w3 ⟨rfl,hk3,ho3⟩;obtain⟨W3,hW3⟩:∃W3,W3=w3.alloc (.cells #[.string D] 9):=⟨_,rfl⟩
 obtain⟨N4,hN4⟩:∃N4,N4=w3.heap.size:=⟨_,rfl⟩
 have hRN4:R<N4:=by rw[hN4];exact hk3.lt
 have HR3:Hid (Blk W3 R 177 [.string ⟨(spanR lettersL s).toArray⟩,v,.int .i64 ((b:Int)+1)]):=by show Blk _ _ _ _;rw[hW3];exact hk3.alloc _
 have HW4:Hid (Blk W3 N4 9 [.string D]):=by show Blk _ _ _ _;rw[hW3,hN4];exact Blk.new w3 _ _
 have HO3:Hid (Onl R w W3):=by show Onl _ _ _;rw[hW3];exact (HO2.out.trans ho3).trans (Onl.of_below ((Below.refl _ _).alloc (Nat.le_refl _) _))
 have HWN:Hid (w.heap.size≤N4∧N4<W3.heap.size):=⟨by rw[hN4];exact (HO2.out.trans ho3).size,HW4.out.lt⟩
 clear hk3 ho3 HSP;have hc4:=HW4.out.cells;have hcr:=HR3.out.cells;rw[hW3] at hc4 hcr;have HHP:=Lib.hid (fun W=>hasp_at (spanR lettersL s) [46] W);rw[hdot] at HHP;have hy3:(D.toList==(⟨#[121,101,115]⟩:ByteArray).toList)=false:=by rw[show (⟨#[121,101,115]⟩:ByteArray).toList=[121,101,115] by rw[ByteArray.toList_eq]];exact hy1
 have hy4:(D.toList==(⟨#[110,111]⟩:ByteArray).toList)=false:=by rw[show (⟨#[110,111]⟩:ByteArray).toList=[110,111] by rw[ByteArray.toList_eq]];exact hy2
 go_wp2_with fail;simp only[←hW3,←hN4]
 clear hW3 hN4 hc4 hcr;refine (HHP.out _).mono ?_;rintro e w4 ⟨rfl,rfl⟩;have e1:(dotA s).1=spanW lettersL s∧(dotA s).2=spanR lettersL s:=by unfold dotA;rw[hdot];exact⟨rfl,rfl⟩
 obtain⟨W6,hW6⟩:∃W6,W6=w4:=⟨_,rfl⟩
 have HR6:Hid (Blk W6 R 177 [.string ⟨(dotA s).2.toArray⟩,v,.int .i64 ((b:Int)+1)]):=by show Blk _ _ _ _;rw[hW6,e1.2];exact HR3.out
 have HQ6:Hid (Blk W6 N4 9 [.string ⟨(dotA s).1.toArray⟩]):=by show Blk _ _ _ _;rw[hW6,e1.1,←HD.out];exact HW4.out
 have HO6:Hid (Onl R w W6):=by show Onl _ _ _;rw[hW6];exact HO3.out
 have HN6:Hid (w.heap.size≤N4∧N4<W6.heap.size):=⟨HWN.out.1,HQ6.out.lt⟩
 subst hW6;clear HR3 HW4 HO3 HWN e1;have hL6:LaidE W6:=hL.below (hw0.trans (HO6.out.below hR0 hw0.size));have HL6:=Lib.hid hL6;have HIX:=Lib.hid (placeOf_at ⟨(dotA s).1.toArray⟩ N4 9 0 0 25 W6 HQ6.out hL6.glob (tab_cells hL6));rw[hp] at HIX;clear hL6;go_wp2_with fail;refine HIX.out.mono ?_;rintro e w7 ⟨rfl,hb7⟩;have hk7:=HR6.out.below hb7 HR6.out.lt;have HK7:=Lib.hid hk7;have HL7:=Lib.hid (HL6.out.below hb7);have HO7:Hid (Onl R w w7):=HO6.out.trans (Onl.of_below hb7);have hlt7:w.heap.size≤w7.heap.size:=HO7.out.size;have ht0:=HL7.out.cell k 0 (by omega) (by omega);have ht1:=HL7.out.cell k 1 (by omega) (by omega);have ht2:=HL7.out.cell k 2 (by omega) (by omega);have ht3:=HL7.out.cell k 3 (by omega) (by omega);have ht4:=HL7.out.cell k 4 (by omega) (by omega);have hta:=fun (o:Obj) (i:Nat) (hi:i<5)=>(HL7.out.alloc o).cell k i (by omega) hi
 have htb:=fun (o o':Obj) (i:Nat) (hi:i<5)=>((HL7.out.alloc o).alloc o').cell k i (by omega) hi
 have hta0:=fun o=>hta o 0 (by omega)
 have hta1:=fun o=>hta o 1 (by omega)
 have hta2:=fun o=>hta o 2 (by omega)
 have hta3:=fun o=>hta o 3 (by omega)
 have hta4:=fun o=>hta o 4 (by omega)
 have htb0:=fun o o'=>htb o o' 0 (by omega)
 have htb1:=fun o o'=>htb o o' 1 (by omega)
 have htb2:=fun o o'=>htb o o' 2 (by omega)
 have htb3:=fun o o'=>htb o o' 3 (by omega)
 have htb4:=fun o o'=>htb o o' 4 (by omega)
 clear hta htb;have hkk:(k:Int)<25:=by omega
 simp only[Sh.cells,List.getElem?_cons_zero,List.getElem?_cons_succ,Nat.add_zero] at ht0 ht1 ht2 ht3 ht4 hta0 hta1 hta2 hta3 hta4 htb0 htb1 htb2 htb3 htb4;clear hb7 HIX HR6 HQ6 HO6 HN6 HL6 hk7;generalize hsh:shp (k:Int)=sh at*;obtain⟨wdl,oo,lit,nam,stp⟩:=sh;simp only at ht0 ht1 ht2 ht3 ht4 hta0 hta1 hta2 hta3 hta4 htb0 htb1 htb2 htb3 htb4 hnam hstp hol;subst hnam hstp;obtain⟨wd,hwd⟩:∃wd:ByteArray,⟨wdl.toArray⟩=wd:=⟨_,rfl⟩
 simp only[hwd] at ht0 hta0 htb0;have HSH:=Lib.hid hsh;clear hwd hsh hp hn hy hq;go_wp2_with fail;go_region
 ·obtain⟨W8,hW8⟩:∃W8,W8=(w7.alloc (.cells #[.int .i64 (k:Int),.bool false,.string ⟨#[]⟩,.string ⟨#[]⟩,.string ⟨#[]⟩] 56)).alloc (.cells #[.string wd,.int .i64 (oo:Int),.bool lit,.bool false,.bool true] 86):=⟨_,rfl⟩
  obtain⟨Na,hNa⟩:∃Na,Na=w7.heap.size:=⟨_,rfl⟩
  have hk8a:Blk W8 Na 56 [.int .i64 (k:Int),.bool false,.string ⟨#[]⟩,.string ⟨#[]⟩,.string ⟨#[]⟩]:=by rw[hW8,hNa];exact (Blk.new w7 _ _).alloc _
  have hk8b:Blk W8 (Na+1) 86 [.string wd,.int .i64 (oo:Int),.bool lit,.bool false,.bool true]:=by
   have h:=Blk.new (w7.alloc (.cells #[.int .i64 (k:Int),.bool false,.string ⟨#[]⟩,.string ⟨#[]⟩,.string ⟨#[]⟩] 56)) 86 #[.string wd,.int .i64 (oo:Int),.bool lit,.bool false,.bool true];rw[World.size_alloc] at h;rw[hW8,hNa];exact h
  have HO8:Hid (Onl R w W8):=by show Onl _ _ _;rw[hW8];exact (HO7.out.trans (Onl.of_below ((Below.refl _ _).alloc (Nat.le_refl _) _))).trans (Onl.of_below ((Below.refl _ _).alloc (Nat.le_refl _) _))
  have HR8:Hid (Blk W8 R 177 [.string ⟨(dotA s).2.toArray⟩,v,.int .i64 ((b:Int)+1)]):=by show Blk _ _ _ _;rw[hW8];exact (HK7.out.alloc _).alloc _
  have hlt8:w.heap.size≤Na∧R<Na:=⟨by omega,by rw[hNa];exact HK7.out.lt⟩
  clear ht0 ht1 ht2 ht3 ht4 hta0 hta1 hta2 hta3 hta4 htb0 htb1 htb2 htb3 htb4 HO7 HK7;have HNn0:=Lib.hid hk8a;have HNs0:=Lib.hid hk8b;have hcn:=hk8a.cells;have hfn:=hk8a.froz;have hcs:=hk8b.cells;rw[hW8] at hcn hcs hfn
  have HT3:Hid (T=(if Lib.hasPrefix (dotA s).2 [91] then (numA ((dotA s).2.drop 1)).bind fun q=>if Lib.hasPrefix q.2 [93] then some (q.1,q.2.drop 1) else none else none).bind fun q=>(opsA (parA f) oo 0 q.2 ns (b+1)).bind (tl3 (k:Int) [] q.1)):=by
   show _=_;rw[HT.out];unfold tailA tl3 stpA;rw[HSH.out];rfl
  have hs8:(dotA s).2.length≤1048576:=by have:=(dotA_len s).1;omega
  have HHR8:=Lib.hid hR.lt;have HBw:Hid (Below R w W8.drew):=HO8.out.drew.below (Nat.le_refl _) (Nat.le_of_lt HHR8.out);generalize (dotA s).2=r2 at*;clear HT;go_wp2_with fail;simp only[←hW8,←hNa]
  clear hW8 hNa hcn hcs hfn;cases ha:Lib.hasPrefix r2 [91]
  ·have hTn:T=none:=by rw[HT3.out,ha];rfl
   have HWn:=Lib.hid (wantL_no r2 [91] R 177 [v,.int .i64 ((b:Int)+1)] W8.drew HR8.out ha);clear HT3;subst hTn;refine HWn.out.mono ?_;rintro e w10 ⟨rfl,rfl⟩;go_wp2;exact⟨rfl,rfl,HBw.out⟩
  ·rw[ha] at HT3;obtain⟨Y,hY⟩:∃Y,r2.drop 1=Y:=⟨_,rfl⟩
   have hYl:Y.length≤1048576:=by rw[←hY,List.length_drop];omega
   have HWy:Hid (Calls Tryz.prog 139 #[.pointer (some ⟨R,0,none⟩),.string ⟨#[91]⟩] W8.drew fun e w'=>e=.returned (.tuple #[])∧Blk w' R 177 [.string ⟨Y.toArray⟩,v,.int .i64 ((b:Int)+1)]∧Onl R W8.drew w'):=by
    show Calls _ _ _ _ _;rw[←hY];exact wantL_yes r2 [91] R 177 [v,.int .i64 ((b:Int)+1)] _ HR8.out ha
   rw[hY] at HT3;clear hY ha hs8;refine HWy.out.mono ?_;rintro e wa ⟨rfl,hka,hoa⟩;have hoa2:Onl R w wa:=HO8.out.drew.trans hoa;have hUa:Under R wa:=(under_of hL hR0 hw0).onl hoa2;have HOa:=Lib.hid hoa2;have HKa:=Lib.hid hka;have HNa':=Lib.hid (hoa.blk HNn0.out (by omega));have HSa:=Lib.hid (hoa.blk HNs0.out (by omega));cases hnu:numA Y with
   |none=>
    have hTn:T=none:=by rw[HT3.out,hnu];rfl
    have HNU:=Lib.hid (num_no Y R 177 [v,.int .i64 ((b:Int)+1)] wa hka hUa hYl hnu);clear HT3 hka hoa hoa2 hUa hnu;subst hTn;go_wp2_with fail;refine HNU.out.mono ?_;rintro e wb ⟨rfl,hob⟩;have HBp:Hid (Below R w wb):=(HOa.out.trans hob).below (Nat.le_refl _) (Nat.le_of_lt HHR8.out);clear hob;go_wp2;exact⟨rfl,rfl,HBp.out⟩
   |some ar=>
    obtain⟨⟨an,au,ad⟩,r3⟩:=ar;have hr3:=numA_len hnu;have HNU:=Lib.hid (num_yes Y R 177 [v,.int .i64 ((b:Int)+1)] wa hka hUa hYl _ _ hnu);unfold Ra.v at HNU;simp only at HNU
    have HT5:Hid (T=(if Lib.hasPrefix r3 [93] then some ((⟨an,au,ad⟩:Ra),r3.drop 1) else none).bind fun q=>(opsA (parA f) oo 0 q.2 ns (b+1)).bind (tl3 (k:Int) [] q.1)):=by
     show _=_;rw[HT3.out,hnu];rfl
    clear HT3 hka hoa hoa2 hUa hnu;go_wp2_with fail;refine HNU.out.mono ?_;rintro e wb ⟨rfl,hkb,hob⟩;have hnb:=hob.blk HNa'.out (by omega);have hsb:=hob.blk HSa.out (by omega);have hcn:=hnb.cells;have hfn:=hnb.froz;obtain⟨Wc,hWc⟩:∃Wc,Wc=((wb.setCell ⟨Na,1,none⟩ (.bool an)).setCell ⟨Na,2,none⟩ (.string au)).setCell ⟨Na,3,none⟩ (.string ad):=⟨_,rfl⟩
    have HNc:Hid (Blk Wc Na 56 [.int .i64 (k:Int),.bool an,.string au,.string ad,.string ⟨#[]⟩]):=by show Blk _ _ _ _;rw[hWc];exact ((hnb.set 1 (.bool an)).set 2 (.string au)).set 3 (.string ad)
    have HSc:Hid (Blk Wc (Na+1) 86 [.string wd,.int .i64 (oo:Int),.bool lit,.bool false,.bool true]):=by
     show Blk _ _ _ _;rw[hWc];exact ((hsb.other (p:=⟨Na,1,none⟩) (by show (Na+1)≠Na;omega) _).other (p:=⟨Na,2,none⟩) (by show (Na+1)≠Na;omega) _).other (p:=⟨Na,3,none⟩) (by show (Na+1)≠Na;omega) _
    have HRc:Hid (Blk Wc R 177 [.string ⟨r3.toArray⟩,v,.int .i64 ((b:Int)+1)]):=by
     show Blk _ _ _ _;rw[hWc];exact ((hkb.other (p:=⟨Na,1,none⟩) (by show R≠Na;omega) _).other (p:=⟨Na,2,none⟩) (by show R≠Na;omega) _).other (p:=⟨Na,3,none⟩) (by show R≠Na;omega) _
    have HOc:Hid (Onl R w Wc):=by
     show Onl _ _ _;rw[hWc];exact (((HOa.out.trans hob).fresh (by omega) 1 _).fresh (by omega) 2 _).fresh (by omega) 3 _
    clear hkb hob hnb hsb HNa' HSa HOa HKa HNn0 HNs0 HO8 HR8;go_wp2_with fail;simp only[←hWc]
    clear hWc hcn hfn;cases hb2:Lib.hasPrefix r3 [93]
    ·have hTn:T=none:=by rw[HT5.out,hb2];rfl
     have HWn:=Lib.hid (wantL_no r3 [93] R 177 [v,.int .i64 ((b:Int)+1)] Wc HRc.out hb2);have HBp:Hid (Below R w Wc):=HOc.out.below (Nat.le_refl _) (Nat.le_of_lt HHR8.out);clear HT5;subst hTn;refine HWn.out.mono ?_;rintro e w10 ⟨rfl,rfl⟩;go_wp2;exact⟨rfl,rfl,HBp.out⟩
    ·rw[hb2] at HT5;obtain⟨s9,hs9e⟩:∃s9,r3.drop 1=s9:=⟨_,rfl⟩
     have hs9:s9.length≤1048576:=by rw[←hs9e,List.length_drop];omega
     have HWz:Hid (Calls Tryz.prog 139 #[.pointer (some ⟨R,0,none⟩),.string ⟨#[93]⟩] Wc fun e w'=>e=.returned (.tuple #[])∧Blk w' R 177 [.string ⟨s9.toArray⟩,v,.int .i64 ((b:Int)+1)]∧Onl R Wc w'):=by
      show Calls _ _ _ _ _;rw[←hs9e];exact wantL_yes r3 [93] R 177 [v,.int .i64 ((b:Int)+1)] _ HRc.out hb2
     have HT4:Hid (T=(opsA (parA f) oo 0 s9 ns (b+1)).bind (tl3 (k:Int) [] (⟨an,au,ad⟩:Ra))):=by
      show _=_;rw[HT5.out,←hs9e];rfl
     clear hs9e hb2 HT5 hYl hr3;refine HWz.out.mono ?_;rintro e W9 ⟨rfl,hk9,ho9⟩;have HR9:=Lib.hid hk9;have HN9:=Lib.hid (ho9.blk HNc.out (by omega));have HS9:=Lib.hid (ho9.blk HSc.out (by omega));have HO9:Hid (Onl R w W9):=HOc.out.trans ho9;have hcs:=HS9.out.cells;clear hk9 ho9 HRc HNc HSc HOc;have HND:Hid (nd (k:Int) (⟨an,au,ad⟩:Ra) []=⟨(k:Int),⟨an,au,ad⟩,⟨#[]⟩⟩):=rfl;obtain⟨qn,hqn⟩:∃qn,qn=nd (k:Int) (⟨an,au,ad⟩:Ra) []:=⟨_,rfl⟩
     go_wp2_with fail;clear hcs
     have hown2:W9.ownsRow (R+1) 56 5 v ns.length (nds ns):=HOWN.out.kept (row:=some R) ⟨HO9.out.os,HO9.out.tape,HO9.out.output,HO9.out.size,fun k hk hne=>HO9.out.block k hk (fun h=>hne (by rw[h]))⟩ (by
      cases hv:v.ownBlock with
      |none=>exact .inl rfl
      |some g=>exact .inr (by intro h;injection h with h;have:=(HOWN.out.lt g hv).1;omega))
     have hvN:v.ownBlock≠some Na:=fun h=>by have:=(HOWN.out.lt Na h).2;have:=hlt8;omega
     have hvS:v.ownBlock≠some (Na+1):=fun h=>by have:=(HOWN.out.lt (Na+1) h).2;have:=hlt8;omega
     have HOW9:=Lib.hid hown2;have HVN:=Lib.hid hvN;have HVS:=Lib.hid hvS;have hRn:Na≠R:=by omega
     have hRs:(Na+1)≠R:=by omega
     have HTL:Hid (∀t:PS,tl3 (k:Int) [] (⟨an,au,ad⟩:Ra) t=if 0<oo then (if Lib.hasPrefix t.1 [41] then some (t.1.drop 1,t.2.1++[qn],t.2.2) else none) else some (t.1,t.2.1++[qn],t.2.2)):=fun t=>by
      unfold tl3;rw[HSH.out,hqn]
     have HQN:Hid (qn=⟨(k:Int),(⟨an,au,ad⟩:Ra),(⟨#[]⟩:ByteArray)⟩):=by show _=_;rw[hqn];exact HND.out
     generalize tl3 (k:Int) [] (⟨an,au,ad⟩:Ra)=TL at*;clear hown2 hvN hvS hqn HND HSH
     go_loopg [101] oo (fun g iv wr=>∃(i:Nat) (s':List UInt8) (ns':List Nd) (b':Nat) (v':Value),i+g=oo∧iv=.int .i64 (i:Int)∧Hid (T=(opsA (parA f) g i s' ns' b').bind TL)∧Hid (Blk wr R 177 [.string ⟨s'.toArray⟩,v',.int .i64 (b':Int)])∧Hid (wr.ownsRow (R+1) 56 5 v' ns'.length (nds ns'))∧Hid (PF R W9 v wr v')∧Hid (s'.length≤1048576∧ns'.length≤b'∧b'≤60∧b+1≤b'))
     case atStart=>exact⟨0,s9,ns,b+1,v,by omega,rfl,HT4.out,HR9.out,HOW9.out,PF.of_onl (Onl.refl _ _),⟨hs9,by omega,by omega,Nat.le_refl _⟩⟩
     case round=>
      obtain⟨i,s',ns',b',v',hi,rfl,hTr,hRr,hor,hpr,hbd⟩:=hrel;have hrN:=hpr.out.blk HN9.out hRn HVN.out;have hrS:=hpr.out.blk HS9.out hRs HVS.out;by_cases hlt:i<oo
      ·obtain⟨m,rfl⟩:∃m,gk=m+1:=⟨gk-1,by omega⟩
       have hi3:i<3:=by omega
       obtain⟨Z,hZ⟩:∃Z:ByteArray,Z=⟨(sepW i).toArray⟩:=⟨_,rfl⟩
       have hz1:(wr.alloc (.cells #[.string ⟨#[40]⟩,.string ⟨#[44,32]⟩,.string ⟨#[44,32]⟩] 9)).cell? ⟨wr.heap.size,i,none⟩=some (.string Z):=by
        have h:=(Blk.new wr 9 #[.string ⟨#[40]⟩,.string ⟨#[44,32]⟩,.string ⟨#[44,32]⟩]).cells i;rw[h,hZ];rcases (by omega:i=0∨i=1∨i=2) with rfl|rfl|rfl<;>rfl
       have HZ:=Lib.hid hZ;clear hZ;have HHR:=Lib.hid hR.lt;go_wp2_with fail;cases hpx:Lib.hasPrefix s' (sepW i)
       ·have hTn:T=none:=by rw[hTr.out,opsA,if_neg (by rw[hpx];simp)];rfl
        have HWn:Hid (Calls Tryz.prog 139 #[.pointer (some ⟨R,0,none⟩),.string Z] (wr.alloc (.cells #[.string ⟨#[40]⟩,.string ⟨#[44,32]⟩,.string ⟨#[44,32]⟩] 9)) fun e w'=>e=.panicked noText∧w'=wr.alloc (.cells #[.string ⟨#[40]⟩,.string ⟨#[44,32]⟩,.string ⟨#[44,32]⟩] 9)):=by
         show Calls _ _ _ _ _;rw[HZ.out];exact wantL_no s' (sepW i) R 177 [v',.int .i64 (b':Int)] _ (hRr.out.alloc _) hpx
        have HBp:Hid (Below R w (wr.alloc (.cells #[.string ⟨#[40]⟩,.string ⟨#[44,32]⟩,.string ⟨#[44,32]⟩] 9))):=(((PF.of_onl HO9.out).trans hpr.out).alloc _).below hown (Nat.le_refl _) (Nat.le_of_lt HHR.out);subst hTn;refine HWn.out.mono ?_;rintro e w10 ⟨rfl,rfl⟩;clear hpx hz1 hrN hrS;go_wp2;exact⟨rfl,rfl,HBp.out⟩
       ·have HWy:Hid (Calls Tryz.prog 139 #[.pointer (some ⟨R,0,none⟩),.string Z] (wr.alloc (.cells #[.string ⟨#[40]⟩,.string ⟨#[44,32]⟩,.string ⟨#[44,32]⟩] 9)) fun e w'=>e=.returned (.tuple #[])∧Blk w' R 177 [.string ⟨(s'.drop (sepW i).length).toArray⟩,v',.int .i64 (b':Int)]∧Onl R (wr.alloc (.cells #[.string ⟨#[40]⟩,.string ⟨#[44,32]⟩,.string ⟨#[44,32]⟩] 9)) w'):=by
         show Calls _ _ _ _ _;rw[HZ.out];exact wantL_yes s' (sepW i) R 177 [v',.int .i64 (b':Int)] _ (hRr.out.alloc _) hpx
        refine HWy.out.mono ?_;rintro e w10 ⟨rfl,hk10,ho10⟩;have hp9:PF R W9 v w10 v':=(hpr.out.alloc _).trans (PF.of_onl ho10);have hp10:PF R w v w10 v':=(PF.of_onl HO9.out).trans hp9;have hor10:w10.ownsRow (R+1) 56 5 v' ns'.length (nds ns'):=own_onl (hor.out.alloc _) ho10;have hb10:Below w0.heap.size w0 w10:=hw0.trans (hp10.below hown hR0 hw0.size);have hs10:(s'.drop (sepW i).length).length≤1048576:=by have:=drop_len s' (sepW i).length;have:=hbd.out.1;omega
        have HC:=Lib.hid (HIH.out (s'.drop (sepW i).length) ns' b' v' w10 hb10 hk10 hor10 hs10 hbd.out.2.1 hbd.out.2.2.1 (by have:=hbd.out.2.2.2;omega));have HP9:=Lib.hid hp9;have HBR:Hid (Below R w w10):=hp10.below hown (Nat.le_refl _) (Nat.le_of_lt HHR.out);clear hk10 ho10 hp9 hp10 hor10 hb10 hs10 hz1 hrN hrS HWy;cases hpa:parA f (s'.drop (sepW i).length) ns' b' with
        |none=>
         have hTn:T=none:=by rw[hTr.out,opsA,if_pos hpx,hpa];rfl
         rw[hpa] at HC;subst hTn;clear hpx hpa;go_wp2_with fail;refine HC.out.mono ?_;rintro e w11 ⟨rfl,hb11⟩;have HBp:Hid (Below R w w11):=HBR.out.trans hb11;clear hb11;go_wp2;exact⟨rfl,rfl,HBp.out⟩
        |some q=>
         obtain⟨s2,ns2,b2⟩:=q;have pb:=(parA_pb f _ _ _ _ hpa).1;have pb1:=pb.rest;have pb2:=pb.begun;have pb3:=pb.most;have pb4:=pb.nodes;have hdl:=drop_len s' (sepW i).length;simp only at pb1 pb2 pb3 pb4
         have HT6:Hid (T=(opsA (parA f) m (i+1) s2 ns2 b2).bind TL):=by
          show _=_;rw[hTr.out,opsA,if_pos hpx,hpa];rfl
         have HBD:Hid (s2.length≤1048576∧ns2.length≤b2∧b2≤60∧b+1≤b2):=by
          have h:=hbd.out;exact⟨by omega,by omega,pb3,by omega⟩
         rw[hpa] at HC;clear hpx hpa pb pb1 pb2 pb3 pb4 hdl;go_wp2_with fail;refine HC.out.mono ?_;rintro e w11 ⟨rfl,v2,hk11,hor11,hpf11⟩;have HK11:=Lib.hid hk11;have HOR11:=Lib.hid hor11;have HPF11:Hid (PF R W9 v w11 v2):=HP9.out.trans hpf11;clear hk11 hor11 hpf11;go_wp2
         go_roundg m
         case measure=>omega
         case rel=>exact⟨i+1,s2,ns2,b2,v2,by omega,by go_num,HT6,HK11,HOR11,HPF11,HBD⟩
      ·obtain rfl:i=oo:=by omega
       obtain rfl:gk=0:=by omega
       have hT5:T=TL (s',ns',b'):=by rw[hTr.out];rfl
       rw[HTL.out] at hT5;have HT5:=Lib.hid hT5;have hcs:=hrS.cells;have hns':ns'.length≤60:=by have:=hbd.out;omega
       have hqn2:=HQN.out;subst hqn2;clear hT5 HIH;by_cases ho:i=0
       ·subst ho;have hT6:=HT5.out;rw[if_neg (by omega)] at hT6;clear HT5;subst hT6;have HPX:=Lib.hid (((PF.of_onl HO9.out).trans hpr.out).drew);have hkR:=hRr.out;have hkN:=hrN;have hown2:=hor.out;clear hrN hrS hRr hor;go_wp2_with fail;clear hcs;have hcR:=hkR.drew.cells;have hfR:=hkR.drew.froz;have hcN:=hkN.drew.cells;have hcR2:=(hkR.alloc (.cells #[.int .i64 (k:Int),.bool an,.string au,.string ad,.string ⟨#[]⟩] 56)).cells;have hcN2:=(hkN.alloc (.cells #[.int .i64 (k:Int),.bool an,.string au,.string ad,.string ⟨#[]⟩] 56)).cells;have HKR:=Lib.hid hkR;have hszW:R+1≤wr.heap.size:=hkR.lt;have HOWN2:=Lib.hid hown2;clear hkR hkN hown2
        go_region_law ((refine step_push_at wr.drew #[.int .i64 (k:Int),.bool an,.string au,.string ad,.string ⟨#[]⟩] (by rfl) _ _ 43 (by rfl) (R+1) 56 (.agg #[.int .i64 0,.bool false,.string ⟨#[]⟩,.string ⟨#[]⟩,.string ⟨#[]⟩]) 5 64 1 Tryz.underlying43 info_node rfl (by decide) v' ns'.length (nds ns') (by rfl) HOWN2.out (by rfl) (by rfl) (by simp[Value.oneCell']) (by unfold maxLen;omega) (by omega) hszW ?_;intro v5 w5 hown5 hg5 hv5;obtain⟨g5,cap5,rfl,hgR⟩:=own_form hown5 (by omega);have hk5:=HKR.out.of_block (hg5.block R HKR.out.lt (fun h=>by have:=(HOWN2.out.lt R h.symm).1;omega));have HK5:=Lib.hid hk5;have hc5:=hk5.cells;have hf5:=hk5.froz;have HOWN5:=Lib.hid hown5;have HG5:=Lib.hid hg5;have HV5:=Lib.hid hv5;clear hown5 hg5 hv5 hk5))
        all_goals
         go_wp2
         first|go_end0|refine bodyPost_ret (results_none rfl _ _ _) rfl ?_
         refine⟨rfl,_,HK5.out.set 1 _,?_,HPX.out.trans (PF.push HG5.out HV5.out 1 _)⟩;rw[List.length_append,nds_snoc];exact own_set HOWN5.out 1 _
       ·have hop:0<i:=by omega
        have HHR:=Lib.hid hR.lt;cases hpx2:Lib.hasPrefix s' [41]
        ·have hT6:=HT5.out;rw[if_pos hop,hpx2,if_neg (by simp)] at hT6;have HWn:=Lib.hid (wantL_no s' [41] R 177 [v',.int .i64 (b':Int)] wr hRr.out hpx2);have HBp:Hid (Below R w wr):=((PF.of_onl HO9.out).trans hpr.out).below hown (Nat.le_refl _) (Nat.le_of_lt HHR.out);clear HT5 hpx2;subst hT6;go_wp2_with fail;refine HWn.out.mono ?_;rintro e w13 ⟨rfl,rfl⟩;go_wp2;exact⟨rfl,rfl,HBp.out⟩
        ·have hT6:=HT5.out;rw[if_pos hop,hpx2,if_pos rfl] at hT6;obtain⟨Y,hY⟩:∃Y,s'.drop 1=Y:=⟨_,rfl⟩
         have HWy:Hid (Calls Tryz.prog 139 #[.pointer (some ⟨R,0,none⟩),.string ⟨#[41]⟩] wr fun e w'=>e=.returned (.tuple #[])∧Blk w' R 177 [.string ⟨Y.toArray⟩,v',.int .i64 (b':Int)]∧Onl R wr w'):=by
          show Calls _ _ _ _ _;rw[←hY];exact wantL_yes s' [41] R 177 [v',.int .i64 (b':Int)] wr hRr.out hpx2
         rw[hY] at hT6;clear hY;have HRN:=Lib.hid hrN;clear HT5 hpx2 hrN hrS;subst hT6;go_wp2_with fail;refine HWy.out.mono ?_;rintro e w13 ⟨rfl,hkR,ho13⟩;have hkN:=ho13.blk HRN.out hRn;have hown2:=own_onl hor.out ho13;have HPX:=Lib.hid (((PF.of_onl HO9.out).trans (hpr.out.trans (PF.of_onl ho13))).drew);clear hRr hor hcs ho13;go_wp2_with fail;have hcR:=hkR.drew.cells;have hfR:=hkR.drew.froz;have hcN:=hkN.drew.cells;have hcR2:=(hkR.alloc (.cells #[.int .i64 (k:Int),.bool an,.string au,.string ad,.string ⟨#[]⟩] 56)).cells;have hcN2:=(hkN.alloc (.cells #[.int .i64 (k:Int),.bool an,.string au,.string ad,.string ⟨#[]⟩] 56)).cells;have HKR:=Lib.hid hkR;have hszW:R+1≤w13.heap.size:=hkR.lt;have HOWN2:=Lib.hid hown2;clear hkR hkN hown2
         go_region_law ((refine step_push_at w13.drew #[.int .i64 (k:Int),.bool an,.string au,.string ad,.string ⟨#[]⟩] (by rfl) _ _ 43 (by rfl) (R+1) 56 (.agg #[.int .i64 0,.bool false,.string ⟨#[]⟩,.string ⟨#[]⟩,.string ⟨#[]⟩]) 5 64 1 Tryz.underlying43 info_node rfl (by decide) v' ns'.length (nds ns') (by rfl) HOWN2.out (by rfl) (by rfl) (by simp[Value.oneCell']) (by unfold maxLen;omega) (by omega) hszW ?_;intro v5 w5 hown5 hg5 hv5;obtain⟨g5,cap5,rfl,hgR⟩:=own_form hown5 (by omega);have hk5:=HKR.out.of_block (hg5.block R HKR.out.lt (fun h=>by have:=(HOWN2.out.lt R h.symm).1;omega));have HK5:=Lib.hid hk5;have hc5:=hk5.cells;have hf5:=hk5.froz;have HOWN5:=Lib.hid hown5;have HG5:=Lib.hid hg5;have HV5:=Lib.hid hv5;clear hown5 hg5 hv5 hk5))
         all_goals
          go_wp2
          first|go_end0|refine bodyPost_ret (results_none rfl _ _ _) rfl ?_
          refine⟨rfl,_,HK5.out.set 1 _,?_,HPX.out.trans (PF.push HG5.out HV5.out 1 _)⟩;rw[List.length_append,nds_snoc];exact own_set HOWN5.out 1 _
 ·obtain⟨W8,hW8⟩:∃W8,W8=(w7.alloc (.cells #[.string wd,.int .i64 (oo:Int),.bool lit,.bool false,.bool true] 86)).alloc (.cells #[.int .i64 (k:Int),.bool false,.string ⟨#[]⟩,.string ⟨#[]⟩,.string ⟨#[]⟩] 56):=⟨_,rfl⟩
  obtain⟨Na,hNa⟩:∃Na,Na=w7.heap.size:=⟨_,rfl⟩
  have hk8a:Blk W8 Na 86 [.string wd,.int .i64 (oo:Int),.bool lit,.bool false,.bool true]:=by rw[hW8,hNa];exact (Blk.new w7 _ _).alloc _
  have hk8b:Blk W8 (Na+1) 56 [.int .i64 (k:Int),.bool false,.string ⟨#[]⟩,.string ⟨#[]⟩,.string ⟨#[]⟩]:=by
   have h:=Blk.new (w7.alloc (.cells #[.string wd,.int .i64 (oo:Int),.bool lit,.bool false,.bool true] 86)) 56 #[.int .i64 (k:Int),.bool false,.string ⟨#[]⟩,.string ⟨#[]⟩,.string ⟨#[]⟩];rw[World.size_alloc] at h;rw[hW8,hNa];exact h
  have HO8:Hid (Onl R w W8):=by show Onl _ _ _;rw[hW8];exact (HO7.out.trans (Onl.of_below ((Below.refl _ _).alloc (Nat.le_refl _) _))).trans (Onl.of_below ((Below.refl _ _).alloc (Nat.le_refl _) _))
  have HR8:Hid (Blk W8 R 177 [.string ⟨(dotA s).2.toArray⟩,v,.int .i64 ((b:Int)+1)]):=by show Blk _ _ _ _;rw[hW8];exact (HK7.out.alloc _).alloc _
  have hlt8:w.heap.size≤Na∧R<Na:=⟨by omega,by rw[hNa];exact HK7.out.lt⟩
  clear ht0 ht1 ht2 ht3 ht4 hta0 hta1 hta2 hta3 hta4 htb0 htb1 htb2 htb3 htb4 HO7 HK7;have HNn0:=Lib.hid hk8b;have HNs0:=Lib.hid hk8a;have hcn:=hk8b.cells;have hfn:=hk8b.froz;have hcs:=hk8a.cells;rw[hW8] at hcn hcs hfn
  have HT3:Hid (T=(if Lib.hasPrefix (dotA s).2 [91] then (numA ((dotA s).2.drop 1)).bind fun q=>if Lib.hasPrefix q.2 [93] then some (q.1,q.2.drop 1) else none else none).bind fun q=>(opsA (parA f) oo 0 q.2 ns (b+1)).bind (tl3 (k:Int) [] q.1)):=by
   show _=_;rw[HT.out];unfold tailA tl3 stpA;rw[HSH.out];rfl
  have hs8:(dotA s).2.length≤1048576:=by have:=(dotA_len s).1;omega
  have HHR8:=Lib.hid hR.lt;have HBw:Hid (Below R w W8.drew):=HO8.out.drew.below (Nat.le_refl _) (Nat.le_of_lt HHR8.out);generalize (dotA s).2=r2 at*;clear HT;go_wp2_with fail;simp only[←hW8,←hNa]
  clear hW8 hNa hcn hcs hfn;cases ha:Lib.hasPrefix r2 [91]
  ·have hTn:T=none:=by rw[HT3.out,ha];rfl
   have HWn:=Lib.hid (wantL_no r2 [91] R 177 [v,.int .i64 ((b:Int)+1)] W8.drew HR8.out ha);clear HT3;subst hTn;refine HWn.out.mono ?_;rintro e w10 ⟨rfl,rfl⟩;go_wp2;exact⟨rfl,rfl,HBw.out⟩
  ·rw[ha] at HT3;obtain⟨Y,hY⟩:∃Y,r2.drop 1=Y:=⟨_,rfl⟩
   have hYl:Y.length≤1048576:=by rw[←hY,List.length_drop];omega
   have HWy:Hid (Calls Tryz.prog 139 #[.pointer (some ⟨R,0,none⟩),.string ⟨#[91]⟩] W8.drew fun e w'=>e=.returned (.tuple #[])∧Blk w' R 177 [.string ⟨Y.toArray⟩,v,.int .i64 ((b:Int)+1)]∧Onl R W8.drew w'):=by
    show Calls _ _ _ _ _;rw[←hY];exact wantL_yes r2 [91] R 177 [v,.int .i64 ((b:Int)+1)] _ HR8.out ha
   rw[hY] at HT3;clear hY ha hs8;refine HWy.out.mono ?_;rintro e wa ⟨rfl,hka,hoa⟩;have hoa2:Onl R w wa:=HO8.out.drew.trans hoa;have hUa:Under R wa:=(under_of hL hR0 hw0).onl hoa2;have HOa:=Lib.hid hoa2;have HKa:=Lib.hid hka;have HNa':=Lib.hid (hoa.blk HNn0.out (by omega));have HSa:=Lib.hid (hoa.blk HNs0.out (by omega));cases hnu:numA Y with
   |none=>
    have hTn:T=none:=by rw[HT3.out,hnu];rfl
    have HNU:=Lib.hid (num_no Y R 177 [v,.int .i64 ((b:Int)+1)] wa hka hUa hYl hnu);clear HT3 hka hoa hoa2 hUa hnu;subst hTn;go_wp2_with fail;refine HNU.out.mono ?_;rintro e wb ⟨rfl,hob⟩;have HBp:Hid (Below R w wb):=(HOa.out.trans hob).below (Nat.le_refl _) (Nat.le_of_lt HHR8.out);clear hob;go_wp2;exact⟨rfl,rfl,HBp.out⟩
   |some ar=>
    obtain⟨⟨an,au,ad⟩,r3⟩:=ar;have hr3:=numA_len hnu;have HNU:=Lib.hid (num_yes Y R 177 [v,.int .i64 ((b:Int)+1)] wa hka hUa hYl _ _ hnu);unfold Ra.v at HNU;simp only at HNU
    have HT5:Hid (T=(if Lib.hasPrefix r3 [93] then some ((⟨an,au,ad⟩:Ra),r3.drop 1) else none).bind fun q=>(opsA (parA f) oo 0 q.2 ns (b+1)).bind (tl3 (k:Int) [] q.1)):=by
     show _=_;rw[HT3.out,hnu];rfl
    clear HT3 hka hoa hoa2 hUa hnu;go_wp2_with fail;refine HNU.out.mono ?_;rintro e wb ⟨rfl,hkb,hob⟩;have hnb:=hob.blk HNa'.out (by omega);have hsb:=hob.blk HSa.out (by omega);have hcn:=hnb.cells;have hfn:=hnb.froz;obtain⟨Wc,hWc⟩:∃Wc,Wc=((wb.setCell ⟨(Na+1),1,none⟩ (.bool an)).setCell ⟨(Na+1),2,none⟩ (.string au)).setCell ⟨(Na+1),3,none⟩ (.string ad):=⟨_,rfl⟩
    have HNc:Hid (Blk Wc (Na+1) 56 [.int .i64 (k:Int),.bool an,.string au,.string ad,.string ⟨#[]⟩]):=by show Blk _ _ _ _;rw[hWc];exact ((hnb.set 1 (.bool an)).set 2 (.string au)).set 3 (.string ad)
    have HSc:Hid (Blk Wc Na 86 [.string wd,.int .i64 (oo:Int),.bool lit,.bool false,.bool true]):=by
     show Blk _ _ _ _;rw[hWc];exact ((hsb.other (p:=⟨(Na+1),1,none⟩) (by show Na≠(Na+1);omega) _).other (p:=⟨(Na+1),2,none⟩) (by show Na≠(Na+1);omega) _).other (p:=⟨(Na+1),3,none⟩) (by show Na≠(Na+1);omega) _
    have HRc:Hid (Blk Wc R 177 [.string ⟨r3.toArray⟩,v,.int .i64 ((b:Int)+1)]):=by
     show Blk _ _ _ _;rw[hWc];exact ((hkb.other (p:=⟨(Na+1),1,none⟩) (by show R≠(Na+1);omega) _).other (p:=⟨(Na+1),2,none⟩) (by show R≠(Na+1);omega) _).other (p:=⟨(Na+1),3,none⟩) (by show R≠(Na+1);omega) _
    have HOc:Hid (Onl R w Wc):=by
     show Onl _ _ _;rw[hWc];exact (((HOa.out.trans hob).fresh (by omega) 1 _).fresh (by omega) 2 _).fresh (by omega) 3 _
    clear hkb hob hnb hsb HNa' HSa HOa HKa HNn0 HNs0 HO8 HR8;go_wp2_with fail;simp only[←hWc]
    clear hWc hcn hfn;cases hb2:Lib.hasPrefix r3 [93]
    ·have hTn:T=none:=by rw[HT5.out,hb2];rfl
     have HWn:=Lib.hid (wantL_no r3 [93] R 177 [v,.int .i64 ((b:Int)+1)] Wc HRc.out hb2);have HBp:Hid (Below R w Wc):=HOc.out.below (Nat.le_refl _) (Nat.le_of_lt HHR8.out);clear HT5;subst hTn;refine HWn.out.mono ?_;rintro e w10 ⟨rfl,rfl⟩;go_wp2;exact⟨rfl,rfl,HBp.out⟩
    ·rw[hb2] at HT5;obtain⟨s9,hs9e⟩:∃s9,r3.drop 1=s9:=⟨_,rfl⟩
     have hs9:s9.length≤1048576:=by rw[←hs9e,List.length_drop];omega
     have HWz:Hid (Calls Tryz.prog 139 #[.pointer (some ⟨R,0,none⟩),.string ⟨#[93]⟩] Wc fun e w'=>e=.returned (.tuple #[])∧Blk w' R 177 [.string ⟨s9.toArray⟩,v,.int .i64 ((b:Int)+1)]∧Onl R Wc w'):=by
      show Calls _ _ _ _ _;rw[←hs9e];exact wantL_yes r3 [93] R 177 [v,.int .i64 ((b:Int)+1)] _ HRc.out hb2
     have HT4:Hid (T=(opsA (parA f) oo 0 s9 ns (b+1)).bind (tl3 (k:Int) [] (⟨an,au,ad⟩:Ra))):=by
      show _=_;rw[HT5.out,←hs9e];rfl
     clear hs9e hb2 HT5 hYl hr3;refine HWz.out.mono ?_;rintro e W9 ⟨rfl,hk9,ho9⟩;have HR9:=Lib.hid hk9;have HN9:=Lib.hid (ho9.blk HNc.out (by omega));have HS9:=Lib.hid (ho9.blk HSc.out (by omega));have HO9:Hid (Onl R w W9):=HOc.out.trans ho9;have hcs:=HS9.out.cells;clear hk9 ho9 HRc HNc HSc HOc;have HND:Hid (nd (k:Int) (⟨an,au,ad⟩:Ra) []=⟨(k:Int),⟨an,au,ad⟩,⟨#[]⟩⟩):=rfl;obtain⟨qn,hqn⟩:∃qn,qn=nd (k:Int) (⟨an,au,ad⟩:Ra) []:=⟨_,rfl⟩
     go_wp2_with fail;clear hcs
     have hown2:W9.ownsRow (R+1) 56 5 v ns.length (nds ns):=HOWN.out.kept (row:=some R) ⟨HO9.out.os,HO9.out.tape,HO9.out.output,HO9.out.size,fun k hk hne=>HO9.out.block k hk (fun h=>hne (by rw[h]))⟩ (by
      cases hv:v.ownBlock with
      |none=>exact .inl rfl
      |some g=>exact .inr (by intro h;injection h with h;have:=(HOWN.out.lt g hv).1;omega))
     have hvN:v.ownBlock≠some (Na+1):=fun h=>by have:=(HOWN.out.lt (Na+1) h).2;have:=hlt8;omega
     have hvS:v.ownBlock≠some Na:=fun h=>by have:=(HOWN.out.lt Na h).2;have:=hlt8;omega
     have HOW9:=Lib.hid hown2;have HVN:=Lib.hid hvN;have HVS:=Lib.hid hvS;have hRn:(Na+1)≠R:=by omega
     have hRs:Na≠R:=by omega
     have HTL:Hid (∀t:PS,tl3 (k:Int) [] (⟨an,au,ad⟩:Ra) t=if 0<oo then (if Lib.hasPrefix t.1 [41] then some (t.1.drop 1,t.2.1++[qn],t.2.2) else none) else some (t.1,t.2.1++[qn],t.2.2)):=fun t=>by
      unfold tl3;rw[HSH.out,hqn]
     have HQN:Hid (qn=⟨(k:Int),(⟨an,au,ad⟩:Ra),(⟨#[]⟩:ByteArray)⟩):=by show _=_;rw[hqn];exact HND.out
     generalize tl3 (k:Int) [] (⟨an,au,ad⟩:Ra)=TL at*;clear hown2 hvN hvS hqn HND HSH
     go_loopg [101] oo (fun g iv wr=>∃(i:Nat) (s':List UInt8) (ns':List Nd) (b':Nat) (v':Value),i+g=oo∧iv=.int .i64 (i:Int)∧Hid (T=(opsA (parA f) g i s' ns' b').bind TL)∧Hid (Blk wr R 177 [.string ⟨s'.toArray⟩,v',.int .i64 (b':Int)])∧Hid (wr.ownsRow (R+1) 56 5 v' ns'.length (nds ns'))∧Hid (PF R W9 v wr v')∧Hid (s'.length≤1048576∧ns'.length≤b'∧b'≤60∧b+1≤b'))
     case atStart=>exact⟨0,s9,ns,b+1,v,by omega,rfl,HT4.out,HR9.out,HOW9.out,PF.of_onl (Onl.refl _ _),⟨hs9,by omega,by omega,Nat.le_refl _⟩⟩
     case round=>
      obtain⟨i,s',ns',b',v',hi,rfl,hTr,hRr,hor,hpr,hbd⟩:=hrel;have hrN:=hpr.out.blk HN9.out hRn HVN.out;have hrS:=hpr.out.blk HS9.out hRs HVS.out;by_cases hlt:i<oo
      ·obtain⟨m,rfl⟩:∃m,gk=m+1:=⟨gk-1,by omega⟩
       have hi3:i<3:=by omega
       obtain⟨Z,hZ⟩:∃Z:ByteArray,Z=⟨(sepW i).toArray⟩:=⟨_,rfl⟩
       have hz1:(wr.alloc (.cells #[.string ⟨#[40]⟩,.string ⟨#[44,32]⟩,.string ⟨#[44,32]⟩] 9)).cell? ⟨wr.heap.size,i,none⟩=some (.string Z):=by
        have h:=(Blk.new wr 9 #[.string ⟨#[40]⟩,.string ⟨#[44,32]⟩,.string ⟨#[44,32]⟩]).cells i;rw[h,hZ];rcases (by omega:i=0∨i=1∨i=2) with rfl|rfl|rfl<;>rfl
       have HZ:=Lib.hid hZ;clear hZ;have HHR:=Lib.hid hR.lt;go_wp2_with fail;cases hpx:Lib.hasPrefix s' (sepW i)
       ·have hTn:T=none:=by rw[hTr.out,opsA,if_neg (by rw[hpx];simp)];rfl
        have HWn:Hid (Calls Tryz.prog 139 #[.pointer (some ⟨R,0,none⟩),.string Z] (wr.alloc (.cells #[.string ⟨#[40]⟩,.string ⟨#[44,32]⟩,.string ⟨#[44,32]⟩] 9)) fun e w'=>e=.panicked noText∧w'=wr.alloc (.cells #[.string ⟨#[40]⟩,.string ⟨#[44,32]⟩,.string ⟨#[44,32]⟩] 9)):=by
         show Calls _ _ _ _ _;rw[HZ.out];exact wantL_no s' (sepW i) R 177 [v',.int .i64 (b':Int)] _ (hRr.out.alloc _) hpx
        have HBp:Hid (Below R w (wr.alloc (.cells #[.string ⟨#[40]⟩,.string ⟨#[44,32]⟩,.string ⟨#[44,32]⟩] 9))):=(((PF.of_onl HO9.out).trans hpr.out).alloc _).below hown (Nat.le_refl _) (Nat.le_of_lt HHR.out);subst hTn;refine HWn.out.mono ?_;rintro e w10 ⟨rfl,rfl⟩;clear hpx hz1 hrN hrS;go_wp2;exact⟨rfl,rfl,HBp.out⟩
       ·have HWy:Hid (Calls Tryz.prog 139 #[.pointer (some ⟨R,0,none⟩),.string Z] (wr.alloc (.cells #[.string ⟨#[40]⟩,.string ⟨#[44,32]⟩,.string ⟨#[44,32]⟩] 9)) fun e w'=>e=.returned (.tuple #[])∧Blk w' R 177 [.string ⟨(s'.drop (sepW i).length).toArray⟩,v',.int .i64 (b':Int)]∧Onl R (wr.alloc (.cells #[.string ⟨#[40]⟩,.string ⟨#[44,32]⟩,.string ⟨#[44,32]⟩] 9)) w'):=by
         show Calls _ _ _ _ _;rw[HZ.out];exact wantL_yes s' (sepW i) R 177 [v',.int .i64 (b':Int)] _ (hRr.out.alloc _) hpx
        refine HWy.out.mono ?_;rintro e w10 ⟨rfl,hk10,ho10⟩;have hp9:PF R W9 v w10 v':=(hpr.out.alloc _).trans (PF.of_onl ho10);have hp10:PF R w v w10 v':=(PF.of_onl HO9.out).trans hp9;have hor10:w10.ownsRow (R+1) 56 5 v' ns'.length (nds ns'):=own_onl (hor.out.alloc _) ho10;have hb10:Below w0.heap.size w0 w10:=hw0.trans (hp10.below hown hR0 hw0.size);have hs10:(s'.drop (sepW i).length).length≤1048576:=by have:=drop_len s' (sepW i).length;have:=hbd.out.1;omega
        have HC:=Lib.hid (HIH.out (s'.drop (sepW i).length) ns' b' v' w10 hb10 hk10 hor10 hs10 hbd.out.2.1 hbd.out.2.2.1 (by have:=hbd.out.2.2.2;omega));have HP9:=Lib.hid hp9;have HBR:Hid (Below R w w10):=hp10.below hown (Nat.le_refl _) (Nat.le_of_lt HHR.out);clear hk10 ho10 hp9 hp10 hor10 hb10 hs10 hz1 hrN hrS HWy;cases hpa:parA f (s'.drop (sepW i).length) ns' b' with
        |none=>
         have hTn:T=none:=by rw[hTr.out,opsA,if_pos hpx,hpa];rfl
         rw[hpa] at HC;subst hTn;clear hpx hpa;go_wp2_with fail;refine HC.out.mono ?_;rintro e w11 ⟨rfl,hb11⟩;have HBp:Hid (Below R w w11):=HBR.out.trans hb11;clear hb11;go_wp2;exact⟨rfl,rfl,HBp.out⟩
        |some q=>
         obtain⟨s2,ns2,b2⟩:=q;have pb:=(parA_pb f _ _ _ _ hpa).1;have pb1:=pb.rest;have pb2:=pb.begun;have pb3:=pb.most;have pb4:=pb.nodes;have hdl:=drop_len s' (sepW i).length;simp only at pb1 pb2 pb3 pb4
         have HT6:Hid (T=(opsA (parA f) m (i+1) s2 ns2 b2).bind TL):=by
          show _=_;rw[hTr.out,opsA,if_pos hpx,hpa];rfl
         have HBD:Hid (s2.length≤1048576∧ns2.length≤b2∧b2≤60∧b+1≤b2):=by
          have h:=hbd.out;exact⟨by omega,by omega,pb3,by omega⟩
         rw[hpa] at HC;clear hpx hpa pb pb1 pb2 pb3 pb4 hdl;go_wp2_with fail;refine HC.out.mono ?_;rintro e w11 ⟨rfl,v2,hk11,hor11,hpf11⟩;have HK11:=Lib.hid hk11;have HOR11:=Lib.hid hor11;have HPF11:Hid (PF R W9 v w11 v2):=HP9.out.trans hpf11;clear hk11 hor11 hpf11;go_wp2
         go_roundg m
         case measure=>omega
         case rel=>exact⟨i+1,s2,ns2,b2,v2,by omega,by go_num,HT6,HK11,HOR11,HPF11,HBD⟩
      ·obtain rfl:i=oo:=by omega
       obtain rfl:gk=0:=by omega
       have hT5:T=TL (s',ns',b'):=by rw[hTr.out];rfl
       rw[HTL.out] at hT5;have HT5:=Lib.hid hT5;have hcs:=hrS.cells;have hns':ns'.length≤60:=by have:=hbd.out;omega
       have hqn2:=HQN.out;subst hqn2;clear hT5 HIH;by_cases ho:i=0
       ·subst ho;have hT6:=HT5.out;rw[if_neg (by omega)] at hT6;clear HT5;subst hT6;have HPX:=Lib.hid (((PF.of_onl HO9.out).trans hpr.out).drew);have hkR:=hRr.out;have hkN:=hrN;have hown2:=hor.out;clear hrN hrS hRr hor;go_wp2_with fail;clear hcs;have hcR:=hkR.drew.cells;have hfR:=hkR.drew.froz;have hcN:=hkN.drew.cells;have hcR2:=(hkR.alloc (.cells #[.int .i64 (k:Int),.bool an,.string au,.string ad,.string ⟨#[]⟩] 56)).cells;have hcN2:=(hkN.alloc (.cells #[.int .i64 (k:Int),.bool an,.string au,.string ad,.string ⟨#[]⟩] 56)).cells;have HKR:=Lib.hid hkR;have hszW:R+1≤wr.heap.size:=hkR.lt;have HOWN2:=Lib.hid hown2;clear hkR hkN hown2
        go_region_law ((refine step_push_at wr.drew #[.int .i64 (k:Int),.bool an,.string au,.string ad,.string ⟨#[]⟩] (by rfl) _ _ 43 (by rfl) (R+1) 56 (.agg #[.int .i64 0,.bool false,.string ⟨#[]⟩,.string ⟨#[]⟩,.string ⟨#[]⟩]) 5 64 1 Tryz.underlying43 info_node rfl (by decide) v' ns'.length (nds ns') (by rfl) HOWN2.out (by rfl) (by rfl) (by simp[Value.oneCell']) (by unfold maxLen;omega) (by omega) hszW ?_;intro v5 w5 hown5 hg5 hv5;obtain⟨g5,cap5,rfl,hgR⟩:=own_form hown5 (by omega);have hk5:=HKR.out.of_block (hg5.block R HKR.out.lt (fun h=>by have:=(HOWN2.out.lt R h.symm).1;omega));have HK5:=Lib.hid hk5;have hc5:=hk5.cells;have hf5:=hk5.froz;have HOWN5:=Lib.hid hown5;have HG5:=Lib.hid hg5;have HV5:=Lib.hid hv5;clear hown5 hg5 hv5 hk5))
        all_goals
         go_wp2
         first|go_end0|refine bodyPost_ret (results_none rfl _ _ _) rfl ?_
         refine⟨rfl,_,HK5.out.set 1 _,?_,HPX.out.trans (PF.push HG5.out HV5.out 1 _)⟩;rw[List.length_append,nds_snoc];exact own_set HOWN5.out 1 _
       ·have hop:0<i:=by omega
        have HHR:=Lib.hid hR.lt;cases hpx2:Lib.hasPrefix s' [41]
        ·have hT6:=HT5.out;rw[if_pos hop,hpx2,if_neg (by simp)] at hT6;have HWn:=Lib.hid (wantL_no s' [41] R 177 [v',.int .i64 (b':Int)] wr hRr.out hpx2);have HBp:Hid (Below R w wr):=((PF.of_onl HO9.out).trans hpr.out).below hown (Nat.le_refl _) (Nat.le_of_lt HHR.out);clear HT5 hpx2;subst hT6;go_wp2_with fail;refine HWn.out.mono ?_;rintro e w13 ⟨rfl,rfl⟩;go_wp2;exact⟨rfl,rfl,HBp.out⟩
        ·have hT6:=HT5.out;rw[if_pos hop,hpx2,if_pos rfl] at hT6;obtain⟨Y,hY⟩:∃Y,s'.drop 1=Y:=⟨_,rfl⟩
         have HWy:Hid (Calls Tryz.prog 139 #[.pointer (some ⟨R,0,none⟩),.string ⟨#[41]⟩] wr fun e w'=>e=.returned (.tuple #[])∧Blk w' R 177 [.string ⟨Y.toArray⟩,v',.int .i64 (b':Int)]∧Onl R wr w'):=by
          show Calls _ _ _ _ _;rw[←hY];exact wantL_yes s' [41] R 177 [v',.int .i64 (b':Int)] wr hRr.out hpx2
         rw[hY] at hT6;clear hY;have HRN:=Lib.hid hrN;clear HT5 hpx2 hrN hrS;subst hT6;go_wp2_with fail;refine HWy.out.mono ?_;rintro e w13 ⟨rfl,hkR,ho13⟩;have hkN:=ho13.blk HRN.out hRn;have hown2:=own_onl hor.out ho13;have HPX:=Lib.hid (((PF.of_onl HO9.out).trans (hpr.out.trans (PF.of_onl ho13))).drew);clear hRr hor hcs ho13;go_wp2_with fail;have hcR:=hkR.drew.cells;have hfR:=hkR.drew.froz;have hcN:=hkN.drew.cells;have hcR2:=(hkR.alloc (.cells #[.int .i64 (k:Int),.bool an,.string au,.string ad,.string ⟨#[]⟩] 56)).cells;have hcN2:=(hkN.alloc (.cells #[.int .i64 (k:Int),.bool an,.string au,.string ad,.string ⟨#[]⟩] 56)).cells;have HKR:=Lib.hid hkR;have hszW:R+1≤w13.heap.size:=hkR.lt;have HOWN2:=Lib.hid hown2;clear hkR hkN hown2
         go_region_law ((refine step_push_at w13.drew #[.int .i64 (k:Int),.bool an,.string au,.string ad,.string ⟨#[]⟩] (by rfl) _ _ 43 (by rfl) (R+1) 56 (.agg #[.int .i64 0,.bool false,.string ⟨#[]⟩,.string ⟨#[]⟩,.string ⟨#[]⟩]) 5 64 1 Tryz.underlying43 info_node rfl (by decide) v' ns'.length (nds ns') (by rfl) HOWN2.out (by rfl) (by rfl) (by simp[Value.oneCell']) (by unfold maxLen;omega) (by omega) hszW ?_;intro v5 w5 hown5 hg5 hv5;obtain⟨g5,cap5,rfl,hgR⟩:=own_form hown5 (by omega);have hk5:=HKR.out.of_block (hg5.block R HKR.out.lt (fun h=>by have:=(HOWN2.out.lt R h.symm).1;omega));have HK5:=Lib.hid hk5;have hc5:=hk5.cells;have hf5:=hk5.froz;have HOWN5:=Lib.hid hown5;have HG5:=Lib.hid hg5;have HV5:=Lib.hid hv5;clear hown5 hg5 hv5 hk5))
         all_goals
          go_wp2
          first|go_end0|refine bodyPost_ret (results_none rfl _ _ _) rfl ?_
          refine⟨rfl,_,HK5.out.set 1 _,?_,HPX.out.trans (PF.push HG5.out HV5.out 1 _)⟩;rw[List.length_append,nds_snoc];exact own_set HOWN5.out 1 _
theorem expr_any (w0:World) (hL:LaidE w0) (R:Nat) (hR0:w0.heap.size≤R) (f:Nat):∀(s:List UInt8) (ns:List Nd) (b:Nat) (v:Value) (w:World),Below w0.heap.size w0 w→Blk w R 177 [.string ⟨s.toArray⟩,v,.int .i64 (b:Int)]→
  w.ownsRow (R+1) 56 5 v ns.length (nds ns)→s.length≤1048576→ns.length≤b→b≤60→61≤b+f→Calls Tryz.prog 105 #[.pointer (some ⟨R,0,none⟩)] w (ExPost (parA f s ns b) R v w):=by
 induction f with
 |zero=>intro s ns b v w _ _ _ _ _ h1 h2;omega
 |succ f ih=>
  intro s ns b v w hw0 hR hown hs hns hb hbf;rw[parA];by_cases h60:b=60
  ·rw[if_pos (by omega)];exact ex_over w0 hL R hR0 s ns b v w hw0 hR hown hs h60
  ·rw[if_neg (by omega)];have hb9:b≤59:=by omega
   cases hq:litA s with
   |none=>exact ex_lit_no w0 hL R hR0 s ns b v w hw0 hR hown hs hb9 hq
   |some o=>
    cases o with
    |some q=>exact ex_lit w0 hL R hR0 s ns b v w hw0 hR hown hs hb9 (by omega) q hq
    |none=>
     simp only[Option.bind_some]
     by_cases hy:spanW lettersL s=yesL
     ·rw[if_pos hy];exact ex_yes w0 hL R hR0 s ns b v w hw0 hR hown hs hb9 (by omega) hq hy
     ·rw[if_neg hy];by_cases hn:spanW lettersL s=noL
      ·rw[if_pos hn];exact ex_no w0 hL R hR0 s ns b v w hw0 hR hown hs hb9 (by omega) hq hn
      ·rw[if_neg hn];rcases place_neg ⟨(dotA s).1.toArray⟩ with hp|⟨k,hp⟩
       ·rw[if_pos (by rw[hp];decide)];cases hdot:Lib.hasPrefix (spanR lettersL s) [46]
        ·exact ex_badf w0 hL R hR0 s ns b v w hw0 hR hown hs hb9 (by omega) hq hy hn hdot hp
        ·exact ex_badt w0 hL R hR0 s ns b v w hw0 hR hown hs hb9 (by omega) hq hy hn hdot hp
       ·rw[if_neg (by rw[hp];omega),hp];obtain⟨hk,hkw,hkn⟩:=place_spec hp;have hnam:=dot_nam hp;cases hdot:Lib.hasPrefix (spanR lettersL s) [46]
        ·cases hst:(shp (k:Int)).stp
         ·exact ex_op2 w0 hL R hR0 s ns b v w hw0 hR hown hs hb9 hns hq hy hn hdot k hp hst f ih (by omega)
         ·exact ex_op3 w0 hL R hR0 s ns b v w hw0 hR hown hs hb9 hns hq hy hn hdot k hp hst f ih (by omega)
        ·have hst:(shp (k:Int)).stp=false:=by
          cases hst:(shp (k:Int)).stp
          ·rfl
          ·have:=(shp_word_last k hk (by rw[hkw];exact hkn)).2 hst;rw[hnam,hdot] at this;cases this
         exact ex_op1 w0 hL R hR0 s ns b v w hw0 hR hown hs hb9 hns hq hy hn hdot k hp hst f ih (by omega)
theorem numA_fine {s:List UInt8} {a:Ra} {r:List UInt8} (h:numA s=some (a,r)) (hs:s.length≤1048576):a.num.size≤1048576∧a.den.size≤1048576:=by
 unfold numA at h;split at h
 ·next hp=>
  injection h with h;injection h with h1 _;have hw:=spanW_len numL s;rw[←h1];generalize spanW numL s=x at*;unfold ratParse at*;simp only at*;split
  ·obtain⟨hc1,hc2⟩:=cut_len (Lib.trimPrefix x [45]) [47];have htl:=trimPrefix_len x [45];have h1:=natParse_size (cutR x).2.1;have h2:=natParse_size (cutR x).2.2;have e1:(cutR x).2.1.length≤1048576:=by unfold cutR;simp only;omega
   have e2:(cutR x).2.2.length≤1048576:=by
    unfold cutR;simp only
    split
    ·omega
    ·simp
   exact mkR_size _ _ _ 1048576 (by omega) (by omega)
  ·exact⟨Nat.zero_le _,Nat.zero_le _⟩
 ·cases h
theorem fine_nd {k:Int} {a:Ra} {nm:List UInt8} (h:a.num.size≤1048576∧a.den.size≤1048576):Fine (nd k a nm):=h
theorem fine_of (n:Int) (h:n=0∨n=1):(ofI n).num.size≤1048576∧(ofI n).den.size≤1048576:=by
 rcases h with rfl|rfl<;>decide+kernel
theorem litA_fine {s:List UInt8} {q:Nd × List UInt8} (h:litA s=some (some q)) (hs:s.length≤1048576):Fine q.1:=by
 unfold litA at h;split at h
 ·cases hn:numA (s.drop 1) with
  |none=>rw[hn] at h;cases h
  |some ar=>
   rw[hn] at h;injection h with h;injection h with h;rw[←h];exact fine_nd (numA_fine (a:=ar.1) (r:=ar.2) hn (by have:=drop_len s 1;omega))
 ·split at h
  ·cases h
  ·cases hn:numA s with
   |none=>rw[hn] at h;cases h
   |some ar=>
    rw[hn] at h;have h1:=numA_fine (a:=ar.1) (r:=ar.2) hn hs;simp only[Option.map_some] at h;split at h
    ·injection h with h;injection h with h;rw[←h];exact fine_nd h1
    ·injection h with h;injection h with h;rw[←h];exact fine_nd h1
theorem opsA_fine {p:List UInt8→List Nd→Nat→Option PS} (hp:∀s ns b q,p s ns b=some q→s.length≤1048576→(∀n∈ns,Fine n)→q.1.length≤s.length∧∀n∈q.2.1,Fine n) (m:Nat):
  ∀k s ns b q,opsA p m k s ns b=some q→s.length≤1048576→(∀n∈ns,Fine n)→q.1.length≤s.length∧∀n∈q.2.1,Fine n:=by
 induction m with
 |zero=>
  intro k s ns b q h hs hf;injection h with h;subst h;exact⟨Nat.le_refl _,hf⟩
 |succ m ih=>
  intro k s ns b q h hs hf;rw[opsA] at h;split at h
  ·obtain⟨t,h1,h2⟩:=Option.bind_eq_some_iff.1 h;have hd:=drop_len s (sepW k).length;have p1:=hp _ _ _ _ h1 (by omega) hf;have p2:=ih _ _ _ _ _ h2 (by omega) p1.2;exact⟨by omega,p2.2⟩
  ·cases h
theorem stpA_fine {y:Bool} {s:List UInt8} {q:Ra × List UInt8} (h:stpA y s=some q) (hs:s.length≤1048576):q.1.num.size≤1048576∧q.1.den.size≤1048576:=by
 unfold stpA at h;split at h
 ·split at h
  ·obtain⟨t,h1,h2⟩:=Option.bind_eq_some_iff.1 h;split at h2
   ·injection h2 with h2;have hd:=drop_len s 1;rw[←h2];exact numA_fine (a:=t.1) (r:=t.2) h1 (by omega)
   ·cases h2
  ·cases h
 ·injection h with h;rw[←h];exact⟨Nat.zero_le _,Nat.zero_le _⟩
theorem fine_snoc {ns:List Nd} {n:Nd} (h:∀m∈ns,Fine m) (hn:Fine n):∀m∈ns++[n],Fine m:=by
 intro m hm;rcases List.mem_append.1 hm with hm|hm
 ·exact h m hm
 ·obtain rfl:m=n:=by simpa using hm
  exact hn
theorem parA_fine (f:Nat):∀s ns b q,parA f s ns b=some q→s.length≤1048576→(∀n∈ns,Fine n)→q.1.length≤s.length∧∀n∈q.2.1,Fine n:=by
 induction f with
 |zero=>intro s ns b q h;cases h
 |succ f ih=>
  intro s ns b q h hs hf;refine⟨(parA_pb _ _ _ _ _ h).1.rest,?_⟩;rw[parA] at h;split at h
  ·cases h
  ·obtain⟨t,h1,h2⟩:=Option.bind_eq_some_iff.1 h;cases t with
   |some t=>
    injection h2 with h2;subst h2;exact fine_snoc hf (litA_fine h1 hs)
   |none=>
    simp only at h2;split at h2
    ·injection h2 with h2;subst h2;exact fine_snoc hf (fine_nd (fine_of 1 (.inr rfl)))
    ·split at h2
     ·injection h2 with h2;subst h2;exact fine_snoc hf (fine_nd (fine_of 0 (.inl rfl)))
     ·split at h2
      ·cases h2
      ·have hd:=(dotA_len s).1;unfold tailA at h2;obtain⟨u,h3,h4⟩:=Option.bind_eq_some_iff.1 h2;obtain⟨x,h5,h6⟩:=Option.bind_eq_some_iff.1 h4
       have a2:(if (shp (placeOf ⟨(dotA s).1.toArray⟩)).nam=true then spanR namesL (dotA s).2 else (dotA s).2).length≤(dotA s).2.length:=by
        split
        ·exact spanR_len _ _
        ·exact Nat.le_refl _
       have a1:=stpA_len h3;have a3:=stpA_fine h3 (by omega);have a4:=opsA_fine ih _ _ _ _ _ _ h5 (by omega) hf;split at h6
       ·split at h6
        ·injection h6 with h6;subst h6;exact fine_snoc a4.2 (fine_nd a3)
        ·cases h6
       ·injection h6 with h6;subst h6;exact fine_snoc a4.2 (fine_nd a3)
end Go.Proofs.YtfajelpcfnfjkaaGreatDoor
