/- A part of the proof: Eq Er. -/
import Derived.Test.YtfajelpcfnfjkaaGreatDoorA29
set_option linter.unusedVariables false
set_option linter.unusedSimpArgs false
namespace Go.Proofs.YtfajelpcfnfjkaaGreatDoor
open Go.RowKit
theorem idxFrom_spec {α:Type} [Inhabited α] (eq:α→α→Bool) (x:α):∀(l:List α) (i:Nat),Lib.idxByFrom eq x l i= -1∨∃k,k<l.length∧Lib.idxByFrom eq x l i=((i+k:Nat):Int)∧eq x l[k]! =true:=by
 intro l
 induction l with
 |nil=>intro i;exact .inl rfl
 |cons y l ih=>
  intro i;rw[Lib.idxByFrom];cases h:eq x y
  ·simp only[Bool.false_eq_true,if_false]
   rcases ih (i+1) with h1|⟨k,h1,h2,h3⟩
   ·exact .inl h1
   ·refine .inr ⟨k+1,by simp;omega,by rw[h2];congr 1;omega,?_⟩;simpa using h3
  ·simp only[if_true]
   exact .inr ⟨0,by simp,by simp,by simpa using h⟩
theorem place_spec {q:List UInt8} {k:Nat} (h:placeOf ⟨q.toArray⟩=(k:Int)):k<25∧(shp (k:Int)).word=q∧q≠[]:=by
 have hl:shs.length=25:=rfl;rcases idxFrom_spec (fun (_:Sh) y=>wordIs ⟨q.toArray⟩ y) default shs 0 with h1|⟨j,h1,h2,h3⟩
 ·have:placeOf ⟨q.toArray⟩= -1:=h1;omega
 ·have h4:placeOf ⟨q.toArray⟩=((0+j:Nat):Int):=h2;have hjk:j=k:=by omega
  subst hjk
  have hj:shs[j]! =shp (j:Int):=by
   have:=shp_get j (by omega);rw[getElem!_pos shs j h1];rw[List.getElem?_eq_getElem h1] at this;exact Option.some.inj this
  rw[hj] at h3;unfold wordIs at h3;simp only[Bool.and_eq_true,decide_eq_true_eq,Bool.not_eq_true',decide_eq_false_iff_not] at h3;refine⟨by omega,?_,fun he=>h3.2 (by rw[he])⟩;have h5:=congrArg (fun b:ByteArray=>b.data.toList) h3.1;simpa using h5
theorem place_neg (q:ByteArray):placeOf q= -1∨∃k:Nat,placeOf q=(k:Int):=by
 rcases idxFrom_spec (fun (_:Sh) y=>wordIs q y) default shs 0 with h1|⟨j,_,h2,_⟩
 ·exact .inl h1
 ·exact .inr ⟨0+j,h2⟩
theorem shp_word_last (k:Nat) (hk:k<25) (h:(shp (k:Int)).word≠[]):((shp (k:Int)).nam=true↔(shp (k:Int)).word.getLast?=some 46)∧((shp (k:Int)).stp=true→(shp (k:Int)).nam=false):=by
 have hall:∀j∈List.range 25,(shp (j:Int)).word≠[]→(((shp (j:Int)).nam=true↔(shp (j:Int)).word.getLast?=some 46)∧((shp (j:Int)).stp=true→(shp (j:Int)).nam=false)):=by decide
 exact hall k (List.mem_range.2 hk) h
theorem dot_nam {s:List UInt8} {k:Nat} (h:placeOf ⟨(dotA s).1.toArray⟩=(k:Int)):(shp (k:Int)).nam=Lib.hasPrefix (spanR lettersL s) [46]:=by
 obtain⟨hk,hw,hne⟩:=place_spec h;obtain⟨h1,_⟩:=shp_word_last k hk (by rw[hw];exact hne);rw[hw] at h1;cases hd:Lib.hasPrefix (spanR lettersL s) [46]
 ·have e:(dotA s).1=spanW lettersL s:=by unfold dotA;rw[hd];rfl
  rw[e] at h1 hne;cases hn:(shp (k:Int)).nam
  ·rfl
  ·have h2:=h1.1 hn;have h3:(46:UInt8)∈spanW lettersL s:=List.mem_of_getLast? h2;have h4:=List.all_eq_true.1 (List.all_takeWhile (p:=(lettersL.contains ·)) (l:=s)) _ h3;exact absurd h4 (by decide)
 ·have e:(dotA s).1=spanW lettersL s++[46]:=by unfold dotA;rw[hd];rfl
  rw[e] at h1;exact h1.2 (by simp)
theorem hasp_at (s p:List UInt8) (w:World):Calls Tryz.prog 138 #[.string ⟨s.toArray⟩,.string ⟨p.toArray⟩] w fun e w'=>e=.returned (.bool (Lib.hasPrefix s p))∧w'=w:=Tryz.strings_HasPrefix ⟨s.toArray⟩ ⟨p.toArray⟩ w
theorem wantL_no (s p:List UInt8) (R:Nat) (t:TypeId) (l:List Value) (w:World) (hR:Blk w R t (.string ⟨s.toArray⟩::l)) (h:Lib.hasPrefix s p=false):
  Calls Tryz.prog 139 #[.pointer (some ⟨R,0,none⟩),.string ⟨p.toArray⟩] w fun e w'=>e=.panicked noText∧w'=w:=want_no ⟨s.toArray⟩ ⟨p.toArray⟩ R t l w hR h
theorem ba_ne {a b:List UInt8} (h:a≠b):((⟨a.toArray⟩:ByteArray).toList==b)=false:=by
 rw[ByteArray.toList_eq,beq_eq_false_iff_ne];simpa using h
theorem tab_cells {w:World} (hL:LaidE w):∀j,j<shs.length→∀i v,(Sh.cells shs[j]!)[i]?=some v→w.cell? ⟨0,0+j*5+i,none⟩=some v:=by
 intro j hj i v hv
 have hi:i<5:=by
  have:=(List.getElem?_eq_some_iff.1 hv).1;exact this
 have hs:shs[j]! =shp (j:Int):=by
  have:=shp_get j hj;rw[getElem!_pos shs j hj];rw[List.getElem?_eq_getElem hj] at this;exact Option.some.inj this
 rw[Nat.zero_add,hL.cell j i hj hi,←hs];exact hv
def tl3 (k:Int) (nm:List UInt8) (num:Ra) (t:PS):Option PS:=
 if 0<(shp k).ops then (if Lib.hasPrefix t.1 [41] then some (t.1.drop 1,t.2.1++[nd k num nm],t.2.2) else none) else some (t.1,t.2.1++[nd k num nm],t.2.2)
set_option maxRecDepth 100000 in
set_option maxHeartbeats 3200000 in
theorem ex_badt (w0:World) (hL:LaidE w0) (R:Nat) (hR0:w0.heap.size≤R) (s:List UInt8) (ns:List Nd) (b:Nat) (v:Value) (w:World) (hw0:Below w0.heap.size w0 w)
  (hR:Blk w R 177 [.string ⟨s.toArray⟩,v,.int .i64 (b:Int)]) (hown:w.ownsRow (R+1) 56 5 v ns.length (nds ns)) (hs:s.length≤1048576) (hb:b≤59) (hns:ns.length≤60) (hq:litA s=some none) (hy:spanW lettersL s≠yesL) (hn:spanW lettersL s≠noL) (hdot:Lib.hasPrefix (spanR lettersL s) [46]=true) (hp:placeOf ⟨(dotA s).1.toArray⟩= -1):
  Calls Tryz.prog 105 #[.pointer (some ⟨R,0,none⟩)] w (ExPost none R v w):=by
 have hc:=hR.cells;have hf:=hR.froz;have hb1:((b:Int)+1)≤60:=by omega
 have HO1:Hid (Onl R w (w.setCell ⟨R,2,none⟩ (.int .i64 ((b:Int)+1)))):=(Onl.refl R w).set 2 _;have HR1:Hid (Blk (w.setCell ⟨R,2,none⟩ (.int .i64 ((b:Int)+1))) R 177 [.string ⟨s.toArray⟩,v,.int .i64 ((b:Int)+1)]):=hR.set 2 _;have HU1:Hid (Under R (w.setCell ⟨R,2,none⟩ (.int .i64 ((b:Int)+1)))):=(under_of hL hR0 hw0).onl HO1.out;have HOWN:=Lib.hid hown;obtain⟨W1,hW1⟩:∃W1,W1=w.setCell ⟨R,2,none⟩ (.int .i64 ((b:Int)+1)):=⟨_,rfl⟩
 rw[←hW1] at HO1 HR1 HU1;have HLA:=Lib.hid (lit_any s R 177 [v,.int .i64 ((b:Int)+1)] W1 HR1.out HU1.out hs);go_enter Tryz.func105,Tryz.ntmps105;go_wp2_with fail;simp only[←hW1]
 clear hW1 hc hf;refine HLA.out.mono ?_;rw[hq];rintro e w2 ⟨⟨rfl,hk2⟩,ho2⟩;unfold nd Nd.v zR;simp only
 obtain⟨W2,hW2⟩:∃W2,W2=w2.alloc (.cells #[.int .i64 0,.bool false,.string ⟨#[]⟩,.string ⟨#[]⟩,.string ⟨#[]⟩] 56):=⟨_,rfl⟩
 obtain⟨N,hN⟩:∃N,N=w2.heap.size:=⟨_,rfl⟩
 have hkR:Blk W2 R 177 [.string ⟨s.toArray⟩,v,.int .i64 ((b:Int)+1)]:=by rw[hW2];exact hk2.alloc _
 have HO2:Hid (Onl R w W2):=by show Onl _ _ _;rw[hW2];exact (HO1.out.trans ho2).trans (Onl.of_below ((Below.refl _ _).alloc (Nat.le_refl _) _))
 have HSP:=Lib.hid (spanL_at s lettersL R 177 [v,.int .i64 ((b:Int)+1)] W2 hkR hs (by decide) (by decide));clear hk2 ho2 hkR HLA HR1 HO1;obtain⟨D,hD⟩:∃D:ByteArray,D=⟨(spanW lettersL s).toArray⟩:=⟨_,rfl⟩
 rw[←hD] at HSP;have hy1:(D.toList==[121,101,115])=false:=by rw[hD];exact ba_ne hy
 have hy2:(D.toList==[110,111])=false:=by rw[hD];exact ba_ne hn
 have hDs:D.size≤1048576:=by rw[hD];have:=spanW_len lettersL s;show (spanW lettersL s).length≤_;omega
 have HD:=Lib.hid hD;clear hD;unfold lettersL at HSP;go_wp2_with fail;simp only[←hW2,←hN]
 clear hW2 hN;refine HSP.out.mono ?_;rintro e w3 ⟨rfl,hk3,ho3⟩;obtain⟨W3,hW3⟩:∃W3,W3=w3.alloc (.cells #[.string D] 9):=⟨_,rfl⟩
 obtain⟨N4,hN4⟩:∃N4,N4=w3.heap.size:=⟨_,rfl⟩
 have hRN4:R<N4:=by rw[hN4];exact hk3.lt
 have HR3:Hid (Blk W3 R 177 [.string ⟨(spanR lettersL s).toArray⟩,v,.int .i64 ((b:Int)+1)]):=by show Blk _ _ _ _;rw[hW3];exact hk3.alloc _
 have HW4:Hid (Blk W3 N4 9 [.string D]):=by show Blk _ _ _ _;rw[hW3,hN4];exact Blk.new w3 _ _
 have HO3:Hid (Onl R w W3):=by show Onl _ _ _;rw[hW3];exact (HO2.out.trans ho3).trans (Onl.of_below ((Below.refl _ _).alloc (Nat.le_refl _) _))
 have HWN:Hid (w.heap.size≤N4∧N4<W3.heap.size):=⟨by rw[hN4];exact (HO2.out.trans ho3).size,HW4.out.lt⟩
 clear hk3 ho3 HSP;have hc4:=HW4.out.cells;have hcr:=HR3.out.cells;rw[hW3] at hc4 hcr;have HHP:=Lib.hid (fun W=>hasp_at (spanR lettersL s) [46] W);rw[hdot] at HHP;have hy3:(D.toList==(⟨#[121,101,115]⟩:ByteArray).toList)=false:=by rw[show (⟨#[121,101,115]⟩:ByteArray).toList=[121,101,115] by rw[ByteArray.toList_eq]];exact hy1
 have hy4:(D.toList==(⟨#[110,111]⟩:ByteArray).toList)=false:=by rw[show (⟨#[110,111]⟩:ByteArray).toList=[110,111] by rw[ByteArray.toList_eq]];exact hy2
 go_wp2_with fail;simp only[←hW3,←hN4]
 clear hW3 hN4 hc4 hcr;refine (HHP.out _).mono ?_;rintro e w4 ⟨rfl,rfl⟩;have HWA:=Lib.hid (wantL_yes (spanR lettersL s) [46] R 177 [v,.int .i64 ((b:Int)+1)] _ HR3.out hdot);have e1:(dotA s).1=spanW lettersL s++[46]∧(dotA s).2=(spanR lettersL s).drop 1:=by unfold dotA;rw[hdot];exact⟨rfl,rfl⟩
 have hQ:D++(⟨#[46]⟩:ByteArray)=⟨(dotA s).1.toArray⟩:=ba_eq (by rw[ba_app,HD.out,e1.1]);have HE2:=Lib.hid e1.2;have HQe:=Lib.hid hQ;have hsmD:¬(9223372036854775807<D.size+1):=by omega
 clear e1 hQ;go_wp2_with fail;refine HWA.out.mono ?_;rintro e w5 ⟨rfl,hk5,ho5⟩;have hk4:=ho5.blk HW4.out (by omega);have hc4:=hk4.cells;have hf4:=hk4.froz;obtain⟨W6,hW6⟩:∃W6,W6=w5.setCell ⟨N4,0,none⟩ (.string (D++(⟨#[46]⟩:ByteArray))):=⟨_,rfl⟩
 have HR6:Hid (Blk W6 R 177 [.string ⟨(dotA s).2.toArray⟩,v,.int .i64 ((b:Int)+1)]):=by
  show Blk _ _ _ _;rw[hW6,HE2.out];exact hk5.other (p:=⟨N4,0,none⟩) (by show R≠N4;omega) _
 have HQ6:Hid (Blk W6 N4 9 [.string ⟨(dotA s).1.toArray⟩]):=by
  show Blk _ _ _ _;rw[hW6,←HQe.out];exact hk4.set 0 _
 have HO6:Hid (Onl R w W6):=by
  show Onl _ _ _;rw[hW6];exact (HO3.out.trans ho5).fresh HWN.out.1 0 _
 have HN6:Hid (w.heap.size≤N4∧N4<W6.heap.size):=⟨HWN.out.1,HQ6.out.lt⟩
 clear hk5 ho5 hk4 HWA HR3 HW4 HO3 HWN hsmD;have hL6:LaidE W6:=hL.below (hw0.trans (HO6.out.below hR0 hw0.size));have HL6:=Lib.hid hL6;have HIX:=Lib.hid (placeOf_at ⟨(dotA s).1.toArray⟩ N4 9 0 0 25 W6 HQ6.out hL6.glob (tab_cells hL6));rw[hp] at HIX;clear hL6;have hsm9:¬(9223372036854775807<D.size+1):=by omega
 go_wp2_with fail;simp only[←hW6]
 clear hW6 hc4 hf4 hsm9;refine HIX.out.mono ?_;rintro e w7 ⟨rfl,hb7⟩;have HB:Hid (Below R w w7):=(HO6.out.trans (Onl.of_below hb7)).below (Nat.le_refl _) (Nat.le_of_lt hR.lt);go_wp2;exact⟨rfl,rfl,HB.out⟩
set_option maxRecDepth 100000 in
set_option maxHeartbeats 3200000 in
theorem ex_badf (w0:World) (hL:LaidE w0) (R:Nat) (hR0:w0.heap.size≤R) (s:List UInt8) (ns:List Nd) (b:Nat) (v:Value) (w:World) (hw0:Below w0.heap.size w0 w)
  (hR:Blk w R 177 [.string ⟨s.toArray⟩,v,.int .i64 (b:Int)]) (hown:w.ownsRow (R+1) 56 5 v ns.length (nds ns)) (hs:s.length≤1048576) (hb:b≤59) (hns:ns.length≤60) (hq:litA s=some none) (hy:spanW lettersL s≠yesL) (hn:spanW lettersL s≠noL) (hdot:Lib.hasPrefix (spanR lettersL s) [46]=false) (hp:placeOf ⟨(dotA s).1.toArray⟩= -1):
  Calls Tryz.prog 105 #[.pointer (some ⟨R,0,none⟩)] w (ExPost none R v w):=by
 have hc:=hR.cells;have hf:=hR.froz;have hb1:((b:Int)+1)≤60:=by omega
 have HO1:Hid (Onl R w (w.setCell ⟨R,2,none⟩ (.int .i64 ((b:Int)+1)))):=(Onl.refl R w).set 2 _;have HR1:Hid (Blk (w.setCell ⟨R,2,none⟩ (.int .i64 ((b:Int)+1))) R 177 [.string ⟨s.toArray⟩,v,.int .i64 ((b:Int)+1)]):=hR.set 2 _;have HU1:Hid (Under R (w.setCell ⟨R,2,none⟩ (.int .i64 ((b:Int)+1)))):=(under_of hL hR0 hw0).onl HO1.out;have HOWN:=Lib.hid hown;obtain⟨W1,hW1⟩:∃W1,W1=w.setCell ⟨R,2,none⟩ (.int .i64 ((b:Int)+1)):=⟨_,rfl⟩
 rw[←hW1] at HO1 HR1 HU1;have HLA:=Lib.hid (lit_any s R 177 [v,.int .i64 ((b:Int)+1)] W1 HR1.out HU1.out hs);go_enter Tryz.func105,Tryz.ntmps105;go_wp2_with fail;simp only[←hW1]
 clear hW1 hc hf;refine HLA.out.mono ?_;rw[hq];rintro e w2 ⟨⟨rfl,hk2⟩,ho2⟩;unfold nd Nd.v zR;simp only
 obtain⟨W2,hW2⟩:∃W2,W2=w2.alloc (.cells #[.int .i64 0,.bool false,.string ⟨#[]⟩,.string ⟨#[]⟩,.string ⟨#[]⟩] 56):=⟨_,rfl⟩
 obtain⟨N,hN⟩:∃N,N=w2.heap.size:=⟨_,rfl⟩
 have hkR:Blk W2 R 177 [.string ⟨s.toArray⟩,v,.int .i64 ((b:Int)+1)]:=by rw[hW2];exact hk2.alloc _
 have HO2:Hid (Onl R w W2):=by show Onl _ _ _;rw[hW2];exact (HO1.out.trans ho2).trans (Onl.of_below ((Below.refl _ _).alloc (Nat.le_refl _) _))
 have HSP:=Lib.hid (spanL_at s lettersL R 177 [v,.int .i64 ((b:Int)+1)] W2 hkR hs (by decide) (by decide));clear hk2 ho2 hkR HLA HR1 HO1;obtain⟨D,hD⟩:∃D:ByteArray,D=⟨(spanW lettersL s).toArray⟩:=⟨_,rfl⟩
 rw[←hD] at HSP;have hy1:(D.toList==[121,101,115])=false:=by rw[hD];exact ba_ne hy
 have hy2:(D.toList==[110,111])=false:=by rw[hD];exact ba_ne hn
 have hDs:D.size≤1048576:=by rw[hD];have:=spanW_len lettersL s;show (spanW lettersL s).length≤_;omega
 have HD:=Lib.hid hD;clear hD;unfold lettersL at HSP;go_wp2_with fail;simp only[←hW2,←hN]
 clear hW2 hN;refine HSP.out.mono ?_;rintro e w3 ⟨rfl,hk3,ho3⟩;obtain⟨W3,hW3⟩:∃W3,W3=w3.alloc (.cells #[.string D] 9):=⟨_,rfl⟩
 obtain⟨N4,hN4⟩:∃N4,N4=w3.heap.size:=⟨_,rfl⟩
 have hRN4:R<N4:=by rw[hN4];exact hk3.lt
 have HR3:Hid (Blk W3 R 177 [.string ⟨(spanR lettersL s).toArray⟩,v,.int .i64 ((b:Int)+1)]):=by show Blk _ _ _ _;rw[hW3];exact hk3.alloc _
 have HW4:Hid (Blk W3 N4 9 [.string D]):=by show Blk _ _ _ _;rw[hW3,hN4];exact Blk.new w3 _ _
 have HO3:Hid (Onl R w W3):=by show Onl _ _ _;rw[hW3];exact (HO2.out.trans ho3).trans (Onl.of_below ((Below.refl _ _).alloc (Nat.le_refl _) _))
 have HWN:Hid (w.heap.size≤N4∧N4<W3.heap.size):=⟨by rw[hN4];exact (HO2.out.trans ho3).size,HW4.out.lt⟩
 clear hk3 ho3 HSP;have hc4:=HW4.out.cells;have hcr:=HR3.out.cells;rw[hW3] at hc4 hcr;have HHP:=Lib.hid (fun W=>hasp_at (spanR lettersL s) [46] W);rw[hdot] at HHP;have hy3:(D.toList==(⟨#[121,101,115]⟩:ByteArray).toList)=false:=by rw[show (⟨#[121,101,115]⟩:ByteArray).toList=[121,101,115] by rw[ByteArray.toList_eq]];exact hy1
 have hy4:(D.toList==(⟨#[110,111]⟩:ByteArray).toList)=false:=by rw[show (⟨#[110,111]⟩:ByteArray).toList=[110,111] by rw[ByteArray.toList_eq]];exact hy2
 go_wp2_with fail;simp only[←hW3,←hN4]
 clear hW3 hN4 hc4 hcr;refine (HHP.out _).mono ?_;rintro e w4 ⟨rfl,rfl⟩;have e1:(dotA s).1=spanW lettersL s∧(dotA s).2=spanR lettersL s:=by unfold dotA;rw[hdot];exact⟨rfl,rfl⟩
 obtain⟨W6,hW6⟩:∃W6,W6=w4:=⟨_,rfl⟩
 have HR6:Hid (Blk W6 R 177 [.string ⟨(dotA s).2.toArray⟩,v,.int .i64 ((b:Int)+1)]):=by show Blk _ _ _ _;rw[hW6,e1.2];exact HR3.out
 have HQ6:Hid (Blk W6 N4 9 [.string ⟨(dotA s).1.toArray⟩]):=by show Blk _ _ _ _;rw[hW6,e1.1,←HD.out];exact HW4.out
 have HO6:Hid (Onl R w W6):=by show Onl _ _ _;rw[hW6];exact HO3.out
 have HN6:Hid (w.heap.size≤N4∧N4<W6.heap.size):=⟨HWN.out.1,HQ6.out.lt⟩
 subst hW6;clear HR3 HW4 HO3 HWN e1;have hL6:LaidE W6:=hL.below (hw0.trans (HO6.out.below hR0 hw0.size));have HL6:=Lib.hid hL6;have HIX:=Lib.hid (placeOf_at ⟨(dotA s).1.toArray⟩ N4 9 0 0 25 W6 HQ6.out hL6.glob (tab_cells hL6));rw[hp] at HIX;clear hL6;go_wp2_with fail;refine HIX.out.mono ?_;rintro e w7 ⟨rfl,hb7⟩;have HB:Hid (Below R w w7):=(HO6.out.trans (Onl.of_below hb7)).below (Nat.le_refl _) (Nat.le_of_lt hR.lt);go_wp2;exact⟨rfl,rfl,HB.out⟩
theorem own_onl {R:Nat} {w w':World} {e:TypeId} {sz:Nat} {v:Value} {n:Nat} {xs:List Value} (h:w.ownsRow (R+1) e sz v n xs) (ho:Onl R w w'):w'.ownsRow (R+1) e sz v n xs:=
 h.kept (row:=some R) ⟨ho.os,ho.tape,ho.output,ho.size,fun k hk hne=>ho.block k hk (fun h=>hne (by rw[h]))⟩ (by
  cases hv:v.ownBlock with
  |none=>exact .inl rfl
  |some g=>exact .inr (by intro h';injection h' with h';have:=(h.lt g hv).1;omega))
theorem PF.drew {R:Nat} {w w':World} {v v':Value} (h:PF R w v w' v'):PF R w v w'.drew v':=⟨h.os,h.tape,h.output,h.size,h.block,h.own⟩
theorem PF.alloc {R:Nat} {w w':World} {v v':Value} (h:PF R w v w' v') (o:Obj):PF R w v (w'.alloc o) v':=h.trans (PF.of_below ((Below.refl _ _).alloc (Nat.le_refl _) _))
set_option maxRecDepth 100000 in
set_option maxHeartbeats 3200000 in
theorem ex_op1 (w0:World) (hL:LaidE w0) (R:Nat) (hR0:w0.heap.size≤R) (s:List UInt8) (ns:List Nd) (b:Nat) (v:Value) (w:World) (hw0:Below w0.heap.size w0 w)
  (hR:Blk w R 177 [.string ⟨s.toArray⟩,v,.int .i64 (b:Int)]) (hown:w.ownsRow (R+1) 56 5 v ns.length (nds ns)) (hs:s.length≤1048576) (hb:b≤59) (hns:ns.length≤b) (hq:litA s=some none) (hy:spanW lettersL s≠yesL) (hn:spanW lettersL s≠noL) (hdot:Lib.hasPrefix (spanR lettersL s) [46]=true) (k:Nat) (hp:placeOf ⟨(dotA s).1.toArray⟩=(k:Int)) (hstp:(shp (k:Int)).stp=false) (f:Nat) (ih:∀(s:List UInt8) (ns:List Nd) (b:Nat) (v:Value) (w:World),Below w0.heap.size w0 w→Blk w R 177 [.string ⟨s.toArray⟩,v,.int .i64 (b:Int)]→w.ownsRow (R+1) 56 5 v ns.length (nds ns)→s.length≤1048576→ns.length≤b→b≤60→61≤b+f→Calls Tryz.prog 105 #[.pointer (some ⟨R,0,none⟩)] w (ExPost (parA f s ns b) R v w)) (hbf:61≤b+1+f):
  Calls Tryz.prog 105 #[.pointer (some ⟨R,0,none⟩)] w (ExPost (tailA (parA f) (k:Int) (dotA s).2 ns (b+1)) R v w):=by
 obtain⟨hk25,hkw,_⟩:=place_spec hp;have hnam:=dot_nam hp;rw[hdot] at hnam;have hol:=shp_ops_le (k:Int);have HIH:=Lib.hid ih;obtain⟨T,hT⟩:∃T,T=tailA (parA f) (k:Int) (dotA s).2 ns (b+1):=⟨_,rfl⟩
 rw[←hT];have HT:=Lib.hid hT;clear hT;clear ih hkw;have hc:=hR.cells;have hf:=hR.froz;have hb1:((b:Int)+1)≤60:=by omega
 have HO1:Hid (Onl R w (w.setCell ⟨R,2,none⟩ (.int .i64 ((b:Int)+1)))):=(Onl.refl R w).set 2 _;have HR1:Hid (Blk (w.setCell ⟨R,2,none⟩ (.int .i64 ((b:Int)+1))) R 177 [.string ⟨s.toArray⟩,v,.int .i64 ((b:Int)+1)]):=hR.set 2 _;have HU1:Hid (Under R (w.setCell ⟨R,2,none⟩ (.int .i64 ((b:Int)+1)))):=(under_of hL hR0 hw0).onl HO1.out;have HOWN:=Lib.hid hown;obtain⟨W1,hW1⟩:∃W1,W1=w.setCell ⟨R,2,none⟩ (.int .i64 ((b:Int)+1)):=⟨_,rfl⟩
 rw[←hW1] at HO1 HR1 HU1;have HLA:=Lib.hid (lit_any s R 177 [v,.int .i64 ((b:Int)+1)] W1 HR1.out HU1.out hs);go_enter Tryz.func105,Tryz.ntmps105;go_wp2_with fail;simp only[←hW1]
 clear hW1 hc hf;refine HLA.out.mono ?_;rw[hq];rintro e w2 ⟨⟨rfl,hk2⟩,ho2⟩;unfold nd Nd.v zR;simp only
 obtain⟨W2,hW2⟩:∃W2,W2=w2.alloc (.cells #[.int .i64 0,.bool false,.string ⟨#[]⟩,.string ⟨#[]⟩,.string ⟨#[]⟩] 56):=⟨_,rfl⟩
 obtain⟨N,hN⟩:∃N,N=w2.heap.size:=⟨_,rfl⟩
 have hkR:Blk W2 R 177 [.string ⟨s.toArray⟩,v,.int .i64 ((b:Int)+1)]:=by rw[hW2];exact hk2.alloc _
 have HO2:Hid (Onl R w W2):=by show Onl _ _ _;rw[hW2];exact (HO1.out.trans ho2).trans (Onl.of_below ((Below.refl _ _).alloc (Nat.le_refl _) _))
 have HSP:=Lib.hid (spanL_at s lettersL R 177 [v,.int .i64 ((b:Int)+1)] W2 hkR hs (by decide) (by decide));clear hk2 ho2 hkR HLA HR1 HO1;obtain⟨D,hD⟩:∃D:ByteArray,D=⟨(spanW lettersL s).toArray⟩:=⟨_,rfl⟩
 rw[←hD] at HSP;have hy1:(D.toList==[121,101,115])=false:=by rw[hD];exact ba_ne hy
 have hy2:(D.toList==[110,111])=false:=by rw[hD];exact ba_ne hn
 have hDs:D.size≤1048576:=by rw[hD];have:=spanW_len lettersL s;show (spanW lettersL s).length≤_;omega
 have HD:=Lib.hid hD;clear hD;unfold lettersL at HSP;go_wp2_with fail;simp only[←hW2,←hN]
 clear hW2 hN;refine HSP.out.mono ?_;rintro e w3 ⟨rfl,hk3,ho3⟩;obtain⟨W3,hW3⟩:∃W3,W3=w3.alloc (.cells #[.string D] 9):=⟨_,rfl⟩
 obtain⟨N4,hN4⟩:∃N4,N4=w3.heap.size:=⟨_,rfl⟩
 have hRN4:R<N4:=by rw[hN4];exact hk3.lt
 have HR3:Hid (Blk W3 R 177 [.string ⟨(spanR lettersL s).toArray⟩,v,.int .i64 ((b:Int)+1)]):=by show Blk _ _ _ _;rw[hW3];exact hk3.alloc _
 have HW4:Hid (Blk W3 N4 9 [.string D]):=by show Blk _ _ _ _;rw[hW3,hN4];exact Blk.new w3 _ _
 have HO3:Hid (Onl R w W3):=by show Onl _ _ _;rw[hW3];exact (HO2.out.trans ho3).trans (Onl.of_below ((Below.refl _ _).alloc (Nat.le_refl _) _))
 have HWN:Hid (w.heap.size≤N4∧N4<W3.heap.size):=⟨by rw[hN4];exact (HO2.out.trans ho3).size,HW4.out.lt⟩
 clear hk3 ho3 HSP;have hc4:=HW4.out.cells;have hcr:=HR3.out.cells;rw[hW3] at hc4 hcr;have HHP:=Lib.hid (fun W=>hasp_at (spanR lettersL s) [46] W);rw[hdot] at HHP;have hy3:(D.toList==(⟨#[121,101,115]⟩:ByteArray).toList)=false:=by rw[show (⟨#[121,101,115]⟩:ByteArray).toList=[121,101,115] by rw[ByteArray.toList_eq]];exact hy1
 have hy4:(D.toList==(⟨#[110,111]⟩:ByteArray).toList)=false:=by rw[show (⟨#[110,111]⟩:ByteArray).toList=[110,111] by rw[ByteArray.toList_eq]];exact hy2
 go_wp2_with fail;simp only[←hW3,←hN4]
 clear hW3 hN4 hc4 hcr;refine (HHP.out _).mono ?_;rintro e w4 ⟨rfl,rfl⟩;have HWA:=Lib.hid (wantL_yes (spanR lettersL s) [46] R 177 [v,.int .i64 ((b:Int)+1)] _ HR3.out hdot);have e1:(dotA s).1=spanW lettersL s++[46]∧(dotA s).2=(spanR lettersL s).drop 1:=by unfold dotA;rw[hdot];exact⟨rfl,rfl⟩
 have hQ:D++(⟨#[46]⟩:ByteArray)=⟨(dotA s).1.toArray⟩:=ba_eq (by rw[ba_app,HD.out,e1.1]);have HE2:=Lib.hid e1.2;have HQe:=Lib.hid hQ;have hsmD:¬(9223372036854775807<D.size+1):=by omega
 clear e1 hQ;go_wp2_with fail;refine HWA.out.mono ?_;rintro e w5 ⟨rfl,hk5,ho5⟩;have hk4:=ho5.blk HW4.out (by omega);have hc4:=hk4.cells;have hf4:=hk4.froz;obtain⟨W6,hW6⟩:∃W6,W6=w5.setCell ⟨N4,0,none⟩ (.string (D++(⟨#[46]⟩:ByteArray))):=⟨_,rfl⟩
 have HR6:Hid (Blk W6 R 177 [.string ⟨(dotA s).2.toArray⟩,v,.int .i64 ((b:Int)+1)]):=by
  show Blk _ _ _ _;rw[hW6,HE2.out];exact hk5.other (p:=⟨N4,0,none⟩) (by show R≠N4;omega) _
 have HQ6:Hid (Blk W6 N4 9 [.string ⟨(dotA s).1.toArray⟩]):=by
  show Blk _ _ _ _;rw[hW6,←HQe.out];exact hk4.set 0 _
 have HO6:Hid (Onl R w W6):=by
  show Onl _ _ _;rw[hW6];exact (HO3.out.trans ho5).fresh HWN.out.1 0 _
 have HN6:Hid (w.heap.size≤N4∧N4<W6.heap.size):=⟨HWN.out.1,HQ6.out.lt⟩
 clear hk5 ho5 hk4 HWA HR3 HW4 HO3 HWN hsmD;have hL6:LaidE W6:=hL.below (hw0.trans (HO6.out.below hR0 hw0.size));have HL6:=Lib.hid hL6;have HIX:=Lib.hid (placeOf_at ⟨(dotA s).1.toArray⟩ N4 9 0 0 25 W6 HQ6.out hL6.glob (tab_cells hL6));rw[hp] at HIX;clear hL6;have hsm9:¬(9223372036854775807<D.size+1):=by omega
 go_wp2_with fail;simp only[←hW6]
 clear hW6 hc4 hf4 hsm9;refine HIX.out.mono ?_;rintro e w7 ⟨rfl,hb7⟩;have hk7:=HR6.out.below hb7 HR6.out.lt;have HK7:=Lib.hid hk7;have HL7:=Lib.hid (HL6.out.below hb7);have HO7:Hid (Onl R w w7):=HO6.out.trans (Onl.of_below hb7);have hlt7:w.heap.size≤w7.heap.size:=HO7.out.size;have ht0:=HL7.out.cell k 0 (by omega) (by omega);have ht1:=HL7.out.cell k 1 (by omega) (by omega);have ht2:=HL7.out.cell k 2 (by omega) (by omega);have ht3:=HL7.out.cell k 3 (by omega) (by omega);have ht4:=HL7.out.cell k 4 (by omega) (by omega);have hta:=fun (o:Obj) (i:Nat) (hi:i<5)=>(HL7.out.alloc o).cell k i (by omega) hi
 have htb:=fun (o o':Obj) (i:Nat) (hi:i<5)=>((HL7.out.alloc o).alloc o').cell k i (by omega) hi
 have hta0:=fun o=>hta o 0 (by omega)
 have hta1:=fun o=>hta o 1 (by omega)
 have hta2:=fun o=>hta o 2 (by omega)
 have hta3:=fun o=>hta o 3 (by omega)
 have hta4:=fun o=>hta o 4 (by omega)
 have htb0:=fun o o'=>htb o o' 0 (by omega)
 have htb1:=fun o o'=>htb o o' 1 (by omega)
 have htb2:=fun o o'=>htb o o' 2 (by omega)
 have htb3:=fun o o'=>htb o o' 3 (by omega)
 have htb4:=fun o o'=>htb o o' 4 (by omega)
 clear hta htb;have hkk:(k:Int)<25:=by omega
 simp only[Sh.cells,List.getElem?_cons_zero,List.getElem?_cons_succ,Nat.add_zero] at ht0 ht1 ht2 ht3 ht4 hta0 hta1 hta2 hta3 hta4 htb0 htb1 htb2 htb3 htb4;clear hb7 HIX HR6 HQ6 HO6 HN6 HL6 hk7;generalize hsh:shp (k:Int)=sh at*;obtain⟨wdl,oo,lit,nam,stp⟩:=sh;simp only at ht0 ht1 ht2 ht3 ht4 hta0 hta1 hta2 hta3 hta4 htb0 htb1 htb2 htb3 htb4 hnam hstp hol;subst hnam hstp;obtain⟨wd,hwd⟩:∃wd:ByteArray,⟨wdl.toArray⟩=wd:=⟨_,rfl⟩
 simp only[hwd] at ht0 hta0 htb0;have HSH:=Lib.hid hsh;clear hwd hsh hp hn hy hq;go_wp2_with fail;go_region
 ·obtain⟨W8,hW8⟩:∃W8,W8=(w7.alloc (.cells #[.int .i64 (k:Int),.bool false,.string ⟨#[]⟩,.string ⟨#[]⟩,.string ⟨#[]⟩] 56)).alloc (.cells #[.string wd,.int .i64 (oo:Int),.bool lit,.bool true,.bool false] 86):=⟨_,rfl⟩
  obtain⟨Na,hNa⟩:∃Na,Na=w7.heap.size:=⟨_,rfl⟩
  have hk8a:Blk W8 Na 56 [.int .i64 (k:Int),.bool false,.string ⟨#[]⟩,.string ⟨#[]⟩,.string ⟨#[]⟩]:=by rw[hW8,hNa];exact (Blk.new w7 _ _).alloc _
  have hk8b:Blk W8 (Na+1) 86 [.string wd,.int .i64 (oo:Int),.bool lit,.bool true,.bool false]:=by
   have h:=Blk.new (w7.alloc (.cells #[.int .i64 (k:Int),.bool false,.string ⟨#[]⟩,.string ⟨#[]⟩,.string ⟨#[]⟩] 56)) 86 #[.string wd,.int .i64 (oo:Int),.bool lit,.bool true,.bool false];rw[World.size_alloc] at h;rw[hW8,hNa];exact h
  have HO8:Hid (Onl R w W8):=by show Onl _ _ _;rw[hW8];exact (HO7.out.trans (Onl.of_below ((Below.refl _ _).alloc (Nat.le_refl _) _))).trans (Onl.of_below ((Below.refl _ _).alloc (Nat.le_refl _) _))
  have HR8:Hid (Blk W8 R 177 [.string ⟨(dotA s).2.toArray⟩,v,.int .i64 ((b:Int)+1)]):=by show Blk _ _ _ _;rw[hW8];exact (HK7.out.alloc _).alloc _
  have hlt8:w.heap.size≤Na∧R<Na:=⟨by omega,by rw[hNa];exact HK7.out.lt⟩
  clear ht0 ht1 ht2 ht3 ht4 hta0 hta1 hta2 hta3 hta4 htb0 htb1 htb2 htb3 htb4 HO7 HK7;have HNn0:=Lib.hid hk8a;have HNs0:=Lib.hid hk8b;have hcn:=hk8a.cells;have hfn:=hk8a.froz;have hcs:=hk8b.cells;rw[hW8] at hcn hcs hfn;have hl2:(dotA s).2.length≤1048576:=by have:=(dotA_len s).1;omega
  have HSP:=Lib.hid (spanL_at (dotA s).2 namesL R 177 [v,.int .i64 ((b:Int)+1)] W8.drew HR8.out hl2 (by decide) (by decide));obtain⟨NM,hNM⟩:∃NM:ByteArray,NM=⟨(spanW namesL (dotA s).2).toArray⟩:=⟨_,rfl⟩
  rw[←hNM] at HSP;have HNM:=Lib.hid hNM;clear hNM;have hnl:namesL=[97,98,99,100,101,102,103,104,105,106,107,108,109,110,111,112,113,114,115,116,117,118,119,120,121,122,48,49,50,51,52,53,54,55,56,57,95]:=rfl
  have HT3:Hid (T=(opsA (parA f) oo 0 (spanR namesL (dotA s).2) ns (b+1)).bind (tl3 (k:Int) (spanW namesL (dotA s).2) zR)):=by
   show _=_;rw[HT.out];unfold tailA tl3 stpA;rw[HSH.out];rfl
  have hs9:(spanR namesL (dotA s).2).length≤1048576:=by have:=spanR_len namesL (dotA s).2;omega
  generalize spanR namesL (dotA s).2=s9 at*;rw[hnl] at HSP;clear hnl hl2;go_wp2_with fail;simp only[←hW8,←hNa]
  clear hW8 hNa hcn hcs hfn;refine HSP.out.mono ?_;rintro e w9 ⟨rfl,hk9,ho9⟩;have hn9:=ho9.blk HNn0.out (by omega);have hcn:=hn9.cells;have hfn:=hn9.froz;have hcs:=(ho9.blk HNs0.out (by omega)).cells;obtain⟨W9,hW9⟩:∃W9,W9=w9.setCell ⟨Na,4,none⟩ (.string NM):=⟨_,rfl⟩
  have HR9:Hid (Blk W9 R 177 [.string ⟨s9.toArray⟩,v,.int .i64 ((b:Int)+1)]):=by show Blk _ _ _ _;rw[hW9];exact hk9.other (p:=⟨Na,4,none⟩) (by show R≠Na;omega) _
  have HN9:Hid (Blk W9 Na 56 [.int .i64 (k:Int),.bool false,.string ⟨#[]⟩,.string ⟨#[]⟩,.string NM]):=by show Blk _ _ _ _;rw[hW9];exact hn9.set 4 _
  have HS9:Hid (Blk W9 (Na+1) 86 [.string wd,.int .i64 (oo:Int),.bool lit,.bool true,.bool false]):=by show Blk _ _ _ _;rw[hW9];exact (ho9.blk HNs0.out (by omega)).other (p:=⟨Na,4,none⟩) (by show (Na+1)≠Na;omega) _
  have HO9:Hid (Onl R w W9):=by show Onl _ _ _;rw[hW9];exact (HO8.out.drew.trans ho9).fresh (by omega) 4 _
  have HND:Hid (nd (k:Int) zR (spanW namesL (dotA s).2)=⟨(k:Int),⟨false,⟨#[]⟩,⟨#[]⟩⟩,NM⟩):=by show nd _ _ _=_;rw[HNM.out];rfl
  generalize spanW namesL (dotA s).2=nmL at*;have HT4:=Lib.hid HT3.out;clear hk9 ho9 hn9 HNn0 HNs0 HO8 HR8 HSP HNM HT HT3;obtain⟨qn,hqn⟩:∃qn,qn=nd (k:Int) zR nmL:=⟨_,rfl⟩
  have hcs9:=HS9.out.cells;rw[hW9] at hcs9;go_wp2_with fail;simp only[←hW9]
  clear hW9 hcs9 hcn hfn hcs
  have hown2:W9.ownsRow (R+1) 56 5 v ns.length (nds ns):=HOWN.out.kept (row:=some R) ⟨HO9.out.os,HO9.out.tape,HO9.out.output,HO9.out.size,fun k hk hne=>HO9.out.block k hk (fun h=>hne (by rw[h]))⟩ (by
   cases hv:v.ownBlock with
   |none=>exact .inl rfl
   |some g=>exact .inr (by intro h;injection h with h;have:=(HOWN.out.lt g hv).1;omega))
  have hvN:v.ownBlock≠some Na:=fun h=>by have:=(HOWN.out.lt Na h).2;have:=hlt8;omega
  have hvS:v.ownBlock≠some (Na+1):=fun h=>by have:=(HOWN.out.lt (Na+1) h).2;have:=hlt8;omega
  have HOW9:=Lib.hid hown2;have HVN:=Lib.hid hvN;have HVS:=Lib.hid hvS;have hRn:Na≠R:=by omega
  have hRs:(Na+1)≠R:=by omega
  have HTL:Hid (∀t:PS,tl3 (k:Int) nmL zR t=if 0<oo then (if Lib.hasPrefix t.1 [41] then some (t.1.drop 1,t.2.1++[qn],t.2.2) else none) else some (t.1,t.2.1++[qn],t.2.2)):=fun t=>by
   unfold tl3;rw[HSH.out,hqn]
  have HQN:Hid (qn=⟨(k:Int),(⟨false,⟨#[]⟩,⟨#[]⟩⟩:Ra),NM⟩):=by show _=_;rw[hqn];exact HND.out
  generalize tl3 (k:Int) nmL zR=TL at*;clear hown2 hvN hvS hqn HND HSH
  go_loopg [101] oo (fun g iv wr=>∃(i:Nat) (s':List UInt8) (ns':List Nd) (b':Nat) (v':Value),i+g=oo∧iv=.int .i64 (i:Int)∧Hid (T=(opsA (parA f) g i s' ns' b').bind TL)∧Hid (Blk wr R 177 [.string ⟨s'.toArray⟩,v',.int .i64 (b':Int)])∧Hid (wr.ownsRow (R+1) 56 5 v' ns'.length (nds ns'))∧Hid (PF R W9 v wr v')∧Hid (s'.length≤1048576∧ns'.length≤b'∧b'≤60∧b+1≤b'))
  case atStart=>exact⟨0,s9,ns,b+1,v,by omega,rfl,HT4.out,HR9.out,HOW9.out,PF.of_onl (Onl.refl _ _),⟨hs9,by omega,by omega,Nat.le_refl _⟩⟩
  case round=>
   obtain⟨i,s',ns',b',v',hi,rfl,hTr,hRr,hor,hpr,hbd⟩:=hrel;have hrN:=hpr.out.blk HN9.out hRn HVN.out;have hrS:=hpr.out.blk HS9.out hRs HVS.out;by_cases hlt:i<oo
   ·obtain⟨m,rfl⟩:∃m,gk=m+1:=⟨gk-1,by omega⟩
    have hi3:i<3:=by omega
    obtain⟨Z,hZ⟩:∃Z:ByteArray,Z=⟨(sepW i).toArray⟩:=⟨_,rfl⟩
    have hz1:(wr.alloc (.cells #[.string ⟨#[40]⟩,.string ⟨#[44,32]⟩,.string ⟨#[44,32]⟩] 9)).cell? ⟨wr.heap.size,i,none⟩=some (.string Z):=by
     have h:=(Blk.new wr 9 #[.string ⟨#[40]⟩,.string ⟨#[44,32]⟩,.string ⟨#[44,32]⟩]).cells i;rw[h,hZ];rcases (by omega:i=0∨i=1∨i=2) with rfl|rfl|rfl<;>rfl
    have HZ:=Lib.hid hZ;clear hZ;have HHR:=Lib.hid hR.lt;go_wp2_with fail;cases hpx:Lib.hasPrefix s' (sepW i)
    ·have hTn:T=none:=by rw[hTr.out,opsA,if_neg (by rw[hpx];simp)];rfl
     have HWn:Hid (Calls Tryz.prog 139 #[.pointer (some ⟨R,0,none⟩),.string Z] (wr.alloc (.cells #[.string ⟨#[40]⟩,.string ⟨#[44,32]⟩,.string ⟨#[44,32]⟩] 9)) fun e w'=>e=.panicked noText∧w'=wr.alloc (.cells #[.string ⟨#[40]⟩,.string ⟨#[44,32]⟩,.string ⟨#[44,32]⟩] 9)):=by
      show Calls _ _ _ _ _;rw[HZ.out];exact wantL_no s' (sepW i) R 177 [v',.int .i64 (b':Int)] _ (hRr.out.alloc _) hpx
     have HBp:Hid (Below R w (wr.alloc (.cells #[.string ⟨#[40]⟩,.string ⟨#[44,32]⟩,.string ⟨#[44,32]⟩] 9))):=(((PF.of_onl HO9.out).trans hpr.out).alloc _).below hown (Nat.le_refl _) (Nat.le_of_lt HHR.out);subst hTn;refine HWn.out.mono ?_;rintro e w10 ⟨rfl,rfl⟩;clear hpx hz1 hrN hrS;go_wp2;exact⟨rfl,rfl,HBp.out⟩
    ·have HWy:Hid (Calls Tryz.prog 139 #[.pointer (some ⟨R,0,none⟩),.string Z] (wr.alloc (.cells #[.string ⟨#[40]⟩,.string ⟨#[44,32]⟩,.string ⟨#[44,32]⟩] 9)) fun e w'=>e=.returned (.tuple #[])∧Blk w' R 177 [.string ⟨(s'.drop (sepW i).length).toArray⟩,v',.int .i64 (b':Int)]∧Onl R (wr.alloc (.cells #[.string ⟨#[40]⟩,.string ⟨#[44,32]⟩,.string ⟨#[44,32]⟩] 9)) w'):=by
      show Calls _ _ _ _ _;rw[HZ.out];exact wantL_yes s' (sepW i) R 177 [v',.int .i64 (b':Int)] _ (hRr.out.alloc _) hpx
     refine HWy.out.mono ?_;rintro e w10 ⟨rfl,hk10,ho10⟩;have hp9:PF R W9 v w10 v':=(hpr.out.alloc _).trans (PF.of_onl ho10);have hp10:PF R w v w10 v':=(PF.of_onl HO9.out).trans hp9;have hor10:w10.ownsRow (R+1) 56 5 v' ns'.length (nds ns'):=own_onl (hor.out.alloc _) ho10;have hb10:Below w0.heap.size w0 w10:=hw0.trans (hp10.below hown hR0 hw0.size);have hs10:(s'.drop (sepW i).length).length≤1048576:=by have:=drop_len s' (sepW i).length;have:=hbd.out.1;omega
     have HC:=Lib.hid (HIH.out (s'.drop (sepW i).length) ns' b' v' w10 hb10 hk10 hor10 hs10 hbd.out.2.1 hbd.out.2.2.1 (by have:=hbd.out.2.2.2;omega));have HP9:=Lib.hid hp9;have HBR:Hid (Below R w w10):=hp10.below hown (Nat.le_refl _) (Nat.le_of_lt HHR.out);clear hk10 ho10 hp9 hp10 hor10 hb10 hs10 hz1 hrN hrS HWy;cases hpa:parA f (s'.drop (sepW i).length) ns' b' with
     |none=>
      have hTn:T=none:=by rw[hTr.out,opsA,if_pos hpx,hpa];rfl
      rw[hpa] at HC;subst hTn;clear hpx hpa;go_wp2_with fail;refine HC.out.mono ?_;rintro e w11 ⟨rfl,hb11⟩;have HBp:Hid (Below R w w11):=HBR.out.trans hb11;clear hb11;go_wp2;exact⟨rfl,rfl,HBp.out⟩
     |some q=>
      obtain⟨s2,ns2,b2⟩:=q;have pb:=(parA_pb f _ _ _ _ hpa).1;have pb1:=pb.rest;have pb2:=pb.begun;have pb3:=pb.most;have pb4:=pb.nodes;have hdl:=drop_len s' (sepW i).length;simp only at pb1 pb2 pb3 pb4
      have HT6:Hid (T=(opsA (parA f) m (i+1) s2 ns2 b2).bind TL):=by
       show _=_;rw[hTr.out,opsA,if_pos hpx,hpa];rfl
      have HBD:Hid (s2.length≤1048576∧ns2.length≤b2∧b2≤60∧b+1≤b2):=by
       have h:=hbd.out;exact⟨by omega,by omega,pb3,by omega⟩
      rw[hpa] at HC;clear hpx hpa pb pb1 pb2 pb3 pb4 hdl;go_wp2_with fail;refine HC.out.mono ?_;rintro e w11 ⟨rfl,v2,hk11,hor11,hpf11⟩;have HK11:=Lib.hid hk11;have HOR11:=Lib.hid hor11;have HPF11:Hid (PF R W9 v w11 v2):=HP9.out.trans hpf11;clear hk11 hor11 hpf11;go_wp2
      go_roundg m
      case measure=>omega
      case rel=>exact⟨i+1,s2,ns2,b2,v2,by omega,by go_num,HT6,HK11,HOR11,HPF11,HBD⟩
   ·obtain rfl:i=oo:=by omega
    obtain rfl:gk=0:=by omega
    have hT5:T=TL (s',ns',b'):=by rw[hTr.out];rfl
    rw[HTL.out] at hT5;have HT5:=Lib.hid hT5;have hcs:=hrS.cells;have hns':ns'.length≤60:=by have:=hbd.out;omega
    have hqn2:=HQN.out;subst hqn2;clear hT5 HIH;by_cases ho:i=0
    ·subst ho;have hT6:=HT5.out;rw[if_neg (by omega)] at hT6;clear HT5;subst hT6;have HPX:=Lib.hid (((PF.of_onl HO9.out).trans hpr.out).drew);have hkR:=hRr.out;have hkN:=hrN;have hown2:=hor.out;clear hrN hrS hRr hor;go_wp2_with fail;clear hcs;have hcR:=hkR.drew.cells;have hfR:=hkR.drew.froz;have hcN:=hkN.drew.cells;have hcR2:=(hkR.alloc (.cells #[.int .i64 (k:Int),.bool false,.string ⟨#[]⟩,.string ⟨#[]⟩,.string NM] 56)).cells;have hcN2:=(hkN.alloc (.cells #[.int .i64 (k:Int),.bool false,.string ⟨#[]⟩,.string ⟨#[]⟩,.string NM] 56)).cells;have HKR:=Lib.hid hkR;have hszW:R+1≤wr.heap.size:=hkR.lt;have HOWN2:=Lib.hid hown2;clear hkR hkN hown2
     go_region_law ((refine step_push_at wr.drew #[.int .i64 (k:Int),.bool false,.string ⟨#[]⟩,.string ⟨#[]⟩,.string NM] (by rfl) _ _ 43 (by rfl) (R+1) 56 (.agg #[.int .i64 0,.bool false,.string ⟨#[]⟩,.string ⟨#[]⟩,.string ⟨#[]⟩]) 5 64 1 Tryz.underlying43 info_node rfl (by decide) v' ns'.length (nds ns') (by rfl) HOWN2.out (by rfl) (by rfl) (by simp[Value.oneCell']) (by unfold maxLen;omega) (by omega) hszW ?_;intro v5 w5 hown5 hg5 hv5;obtain⟨g5,cap5,rfl,hgR⟩:=own_form hown5 (by omega);have hk5:=HKR.out.of_block (hg5.block R HKR.out.lt (fun h=>by have:=(HOWN2.out.lt R h.symm).1;omega));have HK5:=Lib.hid hk5;have hc5:=hk5.cells;have hf5:=hk5.froz;have HOWN5:=Lib.hid hown5;have HG5:=Lib.hid hg5;have HV5:=Lib.hid hv5;clear hown5 hg5 hv5 hk5))
     all_goals
      go_wp2
      first|go_end0|refine bodyPost_ret (results_none rfl _ _ _) rfl ?_
      refine⟨rfl,_,HK5.out.set 1 _,?_,HPX.out.trans (PF.push HG5.out HV5.out 1 _)⟩;rw[List.length_append,nds_snoc];exact own_set HOWN5.out 1 _
    ·have hop:0<i:=by omega
     have HHR:=Lib.hid hR.lt;cases hpx2:Lib.hasPrefix s' [41]
     ·have hT6:=HT5.out;rw[if_pos hop,hpx2,if_neg (by simp)] at hT6;have HWn:=Lib.hid (wantL_no s' [41] R 177 [v',.int .i64 (b':Int)] wr hRr.out hpx2);have HBp:Hid (Below R w wr):=((PF.of_onl HO9.out).trans hpr.out).below hown (Nat.le_refl _) (Nat.le_of_lt HHR.out);clear HT5 hpx2;subst hT6;go_wp2_with fail;refine HWn.out.mono ?_;rintro e w13 ⟨rfl,rfl⟩;go_wp2;exact⟨rfl,rfl,HBp.out⟩
     ·have hT6:=HT5.out;rw[if_pos hop,hpx2,if_pos rfl] at hT6;obtain⟨Y,hY⟩:∃Y,s'.drop 1=Y:=⟨_,rfl⟩
      have HWy:Hid (Calls Tryz.prog 139 #[.pointer (some ⟨R,0,none⟩),.string ⟨#[41]⟩] wr fun e w'=>e=.returned (.tuple #[])∧Blk w' R 177 [.string ⟨Y.toArray⟩,v',.int .i64 (b':Int)]∧Onl R wr w'):=by
       show Calls _ _ _ _ _;rw[←hY];exact wantL_yes s' [41] R 177 [v',.int .i64 (b':Int)] wr hRr.out hpx2
      rw[hY] at hT6;clear hY;have HRN:=Lib.hid hrN;clear HT5 hpx2 hrN hrS;subst hT6;go_wp2_with fail;refine HWy.out.mono ?_;rintro e w13 ⟨rfl,hkR,ho13⟩;have hkN:=ho13.blk HRN.out hRn;have hown2:=own_onl hor.out ho13;have HPX:=Lib.hid (((PF.of_onl HO9.out).trans (hpr.out.trans (PF.of_onl ho13))).drew);clear hRr hor hcs ho13;go_wp2_with fail;have hcR:=hkR.drew.cells;have hfR:=hkR.drew.froz;have hcN:=hkN.drew.cells;have hcR2:=(hkR.alloc (.cells #[.int .i64 (k:Int),.bool false,.string ⟨#[]⟩,.string ⟨#[]⟩,.string NM] 56)).cells;have hcN2:=(hkN.alloc (.cells #[.int .i64 (k:Int),.bool false,.string ⟨#[]⟩,.string ⟨#[]⟩,.string NM] 56)).cells;have HKR:=Lib.hid hkR;have hszW:R+1≤w13.heap.size:=hkR.lt;have HOWN2:=Lib.hid hown2;clear hkR hkN hown2
      go_region_law ((refine step_push_at w13.drew #[.int .i64 (k:Int),.bool false,.string ⟨#[]⟩,.string ⟨#[]⟩,.string NM] (by rfl) _ _ 43 (by rfl) (R+1) 56 (.agg #[.int .i64 0,.bool false,.string ⟨#[]⟩,.string ⟨#[]⟩,.string ⟨#[]⟩]) 5 64 1 Tryz.underlying43 info_node rfl (by decide) v' ns'.length (nds ns') (by rfl) HOWN2.out (by rfl) (by rfl) (by simp[Value.oneCell']) (by unfold maxLen;omega) (by omega) hszW ?_;intro v5 w5 hown5 hg5 hv5;obtain⟨g5,cap5,rfl,hgR⟩:=own_form hown5 (by omega);have hk5:=HKR.out.of_block (hg5.block R HKR.out.lt (fun h=>by have:=(HOWN2.out.lt R h.symm).1;omega));have HK5:=Lib.hid hk5;have hc5:=hk5.cells;have hf5:=hk5.froz;have HOWN5:=Lib.hid hown5;have HG5:=Lib.hid hg5;have HV5:=Lib.hid hv5;clear hown5 hg5 hv5 hk5))
      all_goals
       go_wp2
       first|go_end0|refine bodyPost_ret (results_none rfl _ _ _) rfl ?_
       refine⟨rfl,_,HK5.out.set 1 _,?_,HPX.out.trans (PF.push HG5.out HV5.out 1 _)⟩;rw[List.length_append,nds_snoc];exact own_set HOWN5.out 1 _
 ·obtain⟨W8,hW8⟩:∃W8,W8=(w7.alloc (.cells #[.string wd,.int .i64 (oo:Int),.bool lit,.bool true,.bool false] 86)).alloc (.cells #[.int .i64 (k:Int),.bool false,.string ⟨#[]⟩,.string ⟨#[]⟩,.string ⟨#[]⟩] 56):=⟨_,rfl⟩
  obtain⟨Na,hNa⟩:∃Na,Na=w7.heap.size:=⟨_,rfl⟩
  have hk8a:Blk W8 Na 86 [.string wd,.int .i64 (oo:Int),.bool lit,.bool true,.bool false]:=by rw[hW8,hNa];exact (Blk.new w7 _ _).alloc _
  have hk8b:Blk W8 (Na+1) 56 [.int .i64 (k:Int),.bool false,.string ⟨#[]⟩,.string ⟨#[]⟩,.string ⟨#[]⟩]:=by
   have h:=Blk.new (w7.alloc (.cells #[.string wd,.int .i64 (oo:Int),.bool lit,.bool true,.bool false] 86)) 56 #[.int .i64 (k:Int),.bool false,.string ⟨#[]⟩,.string ⟨#[]⟩,.string ⟨#[]⟩];rw[World.size_alloc] at h;rw[hW8,hNa];exact h
  have HO8:Hid (Onl R w W8):=by show Onl _ _ _;rw[hW8];exact (HO7.out.trans (Onl.of_below ((Below.refl _ _).alloc (Nat.le_refl _) _))).trans (Onl.of_below ((Below.refl _ _).alloc (Nat.le_refl _) _))
  have HR8:Hid (Blk W8 R 177 [.string ⟨(dotA s).2.toArray⟩,v,.int .i64 ((b:Int)+1)]):=by show Blk _ _ _ _;rw[hW8];exact (HK7.out.alloc _).alloc _
  have hlt8:w.heap.size≤Na∧R<Na:=⟨by omega,by rw[hNa];exact HK7.out.lt⟩
  clear ht0 ht1 ht2 ht3 ht4 hta0 hta1 hta2 hta3 hta4 htb0 htb1 htb2 htb3 htb4 HO7 HK7;have HNn0:=Lib.hid hk8b;have HNs0:=Lib.hid hk8a;have hcn:=hk8b.cells;have hfn:=hk8b.froz;have hcs:=hk8a.cells;rw[hW8] at hcn hcs hfn;have hl2:(dotA s).2.length≤1048576:=by have:=(dotA_len s).1;omega
  have HSP:=Lib.hid (spanL_at (dotA s).2 namesL R 177 [v,.int .i64 ((b:Int)+1)] W8.drew HR8.out hl2 (by decide) (by decide));obtain⟨NM,hNM⟩:∃NM:ByteArray,NM=⟨(spanW namesL (dotA s).2).toArray⟩:=⟨_,rfl⟩
  rw[←hNM] at HSP;have HNM:=Lib.hid hNM;clear hNM;have hnl:namesL=[97,98,99,100,101,102,103,104,105,106,107,108,109,110,111,112,113,114,115,116,117,118,119,120,121,122,48,49,50,51,52,53,54,55,56,57,95]:=rfl
  have HT3:Hid (T=(opsA (parA f) oo 0 (spanR namesL (dotA s).2) ns (b+1)).bind (tl3 (k:Int) (spanW namesL (dotA s).2) zR)):=by
   show _=_;rw[HT.out];unfold tailA tl3 stpA;rw[HSH.out];rfl
  have hs9:(spanR namesL (dotA s).2).length≤1048576:=by have:=spanR_len namesL (dotA s).2;omega
  generalize spanR namesL (dotA s).2=s9 at*;rw[hnl] at HSP;clear hnl hl2;go_wp2_with fail;simp only[←hW8,←hNa]
  clear hW8 hNa hcn hcs hfn;refine HSP.out.mono ?_;rintro e w9 ⟨rfl,hk9,ho9⟩;have hn9:=ho9.blk HNn0.out (by omega);have hcn:=hn9.cells;have hfn:=hn9.froz;have hcs:=(ho9.blk HNs0.out (by omega)).cells;obtain⟨W9,hW9⟩:∃W9,W9=w9.setCell ⟨(Na+1),4,none⟩ (.string NM):=⟨_,rfl⟩
  have HR9:Hid (Blk W9 R 177 [.string ⟨s9.toArray⟩,v,.int .i64 ((b:Int)+1)]):=by show Blk _ _ _ _;rw[hW9];exact hk9.other (p:=⟨(Na+1),4,none⟩) (by show R≠(Na+1);omega) _
  have HN9:Hid (Blk W9 (Na+1) 56 [.int .i64 (k:Int),.bool false,.string ⟨#[]⟩,.string ⟨#[]⟩,.string NM]):=by show Blk _ _ _ _;rw[hW9];exact hn9.set 4 _
  have HS9:Hid (Blk W9 Na 86 [.string wd,.int .i64 (oo:Int),.bool lit,.bool true,.bool false]):=by show Blk _ _ _ _;rw[hW9];exact (ho9.blk HNs0.out (by omega)).other (p:=⟨(Na+1),4,none⟩) (by show Na≠(Na+1);omega) _
  have HO9:Hid (Onl R w W9):=by show Onl _ _ _;rw[hW9];exact (HO8.out.drew.trans ho9).fresh (by omega) 4 _
  have HND:Hid (nd (k:Int) zR (spanW namesL (dotA s).2)=⟨(k:Int),⟨false,⟨#[]⟩,⟨#[]⟩⟩,NM⟩):=by show nd _ _ _=_;rw[HNM.out];rfl
  generalize spanW namesL (dotA s).2=nmL at*;have HT4:=Lib.hid HT3.out;clear hk9 ho9 hn9 HNn0 HNs0 HO8 HR8 HSP HNM HT HT3;obtain⟨qn,hqn⟩:∃qn,qn=nd (k:Int) zR nmL:=⟨_,rfl⟩
  have hcs9:=HS9.out.cells;rw[hW9] at hcs9;go_wp2_with fail;simp only[←hW9]
  clear hW9 hcs9 hcn hfn hcs
  have hown2:W9.ownsRow (R+1) 56 5 v ns.length (nds ns):=HOWN.out.kept (row:=some R) ⟨HO9.out.os,HO9.out.tape,HO9.out.output,HO9.out.size,fun k hk hne=>HO9.out.block k hk (fun h=>hne (by rw[h]))⟩ (by
   cases hv:v.ownBlock with
   |none=>exact .inl rfl
   |some g=>exact .inr (by intro h;injection h with h;have:=(HOWN.out.lt g hv).1;omega))
  have hvN:v.ownBlock≠some (Na+1):=fun h=>by have:=(HOWN.out.lt (Na+1) h).2;have:=hlt8;omega
  have hvS:v.ownBlock≠some Na:=fun h=>by have:=(HOWN.out.lt Na h).2;have:=hlt8;omega
  have HOW9:=Lib.hid hown2;have HVN:=Lib.hid hvN;have HVS:=Lib.hid hvS;have hRn:(Na+1)≠R:=by omega
  have hRs:Na≠R:=by omega
  have HTL:Hid (∀t:PS,tl3 (k:Int) nmL zR t=if 0<oo then (if Lib.hasPrefix t.1 [41] then some (t.1.drop 1,t.2.1++[qn],t.2.2) else none) else some (t.1,t.2.1++[qn],t.2.2)):=fun t=>by
   unfold tl3;rw[HSH.out,hqn]
  have HQN:Hid (qn=⟨(k:Int),(⟨false,⟨#[]⟩,⟨#[]⟩⟩:Ra),NM⟩):=by show _=_;rw[hqn];exact HND.out
  generalize tl3 (k:Int) nmL zR=TL at*;clear hown2 hvN hvS hqn HND HSH
  go_loopg [101] oo (fun g iv wr=>∃(i:Nat) (s':List UInt8) (ns':List Nd) (b':Nat) (v':Value),i+g=oo∧iv=.int .i64 (i:Int)∧Hid (T=(opsA (parA f) g i s' ns' b').bind TL)∧Hid (Blk wr R 177 [.string ⟨s'.toArray⟩,v',.int .i64 (b':Int)])∧Hid (wr.ownsRow (R+1) 56 5 v' ns'.length (nds ns'))∧Hid (PF R W9 v wr v')∧Hid (s'.length≤1048576∧ns'.length≤b'∧b'≤60∧b+1≤b'))
  case atStart=>exact⟨0,s9,ns,b+1,v,by omega,rfl,HT4.out,HR9.out,HOW9.out,PF.of_onl (Onl.refl _ _),⟨hs9,by omega,by omega,Nat.le_refl _⟩⟩
  case round=>
   obtain⟨i,s',ns',b',v',hi,rfl,hTr,hRr,hor,hpr,hbd⟩:=hrel;have hrN:=hpr.out.blk HN9.out hRn HVN.out;have hrS:=hpr.out.blk HS9.out hRs HVS.out;by_cases hlt:i<oo
   ·obtain⟨m,rfl⟩:∃m,gk=m+1:=⟨gk-1,by omega⟩
    have hi3:i<3:=by omega
    obtain⟨Z,hZ⟩:∃Z:ByteArray,Z=⟨(sepW i).toArray⟩:=⟨_,rfl⟩
    have hz1:(wr.alloc (.cells #[.string ⟨#[40]⟩,.string ⟨#[44,32]⟩,.string ⟨#[44,32]⟩] 9)).cell? ⟨wr.heap.size,i,none⟩=some (.string Z):=by
     have h:=(Blk.new wr 9 #[.string ⟨#[40]⟩,.string ⟨#[44,32]⟩,.string ⟨#[44,32]⟩]).cells i;rw[h,hZ];rcases (by omega:i=0∨i=1∨i=2) with rfl|rfl|rfl<;>rfl
    have HZ:=Lib.hid hZ;clear hZ;have HHR:=Lib.hid hR.lt;go_wp2_with fail;cases hpx:Lib.hasPrefix s' (sepW i)
    ·have hTn:T=none:=by rw[hTr.out,opsA,if_neg (by rw[hpx];simp)];rfl
     have HWn:Hid (Calls Tryz.prog 139 #[.pointer (some ⟨R,0,none⟩),.string Z] (wr.alloc (.cells #[.string ⟨#[40]⟩,.string ⟨#[44,32]⟩,.string ⟨#[44,32]⟩] 9)) fun e w'=>e=.panicked noText∧w'=wr.alloc (.cells #[.string ⟨#[40]⟩,.string ⟨#[44,32]⟩,.string ⟨#[44,32]⟩] 9)):=by
      show Calls _ _ _ _ _;rw[HZ.out];exact wantL_no s' (sepW i) R 177 [v',.int .i64 (b':Int)] _ (hRr.out.alloc _) hpx
     have HBp:Hid (Below R w (wr.alloc (.cells #[.string ⟨#[40]⟩,.string ⟨#[44,32]⟩,.string ⟨#[44,32]⟩] 9))):=(((PF.of_onl HO9.out).trans hpr.out).alloc _).below hown (Nat.le_refl _) (Nat.le_of_lt HHR.out);subst hTn;refine HWn.out.mono ?_;rintro e w10 ⟨rfl,rfl⟩;clear hpx hz1 hrN hrS;go_wp2;exact⟨rfl,rfl,HBp.out⟩
    ·have HWy:Hid (Calls Tryz.prog 139 #[.pointer (some ⟨R,0,none⟩),.string Z] (wr.alloc (.cells #[.string ⟨#[40]⟩,.string ⟨#[44,32]⟩,.string ⟨#[44,32]⟩] 9)) fun e w'=>e=.returned (.tuple #[])∧Blk w' R 177 [.string ⟨(s'.drop (sepW i).length).toArray⟩,v',.int .i64 (b':Int)]∧Onl R (wr.alloc (.cells #[.string ⟨#[40]⟩,.string ⟨#[44,32]⟩,.string ⟨#[44,32]⟩] 9)) w'):=by
      show Calls _ _ _ _ _;rw[HZ.out];exact wantL_yes s' (sepW i) R 177 [v',.int .i64 (b':Int)] _ (hRr.out.alloc _) hpx
     refine HWy.out.mono ?_;rintro e w10 ⟨rfl,hk10,ho10⟩;have hp9:PF R W9 v w10 v':=(hpr.out.alloc _).trans (PF.of_onl ho10);have hp10:PF R w v w10 v':=(PF.of_onl HO9.out).trans hp9;have hor10:w10.ownsRow (R+1) 56 5 v' ns'.length (nds ns'):=own_onl (hor.out.alloc _) ho10;have hb10:Below w0.heap.size w0 w10:=hw0.trans (hp10.below hown hR0 hw0.size);have hs10:(s'.drop (sepW i).length).length≤1048576:=by have:=drop_len s' (sepW i).length;have:=hbd.out.1;omega
     have HC:=Lib.hid (HIH.out (s'.drop (sepW i).length) ns' b' v' w10 hb10 hk10 hor10 hs10 hbd.out.2.1 hbd.out.2.2.1 (by have:=hbd.out.2.2.2;omega));have HP9:=Lib.hid hp9;have HBR:Hid (Below R w w10):=hp10.below hown (Nat.le_refl _) (Nat.le_of_lt HHR.out);clear hk10 ho10 hp9 hp10 hor10 hb10 hs10 hz1 hrN hrS HWy;cases hpa:parA f (s'.drop (sepW i).length) ns' b' with
     |none=>
      have hTn:T=none:=by rw[hTr.out,opsA,if_pos hpx,hpa];rfl
      rw[hpa] at HC;subst hTn;clear hpx hpa;go_wp2_with fail;refine HC.out.mono ?_;rintro e w11 ⟨rfl,hb11⟩;have HBp:Hid (Below R w w11):=HBR.out.trans hb11;clear hb11;go_wp2;exact⟨rfl,rfl,HBp.out⟩
     |some q=>
      obtain⟨s2,ns2,b2⟩:=q;have pb:=(parA_pb f _ _ _ _ hpa).1;have pb1:=pb.rest;have pb2:=pb.begun;have pb3:=pb.most;have pb4:=pb.nodes;have hdl:=drop_len s' (sepW i).length;simp only at pb1 pb2 pb3 pb4
      have HT6:Hid (T=(opsA (parA f) m (i+1) s2 ns2 b2).bind TL):=by
       show _=_;rw[hTr.out,opsA,if_pos hpx,hpa];rfl
      have HBD:Hid (s2.length≤1048576∧ns2.length≤b2∧b2≤60∧b+1≤b2):=by
       have h:=hbd.out;exact⟨by omega,by omega,pb3,by omega⟩
      rw[hpa] at HC;clear hpx hpa pb pb1 pb2 pb3 pb4 hdl;go_wp2_with fail;refine HC.out.mono ?_;rintro e w11 ⟨rfl,v2,hk11,hor11,hpf11⟩;have HK11:=Lib.hid hk11;have HOR11:=Lib.hid hor11;have HPF11:Hid (PF R W9 v w11 v2):=HP9.out.trans hpf11;clear hk11 hor11 hpf11;go_wp2
      go_roundg m
      case measure=>omega
      case rel=>exact⟨i+1,s2,ns2,b2,v2,by omega,by go_num,HT6,HK11,HOR11,HPF11,HBD⟩
   ·obtain rfl:i=oo:=by omega
    obtain rfl:gk=0:=by omega
    have hT5:T=TL (s',ns',b'):=by rw[hTr.out];rfl
    rw[HTL.out] at hT5;have HT5:=Lib.hid hT5;have hcs:=hrS.cells;have hns':ns'.length≤60:=by have:=hbd.out;omega
    have hqn2:=HQN.out;subst hqn2;clear hT5 HIH;by_cases ho:i=0
    ·subst ho;have hT6:=HT5.out;rw[if_neg (by omega)] at hT6;clear HT5;subst hT6;have HPX:=Lib.hid (((PF.of_onl HO9.out).trans hpr.out).drew);have hkR:=hRr.out;have hkN:=hrN;have hown2:=hor.out;clear hrN hrS hRr hor;go_wp2_with fail;clear hcs;have hcR:=hkR.drew.cells;have hfR:=hkR.drew.froz;have hcN:=hkN.drew.cells;have hcR2:=(hkR.alloc (.cells #[.int .i64 (k:Int),.bool false,.string ⟨#[]⟩,.string ⟨#[]⟩,.string NM] 56)).cells;have hcN2:=(hkN.alloc (.cells #[.int .i64 (k:Int),.bool false,.string ⟨#[]⟩,.string ⟨#[]⟩,.string NM] 56)).cells;have HKR:=Lib.hid hkR;have hszW:R+1≤wr.heap.size:=hkR.lt;have HOWN2:=Lib.hid hown2;clear hkR hkN hown2
     go_region_law ((refine step_push_at wr.drew #[.int .i64 (k:Int),.bool false,.string ⟨#[]⟩,.string ⟨#[]⟩,.string NM] (by rfl) _ _ 43 (by rfl) (R+1) 56 (.agg #[.int .i64 0,.bool false,.string ⟨#[]⟩,.string ⟨#[]⟩,.string ⟨#[]⟩]) 5 64 1 Tryz.underlying43 info_node rfl (by decide) v' ns'.length (nds ns') (by rfl) HOWN2.out (by rfl) (by rfl) (by simp[Value.oneCell']) (by unfold maxLen;omega) (by omega) hszW ?_;intro v5 w5 hown5 hg5 hv5;obtain⟨g5,cap5,rfl,hgR⟩:=own_form hown5 (by omega);have hk5:=HKR.out.of_block (hg5.block R HKR.out.lt (fun h=>by have:=(HOWN2.out.lt R h.symm).1;omega));have HK5:=Lib.hid hk5;have hc5:=hk5.cells;have hf5:=hk5.froz;have HOWN5:=Lib.hid hown5;have HG5:=Lib.hid hg5;have HV5:=Lib.hid hv5;clear hown5 hg5 hv5 hk5))
     all_goals
      go_wp2
      first|go_end0|refine bodyPost_ret (results_none rfl _ _ _) rfl ?_
      refine⟨rfl,_,HK5.out.set 1 _,?_,HPX.out.trans (PF.push HG5.out HV5.out 1 _)⟩;rw[List.length_append,nds_snoc];exact own_set HOWN5.out 1 _
    ·have hop:0<i:=by omega
     have HHR:=Lib.hid hR.lt;cases hpx2:Lib.hasPrefix s' [41]
     ·have hT6:=HT5.out;rw[if_pos hop,hpx2,if_neg (by simp)] at hT6;have HWn:=Lib.hid (wantL_no s' [41] R 177 [v',.int .i64 (b':Int)] wr hRr.out hpx2);have HBp:Hid (Below R w wr):=((PF.of_onl HO9.out).trans hpr.out).below hown (Nat.le_refl _) (Nat.le_of_lt HHR.out);clear HT5 hpx2;subst hT6;go_wp2_with fail;refine HWn.out.mono ?_;rintro e w13 ⟨rfl,rfl⟩;go_wp2;exact⟨rfl,rfl,HBp.out⟩
     ·have hT6:=HT5.out;rw[if_pos hop,hpx2,if_pos rfl] at hT6;obtain⟨Y,hY⟩:∃Y,s'.drop 1=Y:=⟨_,rfl⟩
      have HWy:Hid (Calls Tryz.prog 139 #[.pointer (some ⟨R,0,none⟩),.string ⟨#[41]⟩] wr fun e w'=>e=.returned (.tuple #[])∧Blk w' R 177 [.string ⟨Y.toArray⟩,v',.int .i64 (b':Int)]∧Onl R wr w'):=by
       show Calls _ _ _ _ _;rw[←hY];exact wantL_yes s' [41] R 177 [v',.int .i64 (b':Int)] wr hRr.out hpx2
      rw[hY] at hT6;clear hY;have HRN:=Lib.hid hrN;clear HT5 hpx2 hrN hrS;subst hT6;go_wp2_with fail;refine HWy.out.mono ?_;rintro e w13 ⟨rfl,hkR,ho13⟩;have hkN:=ho13.blk HRN.out hRn;have hown2:=own_onl hor.out ho13;have HPX:=Lib.hid (((PF.of_onl HO9.out).trans (hpr.out.trans (PF.of_onl ho13))).drew);clear hRr hor hcs ho13;go_wp2_with fail;have hcR:=hkR.drew.cells;have hfR:=hkR.drew.froz;have hcN:=hkN.drew.cells;have hcR2:=(hkR.alloc (.cells #[.int .i64 (k:Int),.bool false,.string ⟨#[]⟩,.string ⟨#[]⟩,.string NM] 56)).cells;have hcN2:=(hkN.alloc (.cells #[.int .i64 (k:Int),.bool false,.string ⟨#[]⟩,.string ⟨#[]⟩,.string NM] 56)).cells;have HKR:=Lib.hid hkR;have hszW:R+1≤w13.heap.size:=hkR.lt;have HOWN2:=Lib.hid hown2;clear hkR hkN hown2
      go_region_law ((refine step_push_at w13.drew #[.int .i64 (k:Int),.bool false,.string ⟨#[]⟩,.string ⟨#[]⟩,.string NM] (by rfl) _ _ 43 (by rfl) (R+1) 56 (.agg #[.int .i64 0,.bool false,.string ⟨#[]⟩,.string ⟨#[]⟩,.string ⟨#[]⟩]) 5 64 1 Tryz.underlying43 info_node rfl (by decide) v' ns'.length (nds ns') (by rfl) HOWN2.out (by rfl) (by rfl) (by simp[Value.oneCell']) (by unfold maxLen;omega) (by omega) hszW ?_;intro v5 w5 hown5 hg5 hv5;obtain⟨g5,cap5,rfl,hgR⟩:=own_form hown5 (by omega);have hk5:=HKR.out.of_block (hg5.block R HKR.out.lt (fun h=>by have:=(HOWN2.out.lt R h.symm).1;omega));have HK5:=Lib.hid hk5;have hc5:=hk5.cells;have hf5:=hk5.froz;have HOWN5:=Lib.hid hown5;have HG5:=Lib.hid hg5;have HV5:=Lib.hid hv5;clear hown5 hg5 hv5 hk5))
      all_goals
       go_wp2
       first|go_end0|refine bodyPost_ret (results_none rfl _ _ _) rfl ?_
       refine⟨rfl,_,HK5.out.set 1 _,?_,HPX.out.trans (PF.push HG5.out HV5.out 1 _)⟩;rw[List.length_append,nds_snoc];exact own_set HOWN5.out 1 _
end Go.Proofs.YtfajelpcfnfjkaaGreatDoor
