/- A part of the proof: Uh. -/
import Derived.Test.YtfajelpcfnfjkaaGreatDoorA38
import Derived.Test.YtfajelpcfnfjkaaGreatDoorA44
set_option linter.unusedVariables false
set_option linter.unusedSimpArgs false
namespace Go.Proofs.YtfajelpcfnfjkaaGreatDoor
open Go.RowKit
def textR0 (l:Lw):Value:=.tuple #[.string ⟨(if checkL l=0 then textL l else []).toArray⟩,.int .i64 (checkL l)]
theorem WS.str {B b:Nat} {w0 w:World} {bs:List UInt8} (h:WS B b w0 w bs) (h0:bs≠[]):Calls Tryz.prog 19 #[.pointer (some ⟨b,0,none⟩)] w fun e w'=>e=.returned (.string ⟨bs.toArray⟩)∧Below B w0 w':=by
 rcases h.ib with k|k<;>exact (strW_any B b _ bs w k h0).mono fun e w' r=>⟨r.1,h.bl.trans r.2⟩
theorem WS.fresh (w:World):WS w.heap.size w.heap.size w (w.alloc (.cells #[.pointer none,.slice none 0 0] 68)) []:=by
 refine⟨.inl ⟨Nat.le_refl _,.slice none 0 0,?_,World.ownsRow_nil _ _ _ _,fun e=>by cases e⟩,(Below.refl _ _).alloc (Nat.le_refl _) _,Nat.le_refl _⟩;exact Blk.new w _ _
set_option maxRecDepth 100000 in
set_option maxHeartbeats 1600000 in
theorem uText_any (l:Lw) (ss:List (Sc × Hd)) (ps:List (Pv × Hd)) (f s p:Hd) (w:World) (hL:LaidK w) (h:LawAt w l ss ps f s p) (hf:FineL l) (hT:checkL l=0→FineT l∧textL l≠[]∧(textL l).length≤1000000000000):
  Calls Tryz.prog 8 #[lawV f s p] w fun e w'=>e=.returned (textR0 l)∧Below w.heap.size w w':=by
 have HC:=Lib.hid (fun W hb=>uCheck_any l ss ps f s p W (hL.below hb) (h.below hb) hf)
 have HW:Hid (checkL l=0→∀W,Below w.heap.size w W→Calls Tryz.prog 18 #[.pointer (some ⟨W.heap.size,0,none⟩),lawV f s p] (W.alloc (.cells #[.pointer none,.slice none 0 0] 68)) fun e w'=>e=.returned (.tuple #[])∧WS W.heap.size W.heap.size W w' (textL l)):=fun hz W hb=>by
  have k:=uWLaw_any l ss ps f s p W.heap.size W.heap.size W _ [] (WS.fresh W) rfl (hL.below hb) (h.below hb) hf (hT hz).1 (by rw[List.length_nil];have:=(hT hz).2.2;omega);rw[List.nil_append] at k;exact k
 have HN:Hid (checkL l=0→textL l≠[]):=fun hz=>(hT hz).2.1
 unfold textR0;obtain⟨z,hz⟩:∃z,z=checkL l:=⟨_,rfl⟩
 rw[←hz] at HC HW HN⊢;obtain⟨fa,fn,fc⟩:=f;obtain⟨sa,sn,sc⟩:=s;obtain⟨pa,pn,pc⟩:=p;unfold lawV at HC HW⊢;simp only at HC HW⊢;clear hL h hf hT hz;obtain⟨W,hW⟩:∃W,W=w.alloc (.cells #[.slice fa fn fc,.slice sa sn sc,.slice pa pn pc] 29):=⟨_,rfl⟩
 obtain⟨Q,hQ⟩:∃Q,Q=w.heap.size:=⟨_,rfl⟩
 have HKL:Hid (Blk W Q 29 [.slice fa fn fc,.slice sa sn sc,.slice pa pn pc]):=by show Blk _ _ _ _;rw[hW,hQ];exact Blk.new w _ _
 have HBA:Hid (Below w.heap.size w W):=by show Below _ _ _;rw[hW];exact (Below.refl _ _).alloc (Nat.le_refl _) _
 have hkc:=HKL.out.cells;by_cases hz0:z=0
 ·subst hz0;rw[if_pos rfl];have HWW:=Lib.hid (HW.out rfl);have HNN:=Lib.hid (HN.out rfl);clear HW HN;generalize textL l=tl at*;go_enter Tryz.func8,Tryz.ntmps8
  go_upto_region 1 with fail
  simp only[←hW,←hQ]
  clear hW hQ;go_wp2_with fail;refine (HC.out _ HBA.out).mono ?_;rintro e w1 ⟨rfl,hb1⟩;have HB1:=Lib.hid (bstep HBA.out hb1);have HK1:Hid (Blk w1 Q 29 [.slice fa fn fc,.slice sa sn sc,.slice pa pn pc]):=HKL.out.below hb1 HKL.out.lt;have HA1:Hid (Below w1.heap.size w1 (w1.alloc (.cells #[.pointer none,.slice none 0 0] 68))):=(Below.refl _ _).alloc (Nat.le_refl _) _;have hkd:=(HK1.out.below HA1.out HK1.out.lt).cells;clear hb1 hkc;go_wp2_with fail;refine (HWW.out _ HB1.out).mono ?_;rintro e w2 ⟨rfl,hws⟩;have HST:=Lib.hid (hws.str HNN.out);clear hws hkd;go_wp2_with fail;refine HST.out.mono ?_;rintro e w3 ⟨rfl,hb3⟩;have HB3:=Lib.hid (bstep HB1.out hb3);clear hb3;go_wp2;go_ret2;exact⟨rfl,HB3.out⟩
 ·rw[if_neg hz0];have e1:(z !=0)=true:=by simp[hz0]
  clear HW HN hz0;go_enter Tryz.func8,Tryz.ntmps8
  go_upto_region 1 with fail
  simp only[←hW,←hQ]
  clear hW hQ;go_wp2_with fail;refine (HC.out _ HBA.out).mono ?_;rintro e w1 ⟨rfl,hb1⟩;have HB1:=Lib.hid (bstep HBA.out hb1);clear hb1 hkc;go_wp2;go_ret2;exact⟨rfl,HB1.out⟩
end Go.Proofs.YtfajelpcfnfjkaaGreatDoor
