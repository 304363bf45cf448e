/- A part of the proof: Z9. -/
import Derived.Test.YtimokmplkpbmdaaGreatDoorM04
set_option linter.all false
set_option maxRecDepth 100000
set_option maxHeartbeats 0
namespace Go.Proofs.YtimokmplkpbmdaaGreatDoor
open Go.RowKit
theorem MdG.text {l:Lw} (h:MdG l):(textL l).length<=1000000:=by
 have h1:=text_len h.chk;obtain⟨a,b,c⟩:=h.n.len;have h2:(lnsL l).length<=11:=by unfold lnsL;simp only[List.length_append,List.length_map];omega
 have h3:=Nat.mul_le_mul_right 50001 h2;omega
theorem texts_core (xs:List (List Int × Hd)) (hh:Hd) (w:World) (hK:LaidK w) (hr:RowAt w rowV xs hh) (hq:∀r∈xs,IR w w.heap.size r)
  (hY:∀W,Below w.heap.size w W->Calls Tryz.prog 6 #[] W fun e w'=>e=.returned (.bool true)/\Below W.heap.size W w'):
  Calls Tryz.prog 4 #[.slice hh.a hh.n hh.c] w fun e w'=>e=.returned (.bool true)/\Below w.heap.size w w':=by
 have HKK:Hid (∀W,Below w.heap.size w W->LaidK W):=fun W hb=>hK.below hb
 go_enter Tryz.func4,Tryz.ntmps4;go_wp2_with fail;refine (hY w (Below.refl _ _)).mono ?_;rintro e w1 ⟨rfl,hb1⟩;go_wp2_with fail;refine (wmade11_any xs hh w1 (hr.below hb1) (fun r hm=>((hq r hm).below hb1).lower hb1.size)).mono ?_;rintro e w2 ⟨l,ss,ps,f,s,p,rfl,hmd,hlo,hb2⟩;have HMD:=zH hmd;have HSA:=zH (fun ss2 ps2 f2 s2 p2 W (hb:Below w2.heap.size w2 W)=>uSame_any l l ss ss2 ps ps2 f f2 s s2 p p2 W (hlo.at.below hb));have HXA:=zH (fun ss2 ps2 f2 s2 p2 W (hb:Below w2.heap.size w2 W)=>xSame_any l l ss ss2 ps ps2 f f2 s s2 p p2 W (hlo.at.below hb));rw[decide_eq_true (rfl:l=l)] at HSA HXA;have HT:=zH (fun W (hw:Below w.heap.size w W) (hb:Below w2.heap.size w2 W)=>uText_any l ss ps f s p W (HKK.out W hw) (hlo.at.below hb) hmd.fine (text_fit (.inr hmd.ne)));have HP:=zH (fun W (hw:Below w.heap.size w W)=>parse_own (HKK.out W hw) hmd.fine (.inr hmd.ne) hmd.chk hmd.text);unfold textR0 at HT;rw[hmd.chk,if_pos rfl] at HT;generalize (⟨(textL l).toArray⟩:ByteArray)=t at*;have hbw:=bstep hb1 hb2;obtain⟨fa,fn,fc⟩:=f;obtain⟨sa,sn,sc⟩:=s;obtain⟨pa,pn,pc⟩:=p;unfold lawV at*;clear hmd hlo hr hq hY hK hb1 hb2
 go_upto_region 3 with fail
 generalize hX:w2.alloc _=W2;obtain⟨k1,hb3⟩:=zA hX;have hc:=k1.cells;clear hX;go_wp2_with fail;refine (HT.out W2 (bstep hbw hb3) hb3).mono ?_;rintro e w3 ⟨rfl,hb4⟩;clear hc;go_wp2_with fail;refine (HP.out w3 (bstep (bstep hbw hb3) hb4)).mono ?_;rintro e w4 ⟨⟨fa2,fn2,fc2⟩,⟨sa2,sn2,sc2⟩,⟨pa2,pn2,pc2⟩,ss2,ps2,rfl,hat,hb5⟩;unfold lawV
 go_upto_region 5 with fail
 generalize hX:w4.alloc _=W4;obtain⟨k2,hb6⟩:=zA hX;have hc:=fun Y (hY:Below W4.heap.size W4 Y)=>And.intro (((((k1.below hb4 k1.lt).below hb5 (Nat.lt_of_lt_of_le k1.lt hb4.size)).below hb6 (Nat.lt_of_lt_of_le k1.lt (bstep hb4 hb5).size)).below hY (Nat.lt_of_lt_of_le k1.lt (bstep (bstep hb4 hb5) hb6).size)).cells) ((k2.below hY k2.lt).cells)
 have hb24:=bstep (bstep (bstep hb3 hb4) hb5) hb6;have hat4:=hat.below hb6;clear hX k1 k2 HT HP hat hb3 hb4 hb5 hb6;have hc4:=hc W4 (Below.refl _ _);go_wp2_with fail;refine (HSA.out _ _ _ _ _ W4 hb24 hat4).mono ?_;rintro e w5 ⟨rfl,hb7⟩;have hc5:=hc w5 hb7;clear hc4 HSA hc;go_wp2_with fail;refine (HXA.out _ _ _ _ _ w5 (bstep hb24 hb7) (hat4.below hb7)).mono ?_;rintro e w6 ⟨rfl,hb8⟩;have hend:=bstep (bstep hbw hb24) (bstep hb7 hb8);clear hc5 HXA hat4;go_wp2;go_ret;exact⟨rfl,hend⟩
end Go.Proofs.YtimokmplkpbmdaaGreatDoor
