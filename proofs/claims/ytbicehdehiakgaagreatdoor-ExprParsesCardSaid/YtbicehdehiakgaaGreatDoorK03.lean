/- A part of the proof: Hb. -/
import Derived.Test.YtbicehdehiakgaaGreatDoorG33
import Derived.Test.YtbicehdehiakgaaGreatDoorK01
import Derived.Test.YtbicehdehiakgaaGreatDoorK02
set_option linter.unusedVariables false
set_option linter.unusedSimpArgs false
namespace Go.Proofs.YtbicehdehiakgaaGreatDoor
open Go.RowKit
theorem gExpr_any (R:Nat) (f:Nat):∀(s:List UInt8) (ns:List Nd) (b:Nat) (v:Value) (w:World),GS R w v s ns b false w v→s.length≤1000000→b≤60→61≤b+f→ns.length≤b→Calls Tryz.prog 54 #[.pointer (some ⟨R,0,none⟩)] w (GPost (parA f s ns b) R v w):=by
 induction f with
 |zero=>intro s ns b v w _ _ h1 h2;omega
 |succ f ih=>
  intro s ns b v w h0 hs hb hbf hns;by_cases ho:b=60∨s=[]
  ·rw[parA_over _ _ _ _ (by rcases ho with h|h;exact .inl (by omega);exact .inr h)];exact gx_over R s ns b v w h0 hs hb ho
  ·have hb9:b≤59:=by
    have:b≠60:=fun h=>ho (.inl h)
    omega
   cases s with
   |nil=>exact absurd (.inr rfl) ho
   |cons c l=>
    cases h36:Lib.hasPrefix (c::l) [36]
    ·by_cases hc:c.toNat<97
     ·exact gx_num f R c l ns b v w h0 hs hb9 (by omega) h36 hc
     ·by_cases hy:spanW lettersL (c::l)=yesL
      ·exact gx_yes f R c l ns b v w h0 hs hb9 (by omega) (by omega) hy
      ·by_cases hn:spanW lettersL (c::l)=noL
       ·exact gx_no f R c l ns b v w h0 hs hb9 (by omega) (by omega) hn
       ·exact gx_op f R c l ns b v w h0 hs hb9 hns (by omega) hy hn ih (by omega)
    ·exact gx_cash f R (c::l) ns b v w h0 hs hb9 (by omega) h36
theorem parseE_bad (s:List UInt8) (h:parseA s=none):parseE s=([],11):=by unfold parseE;rw[h]
theorem parseA_bad (s:List UInt8) (h:∀ns b,parA 61 s [] 0=some ([],ns,b)→checkE ns≠0∨textE ns≠s):parseA s=none:=by
 cases hp:parseA s with
 |none=>rfl
 |some e=>
  obtain⟨h1,h2⟩:=(parseA_iff s e).1 hp;have h3:=parA_text 61 e (checkE_ex h1) [] [] 0 (by intro c hc;cases hc) (by have:=((checkE_iff e).1 h1).1;omega);rw[List.append_nil,List.nil_append,h2] at h3;rcases h _ _ h3 with h|h
  ·exact absurd h1 h
  ·exact absurd h2 h
set_option maxRecDepth 100000 in
set_option maxHeartbeats 3200000 in
theorem gParse_any (s:List UInt8) (w:World) (hs:s.length≤1000000):Calls Tryz.prog 21 #[.string ⟨s.toArray⟩] w (RetEs (parseE s) w):=by
 obtain⟨W,hW⟩:∃W,W=w.alloc (.cells #[.string ⟨s.toArray⟩,.slice none 0 0,.int .i64 0,.bool false] 87):=⟨_,rfl⟩
 obtain⟨R,hR⟩:∃R,R=w.heap.size:=⟨_,rfl⟩
 have hk:Blk W R 87 [.string ⟨s.toArray⟩,.slice none 0 0,.int .i64 0,.bool false]:=by rw[hW,hR];exact Blk.new w _ _
 have hg:GS R W (.slice none 0 0) s [] ((0:Nat):Int) false W (.slice none 0 0):=⟨hk,World.ownsRow_nil _ _ _ _,PF.of_onl (Onl.refl _ _)⟩
 have HBW:Hid (Below R w W):=by show Below _ _ _;rw[hW,hR];exact (Below.refl _ _).alloc (Nat.le_refl _) _
 have HRS:=Lib.hid hR;have HE:=Lib.hid (gExpr_any R 61 s [] 0 _ W hg hs (by omega) (by omega) (Nat.le_refl _));have HF:=Lib.hid (fun q h=>(parA_fine 61 s [] 0 q h (by omega) (fun n h=>by cases h)).2);have HRW:=Lib.hid (Nat.le_of_lt hk.lt);have HPB:=Lib.hid (parseA_bad s);clear hk hg;go_enter Tryz.func21,Tryz.ntmps21;go_wp2_with fail;simp only[←hW,←hR]
 clear hW hR;refine HE.out.mono ?_;cases hp:parA 61 s [] 0 with
 |none=>
  rintro e w1 ⟨rfl,a1,c1,d1,hk1,hb1⟩;have HP:Hid (parseE s=([],11)):=parseE_bad s (HPB.out (fun ns b h=>by rw[hp] at h;cases h));have HB:Hid (Below w.heap.size w w1):=by show Below _ _ _;rw[←HRS.out];exact HBW.out.trans hb1
  have hc:=hk1.cells;clear hk1 hb1 hp HF HPB HE;go_wp2;go_ret2;exact RetEs.bad HP.out HB.out
 |some q=>
  obtain⟨r,ns,b⟩:=q;rintro e w1 ⟨rfl,v1,hg1⟩;simp only at hg1;have HB:Hid (Below R w w1):=HBW.out.trans (hg1.pf.below (World.ownsRow_nil W (R+1) 33 5) (Nat.le_refl _) HRW.out);have hc:=hg1.blk.cells;cases r with
  |cons c l=>
   have HP:Hid (parseE s=([],11)):=parseE_bad s (HPB.out (fun ns b h=>by rw[hp] at h;cases h));have hl:0<((⟨(c::l).toArray⟩:ByteArray).size:Int):=by show 0<((l.length+1:Nat):Int);omega
   generalize (⟨(c::l).toArray⟩:ByteArray)=sr at*;clear hg1 hp HF HPB HE;go_wp2;go_ret2;exact RetEs.bad HP.out (by rw[←HRS.out];exact HB.out)
  |nil=>
   obtain⟨A5,cap5,rfl,hn5,hm5,hr5,_⟩:=own_rd hg1.own;have hEs:Es w1 ns A5 ns.length cap5:=⟨rfl,hn5,hm5,hr5⟩
   have HT:=Lib.hid (gText_any ns A5 ns.length cap5 w1 hEs (HF.out _ hp));have HES:=Lib.hid hEs;have HK:=Lib.hid hg1.blk
   have HPN:Hid (parseA s=none∨(checkE ns=0∧textE ns=s)):=by
    by_cases h:checkE ns=0∧textE ns=s
    ·exact .inr h
    ·refine .inl (HPB.out (fun ns' b' h'=>?_));rw[hp] at h';obtain rfl:ns=ns':=by injection h' with h';injection h' with _ h';injection h' with h' _
     by_cases hz:checkE ns=0
     ·exact .inr (fun ht=>h ⟨hz,ht⟩)
     ·exact .inl hz
   clear hg1 hp HF HPB HE hEs hn5 hm5 hr5;unfold RetText at HT;go_wp2_with fail;refine HT.out.mono ?_;rintro e w2 ⟨rfl,hb2⟩;have HB2:Hid (Below w.heap.size w w2):=by show Below _ _ _;rw[←HRS.out];exact HB.out.trans (hb2.mono (Nat.le_of_lt HK.out.lt))
   have HES2:=Lib.hid (HES.out.below hb2);have hc:=(HK.out.below hb2 HK.out.lt).cells;clear hb2;by_cases hz:checkE ns=0
   ·rw[hz,if_pos rfl];by_cases ht:textE ns=s
    ·have HP:Hid (parseE s=(ns,0)):=by show _=_;unfold parseE;rw[(parseA_iff s ns).2 ⟨hz,ht⟩]
     have hts:(⟨(textE ns).toArray⟩:ByteArray)=⟨s.toArray⟩:=by rw[ht]
     rw[hts];generalize (⟨s.toArray⟩:ByteArray)=SS at*;clear hz ht hts HPN;go_wp2;go_ret2;refine⟨A5,ns.length,cap5,?_,?_,HB2.out⟩
     ·rw[HP.out];rfl
     ·rw[HP.out];exact HES2.out
    ·have HP:Hid (parseE s=([],11)):=parseE_bad s (by rcases HPN.out with h|h;exact h;exact absurd h.2 ht)
     have h1:¬((⟨(textE ns).toArray⟩:ByteArray).toList=(⟨s.toArray⟩:ByteArray).toList):=by
      rw[ByteArray.toList_eq,ByteArray.toList_eq];exact ht
     have h2:((⟨(textE ns).toArray⟩:ByteArray).toList==(⟨s.toArray⟩:ByteArray).toList)=false:=beq_eq_false_iff_ne.2 h1;generalize (⟨s.toArray⟩:ByteArray)=SS at*;generalize (⟨(textE ns).toArray⟩:ByteArray)=TT at*;clear hz ht HPN HES2;go_wp2;go_ret2;exact RetEs.bad HP.out HB2.out
   ·have HP:Hid (parseE s=([],11)):=parseE_bad s (by rcases HPN.out with h|h;exact h;exact absurd h.1 hz);rw[if_neg hz];have ez:(checkE ns !=0)=true:=by simp[hz]
    have ez2:(checkE ns==0)=false:=by simp[hz]
    generalize checkE ns=zz at*;clear hz HPN HES2;go_wp2;go_ret2;exact RetEs.bad HP.out HB2.out
end Go.Proofs.YtbicehdehiakgaaGreatDoor
