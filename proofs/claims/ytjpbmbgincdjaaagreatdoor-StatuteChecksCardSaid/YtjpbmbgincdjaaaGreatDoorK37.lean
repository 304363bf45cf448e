/- Part: Ur. -/
import Derived.RangeFuncBound
import Derived.Shelf.RegionOpen
import Derived.OwnWalkIn
import Derived.LoopNIn
import Derived.LoopIn
import Derived.Test.YtjpbmbgincdjaaaGreatDoorK03
import Derived.Test.YtjpbmbgincdjaaaGreatDoorK36
set_option linter.all false
set_option maxRecDepth 100000
set_option maxHeartbeats 0
namespace Go.Proofs.YtjpbmbgincdjaaaGreatDoor
open Go.RowKit Go.Shelf List Tryz
attribute [local go_sem] Oper.semAt_some
def kD:ByteArray:=⟨#[10]⟩
def gW (s:ByteArray):Nat:=Lib.countB s kD
def gY (s:ByteArray):List ByteArray:=Lib.splitB kD 0 (gW s) s
theorem Ej (s:ByteArray) (h:Lib.indexB s kD= -1):gY s=[s]:=Lib.splitB_miss _ _ _ _ h
theorem TR (s:ByteArray) (i:Nat) (h:Lib.indexB s kD=i):gW s=gW (s.extract (i+1) s.size)+1:=by
 have:=Lib.countB_hit s kD i (by decide) h;unfold gW;rw[this,Nat.add_comm];rfl
theorem Ih (s:ByteArray) (i:Nat) (h:Lib.indexB s kD=i):gY s=s.extract 0 i::gY (s.extract (i+1) s.size):=by
 unfold gY;rw[TR s i h,Lib.splitB_hit _ _ _ _ i h];rfl
theorem vH:∀(n:Nat) (s:ByteArray),s.size<=n->(gY s).length=gW s+1
 |n,s,hn=>by
  rcases Lib.index_spec s.data.toList kD.data.toList with⟨h,_⟩|⟨i,h,hi,ho,_⟩
  ·have h':Lib.indexB s kD= -1:=h;rw[Ej s h'];show 1=gW s+1;unfold gW;rw[Lib.countB_miss s kD h']
  ·have h':Lib.indexB s kD=i:=h;have hr:=Lib.index_room s.data.toList kD.data.toList (by rw[h];omega);rw[h] at hr;have hr':(i:Int)+1<=s.size:=hr;rw[Ih s i h',TR s i h',length_cons];cases n with
   |zero=>omega
   |succ n=>rw[vH n _ (by rw[ByteArray.size_extract];omega)]
def Jc (w:World) (b:Nat):Nat:=match w.cell? ⟨b,0,none⟩ with
 |some (.string s)=>s.size
 |_=>0
theorem QU (b:Nat) (W:World) (u:Value):wP b W (W.setCell ⟨b,0,none⟩ u):=⟨rfl,rfl,rfl,by simp[World.setCell],fun k o h1 h2=>(Below.heap_setCell W ⟨b,0,none⟩ u k h2).trans h1,fun t cs h1=>⟨_,h1.set 0 u⟩⟩
theorem Wp {K:Nat->Prop} (b:Nat) (W:World) (u:Value) (h:¬K b):Kb K W (W.setCell ⟨b,0,none⟩ u):=⟨by simp[World.setCell],fun k o h1 h2=>(Below.heap_setCell W ⟨b,0,none⟩ u k (by show k≠b;rintro rfl;exact h h2)).trans h1⟩
theorem Px (s:ByteArray) (w:World):Calls prog 33 #[.string s,.string kD] w fun e w'=>e=.returned (.func (.func 137) #[] #[.pointer (some ⟨w.heap.size+1,0,none⟩),.pointer (some ⟨w.heap.size,0,none⟩),.pointer (some ⟨w.heap.size+2,0,none⟩)])/\
  w'=((w.alloc (.cells #[.string s] 9)).alloc (.cells #[.string kD] 9)).alloc (.cells #[.int .i64 0] 3):=by
 go_enter func33,ntmps33;go_wp2;go_ret;exact⟨rfl,rfl⟩
theorem QV (n:Nat) (hn:1<=n) (b1 b2 b3:Nat) (h12:b1≠b2) (h32:b3≠b2) (K:Nat->Prop) (hK1:K b1) (hK3:K b3) (s:ByteArray) (w:World)
  (hb1:Boxed w b1 9 (.string kD)) (hb2:Boxed w b2 9 (.string s)) (hb3:Boxed w b3 3 (.int .i64 0)) (hs:s.size<=1000000000) (hm:∀W,Kb K w W->∃m,W.cell? ⟨2,0,none⟩=some (.int .i64 m)) (hK2:¬K b2):
  ahM Fence.wide n prog 137 #[.pointer (some ⟨b1,0,none⟩),.pointer (some ⟨b2,0,none⟩),.pointer (some ⟨b3,0,none⟩)] (fun x:ByteArray=>.string x) b2 K (fun xs=>xs=gY s) (fun pre=>pre<+:gY s) (fun pre=>pre<+:gY s) w:=by
 intro l J Jx W hW hWb hJ hJx hY h0;have hb1':Boxed W b1 9 (.string kD):=hW.same _ _ hb1 hK1;have ahN:Boxed W b3 3 (.int .i64 0):=hW.same _ _ hb3 hK3;have hb2':Boxed W b2 9 (.string s):=(hWb b2 rfl).trans hb2;have HY:=zH hY;have HJ:=zH hJ;have HJX:=zH hJx;have HM:=zH hm
 have HI:Hid (∀(x:ByteArray) (W:World) (k:Nat),x.size<=1000000000->Kb K w W->CallsIn Fence.wide k prog 86 #[.string x,.string kD] W fun e w'=>e=.returned (.int .i64 (Lib.indexB x kD))/\w'=W):=fun x W k hx hk=>by
  obtain⟨m,hm⟩:=HM.out W hk;exact (callsIn_wide (n:=k)).2 (Tryz.strings_Index x kD m W (by omega) hm)
 clear hY hJ hJx hm hb1 hb2 hb3;have hc1:=hb1'.cell;refine callsIn_of_wp func137 rfl trivial ?_ rfl;simp only[ntmps137,size_toArray,length_cons,length_nil,Nat.reduceAdd,Nat.reduceSub,Array.replicate_succ,Array.replicate_zero,push_toArray,append_toArray,nil_append,cons_append]
 unfold kD at hc1
 gi_wp2
 gi_loopw [] (fun wr=>∃(pre:List ByteArray) (r:ByteArray),pre++gY r=gY s/\r.size<=1000000000/\J pre wr/\Boxed wr b2 9 (.string r)/\Boxed wr b1 9 (.string kD)/\Boxed wr b3 3 (.int .i64 0)/\Kb K w wr)
  (fun wr=>Jc wr b2)
 case atStart=>exact⟨[],s,rfl,hs,h0,hb2',hb1',ahN,hW⟩
 case round=>
  obtain⟨pre,r,hpr,hrs,hj,hq2,hq1,hq3,hkb⟩:=hrel;clear hb1' hb2' ahN hc1 h0;have HC:=zH (fun k=>HI.out r wr k hrs hkb);have XF:=zH hq1;have XG:=zH hq2;have HQ3:=zH hq3;have hc1:=hq1.cell;have hc2:=hq2.cell;have hc3:=hq3.cell;have hf2:=hq2.frozen;unfold kD at hc1 HC;clear hq1 hq2 hq3;rcases Lib.index_spec r.data.toList kD.data.toList with⟨hi,_⟩|⟨i,hi,hile,_⟩
  ·have hi':Lib.indexB r kD= -1:=hi;have hlm:=Ej r hi';rw[hlm] at hpr;unfold kD at hi';rw[hi'] at HC;have uM:=zH hpr;obtain⟨fn,tmps,assign,body,hy,hR⟩:=HY.out pre r wr hj (by rw[uM.out];exact prefix_rfl);clear hi hi' hlm hpr
   gi_wp2_with fail
   refine⟨trivial,?_⟩;refine (HC.out _).mono ?_;rintro e w4 ⟨rfl,hw4⟩;have hw5:=hw4.symm;clear hw4;subst hw5
   gi_wp2
   refine hR.mono ?_;rintro e W3 (⟨rfl,hJ3,hk3⟩|⟨rfl,hJx3⟩)
   ·gi_wp2
    go_end0;exact⟨⟨_,rfl⟩,.inl ⟨_,uM.out,hJ3⟩⟩
   ·gi_wp2
    go_end0;exact⟨⟨_,rfl⟩,.inr ⟨_,by rw[uM.out];exact prefix_rfl,hJx3⟩⟩
  ·have hi':Lib.indexB r kD=i:=hi;have hlm:=Ih r i hi'
   have hroom:i+1<=r.size:=by
    have hr:=Lib.index_room r.data.toList kD.data.toList (by rw[hi];omega);rw[hi] at hr;have hr':(i:Int)+1<=r.size:=hr;omega
   rw[hlm] at hpr;unfold kD at hi';rw[hi'] at HC;have hex:(r.extract (i+1) r.size).size=r.size-(i+1):=by rw[ByteArray.size_extract];omega
   have hpf:pre++[r.extract 0 i]<+:gY s:=by rw[<-hpr];exact⟨gY (r.extract (i+1) r.size),by simp⟩
   obtain⟨fn,tmps,assign,body,hy,hR⟩:=HY.out pre (r.extract 0 i) wr hj hpf;have uM:=zH hpr;have HPF:=zH hpf;have HEX:=zH hex;clear hi hi' hlm hpr hpf hex
   gi_wp2_with fail
   refine⟨trivial,?_⟩;refine (HC.out _).mono ?_;rintro e w4 ⟨rfl,hw4⟩;have hw5:=hw4.symm;clear hw4;subst hw5
   gi_wp2
   refine hR.mono ?_;rintro e W3 (⟨rfl,hJ3,hk3⟩|⟨rfl,hJx3⟩)
   ·have hq1:Boxed W3 b1 9 (.string kD):=hk3.same _ _ XF.out (.inl hK1);have hq3:Boxed W3 b3 3 (.int .i64 0):=hk3.same _ _ HQ3.out (.inl hK3);have hq2:Boxed W3 b2 9 (.string r):=hk3.same _ _ XG.out (.inr rfl);have hc1:=hq1.cell;have hc2:=hq2.cell;have hf2:=hq2.frozen;have ahO:Kb K w W3:=⟨Nat.le_trans hkb.size hk3.size,fun k o h1 h2=>hk3.same k o (hkb.same k o h1 h2) (.inl h2)⟩
    have HQ:=zH (And.intro hq1 (And.intro hq2 hq3));have HK:=zH ahO;have HJ3:=zH hJ3;clear hq1 hq2 hq3 hk3 ahO hJ3 hkb;unfold kD at hc1
    gi_wp2
    go_roundw
    case rel=>
     obtain⟨hq1,hq2,hq3⟩:=HQ.out;exact⟨pre++[r.extract 0 i],r.extract (i+1) r.size,by rw[append_assoc];exact uM.out,by rw[HEX.out];omega,HJ.out _ _ _ HJ3.out (QU _ _ _),hq2.set _,hq1.other h12 _,hq3.other h32 _,HK.out.trans (Wp _ _ _ hK2)⟩
    case measure=>
     obtain⟨hq1,hq2,hq3⟩:=HQ.out;have e1:Jc wr b2=r.size:=by unfold Jc;rw[XG.out.cell]
     have e2:=(hq2.set (.string (r.extract (i+1) r.size))).cell;show Jc _ b2<Jc wr b2;unfold Jc at e1⊢;rw[e2,XG.out.cell];simp only
     rw[HEX.out];omega
   ·gi_wp2
    refine bodyPost_ret (results_none rfl _ _ _) rfl ?_;exact⟨⟨_,rfl⟩,.inr ⟨_,HPF.out,hJx3⟩⟩
end Go.Proofs.YtjpbmbgincdjaaaGreatDoor
