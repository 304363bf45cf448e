/- A part of the proof: Ew. -/
import Derived.RangeFuncNested
import Derived.RangeFuncBound
import Derived.RangeFuncCalls
import Derived.RangeFuncLeaves
import Derived.Shelf.Abstract
import Derived.Shelf.RegionOpen
import Derived.WalkKit
import Derived.OwnWalkIn
import Derived.TacticsInMore
import Derived.LoopNIn
import Derived.LoopIn
import Derived.Test.YtbicehdehiakgaaGreatDoorG27
import Derived.Test.YtbicehdehiakgaaGreatDoorG33
set_option linter.unusedVariables false
set_option linter.unusedSimpArgs false
namespace Go.Proofs.YtbicehdehiakgaaGreatDoor
open Go.RowKit Go.Shelf
attribute [local go_sem] Oper.semAt_some
theorem nmd_succ (es:List Nd) (k:Nat) (h:k<es.length):nmd (es.take (k+1))=if (shp es[k].op).nam then nmd (es.take k)++[es[k]] else nmd (es.take k):=by
 unfold nmd;rw[List.take_succ_eq_append_getElem h,List.filter_append];cases hn:(shp es[k].op).nam<;>simp[hn]
set_option maxRecDepth 100000 in
set_option maxHeartbeats 3200000 in
theorem named1_in (F:Fence) (n:Nat) (hF:F.fn 96) (hro:F.round=none) (hn:1≤n) (l Bn:Nat) (es:List Nd) (A:Option Addr) (c:Nat) (w0:World) (hL:LaidE w0) (hE:Es w0 es A es.length c)
  (hw:∀n∈es,wrongN n=0) (h60:es.length≤60) (J Jx:List Nd→World→Prop)
  (hY:∀pre x W,J pre W→pre.length<60→YieldAt F (n-1) Tryz.prog l #[Nd.v x] W fun e W'=>
    (e=.returned (.bool true)∧J (pre++[x]) W'∧Below w0.heap.size W W')∨(e=.returned (.bool false)∧Jx (pre++[x]) W'))
  (hJ:∀pre W o,J pre W→w0.heap.size≤W.heap.size→J pre (W.alloc o))
  (W:World) (hW:Below w0.heap.size w0 W) (hcB:W.cell? ⟨Bn,0,none⟩=some (.slice A es.length c)) (h0:J [] W):
  CallsIn F n Tryz.prog 96 #[.func (.yield l) #[] #[],.pointer (some ⟨Bn,0,none⟩)] W fun e W'=>(∃v,e=.returned v)∧
   ((∃ys,ys=nmd es∧J ys W')∨(∃pre,pre<+:nmd es∧Jx pre W')):=by
 have hm:=hE.max;unfold maxLen at hm;have HL:=Lib.hid hL;have HE:=Lib.hid hE;have HWR:=Lib.hid hw;have HY:=Lib.hid hY;have HJ:=Lib.hid hJ;clear hL hE hw hY hJ;refine callsIn_of_wp Tryz.func96 rfl hF ?_ hro;simp only[Tryz.ntmps96,List.size_toArray,List.length_cons,List.length_nil,Nat.reduceAdd,Nat.reduceSub,Array.replicate_succ,Array.replicate_zero,List.push_toArray,List.append_toArray,List.nil_append,List.cons_append]
 gi_wp2
 gi_loopw [7] (fun i wr=>∃k:Nat,k≤es.length∧i=.int .i64 k∧J (nmd (es.take k)) wr∧Below w0.heap.size w0 wr)
  (fun i _=>es.length-(intOf i).toNat)
 case atStart=>exact⟨0,Nat.zero_le _,rfl,h0,hW⟩
 case round=>
  obtain⟨k,hk,rfl,hJs,hnx⟩:=hrel;by_cases hlt:k<es.length
  ·have hnm:=nmd_succ es k hlt
   have hnl:(nmd (es.take k)).length<60:=by
    have h1:(nmd (es.take k)).length≤(es.take k).length:=List.length_filter_le _ _;rw[List.length_take] at h1;omega
   obtain⟨b,off,hA,hb,x0,x1,x2,x3,x4⟩:=(HE.out.rd.below hnx).nd hlt;subst hA;have hw0:=wrongN_op (HWR.out _ (List.getElem_mem hlt));have hyx:=fun W hj=>HY.out (nmd (es.take k)) es[k] W hj hnl
   have hkl:(k:Int)<es.length:=by omega
   generalize es[k]=x at*;obtain⟨op,⟨neg,num,den⟩,nm⟩:=x;simp only at x0 x1 x2 x3 x4 hw0 hnm;obtain⟨p,rfl⟩:∃p:Nat,op=p:=⟨op.toNat,by omega⟩
   have hla:=(HL.out.below hnx).alloc (.cells #[.int .i64 (p:Int),.bool neg,.string num,.string den,.string nm] 33);have ht:=hla.cell p 3 (by omega) (by omega);have hJa:=HJ.out _ _ (.cells #[.int .i64 (p:Int),.bool neg,.string num,.string den,.string nm] 33) hJs hnx.size;have hba:Below w0.heap.size w0 (wr.alloc (.cells #[.int .i64 (p:Int),.bool neg,.string num,.string den,.string nm] 33)):=hnx.alloc hnx.size _;simp only[Sh.cells,List.getElem?_cons_succ,List.getElem?_cons_zero] at ht;generalize (shp (p:Int)).nam=nam at*;have hp25:(p:Int)<25:=by omega
   clear hw0 hla;cases nam
   ·simp only[Bool.false_eq_true,if_false] at hnm;have HNM:=Lib.hid hnm;have HBA:=Lib.hid hba;clear hyx hnm hnl hba
    gi_wp2
    refine⟨fun _ h=>(by cases h),?_⟩
    gi_wp2
    go_roundw
    case rel=>exact⟨k+1,by omega,by go_num,by rw[HNM.out];exact hJa,HBA.out⟩
    case measure=>simp[intOf];omega
   ·simp only[if_true] at hnm;obtain⟨fn,tmps,assign,body,hy,hR⟩:=hyx _ hJa;unfold Nd.v at hy;simp only at hy;have HNM:=Lib.hid hnm;have HBA:=Lib.hid hba;clear hyx hnm hnl hba
    gi_wp2
    refine hR.mono ?_;rintro e W3 (⟨rfl,hJ3,hk3⟩|⟨rfl,hJx3⟩)
    ·gi_wp2
     go_roundw
     case rel=>exact⟨k+1,by omega,by go_num,by rw[HNM.out];exact hJ3,HBA.out.trans hk3⟩
     case measure=>simp[intOf];omega
    ·gi_wp2
     refine bodyPost_ret (results_none rfl _ _ _) rfl ?_;exact⟨⟨_,rfl⟩,.inr ⟨nmd (es.take (k+1)),(List.take_prefix _ _).filter _,by rw[HNM.out];exact hJx3⟩⟩
  ·obtain rfl:k=es.length:=by omega
   gi_wp2
   go_end0;exact⟨⟨_,rfl⟩,.inl ⟨_,rfl,by rw[List.take_length] at hJs;exact hJs⟩⟩
theorem named_stops (F:Fence) (n:Nat) (hF:F.fn 96) (hro:F.round=none) (hn:1≤n) (Bn:Nat) (es:List Nd) (A:Option Addr) (c:Nat) (w0 wl:World) (hL:LaidE w0) (hE:Es w0 es A es.length c) (hwl:Below w0.heap.size w0 wl) (hB:wl.cell? ⟨Bn,0,none⟩=some (.slice A es.length c)) (hBn:Bn<wl.heap.size)
  (hw:∀n∈es,wrongN n=0) (h60:es.length≤60):
  SeqStopsK F n Tryz.prog 96 #[.pointer (some ⟨Bn,0,none⟩)] (fun x:Nd=>#[Nd.v x]) (Below w0.heap.size) (fun ys=>ys=nmd es) (fun pre=>pre<+:nmd es) 60 wl:=fun l J Jx W hW hJ _ hY h0=>
 named1_in F n hF hro hn l Bn es A c w0 hL hE hw h60 J Jx hY (fun pre W' o h _=>hJ pre W' (W'.alloc o) none h (World.grownBy_alloc _ _ none) (fun r e=>by cases e)) W (hwl.trans (hW.mono hwl.size)) ((hW.cell (p:=⟨Bn,0,none⟩) hBn).trans hB) h0
end Go.Proofs.YtbicehdehiakgaaGreatDoor
