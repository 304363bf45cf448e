/- A part of the proof: Wk Us Ul Ug. -/
import Derived.Deep.Matrix
import Derived.Deep.RegionHeld3
import Derived.BigQuiet
import Derived.Deep.Cut
import Derived.Deep.CutRange
import Derived.Test.YtmmbjngbeiokeaaGreatDoorF01
import Derived.Test.YtmmbjngbeiokeaaGreatDoorF03
import Derived.Test.YtmmbjngbeiokeaaGreatDoorF24
import Derived.Test.YtmmbjngbeiokeaaGreatDoorF28
import Derived.Test.YtmmbjngbeiokeaaGreatDoorF29
import Derived.Test.YtmmbjngbeiokeaaGreatDoorF32
import Derived.Test.YtmmbjngbeiokeaaGreatDoorF33
import Derived.Test.YtmmbjngbeiokeaaGreatDoorF34
import Derived.Test.YtmmbjngbeiokeaaGreatDoorF35
import Derived.Test.YtmmbjngbeiokeaaGreatDoorF36
import Derived.Test.YtmmbjngbeiokeaaGreatDoorF37
set_option linter.unusedVariables false
set_option linter.unusedSimpArgs false
set_option maxRecDepth 100000
set_option maxHeartbeats 40000000
namespace Go.Proofs.YtmmbjngbeiokeaaGreatDoor
open Go.ChangeShapes Go.WideShapes Go.ChangeAt Go.RowKit
theorem i64_in64 {x:Int} (h:(Lit.int .i64 x).wf=true):-9223372036854775808≤x∧x≤9223372036854775807:=by
 simp only[Lit.wf,Bool.and_eq_true,decide_eq_true_eq] at h;exact⟨h.1,h.2⟩
theorem add_nn (b off m:Nat):(⟨b,off,none⟩:Addr).add m=⟨b,off+m,none⟩:=by unfold Addr.add;split<;>simp_all
theorem flat_row (xs:List (List Int × Hd)):xs.flatMap rowV=xs.map fun r=>Value.slice r.2.a r.2.n r.2.c:=by
 induction xs with
 |nil=>rfl
 |cons x xs ih=>rw[List.flatMap_cons,ih];rfl
theorem rows_of_trod {H:Type} {enc:TypeId × Value→H} {W:World} {base:Nat} {held:Bool} {r:Reach} {b0:Nat} {v:Value} {d:DataW H} {p:List MemPlace} (hv:Value.okWide Tryz.prog W r b0 22 v) (h:DataW.Trod enc Tryz.prog W base (fun _=>true) held 22 v d p):
  ∃(xs:List (List Int × Hd)) (hh:Hd),v=.slice hh.a hh.n hh.c∧RowAt W rowV xs hh∧∀r∈xs,IR W W.heap.size r:=by
 obtain⟨fuel,hf⟩:=h;obtain⟨A,n,c,rfl⟩:=okWide_slice Tryz.underlying22 hv;rcases Go.Deep.open_int_rows Tryz.underlying22 Tryz.underlying89 Tryz.underlying3 (by kernel_rfl) (by kernel_rfl) hf with⟨hcs,_⟩|⟨a,len,cap,As,L,C,Z,hcs,_,hl,hm,_,hx⟩
 ·have hcs:[Value.slice A n c]=[.slice none 0 0]:=hcs;injection hcs with hcs _;injection hcs with h1 h2 h3;subst h1 h2 h3;exact⟨[],⟨none,0,0⟩,rfl,⟨rfl,Nat.le_refl _,Nat.zero_le _,.inl rfl⟩,fun r hr=>by cases hr⟩
 ·have hcs:[Value.slice A n c]=[.slice (some a) len cap]:=hcs;injection hcs with hcs _;injection hcs with h1 h2 h3;subst h1 h2 h3;refine⟨(List.range n).map fun r=>((Z r).take (L r),⟨As r,L r,C r⟩),⟨some a,n,c⟩,rfl,⟨by simp,hl,hm,?_⟩,fun r hr=>?_⟩
  ·by_cases hn:n=0
   ·subst hn;exact .inl rfl
   ·have h00:=(hx 0 (by omega)).1;obtain⟨b,off,spot⟩:=a
    have hspot:spot=none:=by
     have:=World.cell?_spot h00;simpa [Addr.add] using this
    subst hspot;refine .inr ⟨b,off,rfl,?_,fun i hil=>?_⟩
    ·rw[add_nn] at h00;exact cell_lt h00
    ·have e:((List.range n).map fun r=>(((Z r).take (L r),⟨As r,L r,C r⟩):List Int × Hd)).flatMap rowV=(List.range n).map fun r=>Value.slice (As r) (L r) (C r):=by rw[flat_row,List.map_map];rfl
     have hil':i<n:=by rw[e] at hil;simpa using hil
     have h1:=(hx i (by omega)).1;rw[add_nn] at h1;rw[h1];simp only[e]
     simp
  ·obtain⟨i,hi,rfl⟩:=List.mem_map.1 hr;have hi:i<n:=by simpa using hi
   obtain⟨_,q2,q3,q4,q5,q6,q7⟩:=hx i (by omega);refine⟨by simp only[List.length_take];omega,q2,q3,?_,fun x hx=>i64_in64 (q5 x (List.mem_of_mem_take hx)),fun hne ad had=>?_⟩
   ·by_cases hL:L i=0
    ·simp only[hL,List.take_zero];exact .inl rfl
    ·obtain⟨a',ha⟩:∃a',As i=some a':=by
      cases hA:As i with
      |none=>have:=q6 hA;omega
      |some a'=>exact⟨a',rfl⟩
     have hc:=(q7 a' ha).2;have h00:=hc 0 (by omega);obtain⟨b,off,spot⟩:=a'
     have hspot:spot=none:=by
      have:=World.cell?_spot h00;simpa [Addr.add] using this
     subst hspot;refine .inr ⟨b,off,ha,?_,fun k hk=>?_⟩
     ·rw[add_nn] at h00;exact cell_lt h00
     ·unfold zvs at hk⊢;rw[List.length_map,List.length_take] at hk;have h1:=hc k (by omega);rw[add_nn] at h1;rw[h1,List.getElem_map,List.getElem_take,List.getD_eq_getElem?_getD,List.getElem?_eq_getElem (by omega)];rfl
   ·simp only at had hne
    have hL:0<C i:=by
     rcases Nat.eq_zero_or_pos (C i) with h0|h0
     ·exfalso;apply hne;rw[List.take_eq_nil_iff];right;exact List.length_eq_zero_iff.1 (by omega)
     ·exact h0
    have h00:=(q7 ad had).2 0 hL;exact World.block_lt_of_cell? _ _ h00 |> fun h=>by simpa [Addr.add] using h
end Go.Proofs.YtmmbjngbeiokeaaGreatDoor
namespace Go.Proofs.YtmmbjngbeiokeaaGreatDoor
open Go.RowKit
theorem PT.tf {w0 w w':World} {R:Nat} {l:Lw} {ss:List (Sc × Hd)} {ps:List (Pv × Hd)} {fv sv pv:Value} {t:TypeId} (h:PT w0 w R l ss ps fv sv pv) (ht:TF t w w') (hb:Below w0.heap.size w0 w') (h1:28≠t) (h2:52≠t) (h3:79≠t) (h4:41≠t) (h5:121≠t) (h6:87≠t):PT w0 w' R l ss ps fv sv pv:=
 ⟨h.r,hb,ht.blk h.blk h1,ht.own h.f h2,ht.own h.s h3,ht.own h.p h4,h.sl,h.pl,fun x hx=>⟨(h.sb x hx).1,ht.own (h.sb x hx).2 h5⟩,fun x hx=>⟨(h.pb x hx).1,ht.own (h.pb x hx).2 h6⟩⟩
def PX (w0 w:World) (R:Nat) (l:Lw):Prop:=∃ss ps fv sv pv,PT w0 w R l ss ps fv sv pv
theorem PX.below {w0 w w':World} {R:Nat} {l:Lw} (h:PX w0 w R l) (hb:Below w.heap.size w w'):PX w0 w' R l:=by
 obtain⟨ss,ps,fv,sv,pv,h⟩:=h;exact⟨ss,ps,fv,sv,pv,h.below hb⟩
theorem PX.setB {w0 w:World} {R B:Nat} {l:Lw} {cs:List Value} (h:PX w0 w R l) (hB:Blk w B 4 cs) (h0:w0.heap.size≤B) (u:Value):PX w0 (w.setCell ⟨B,0,none⟩ u) R l:=by
 obtain⟨ss,ps,fv,sv,pv,h⟩:=h;exact⟨ss,ps,fv,sv,pv,h.tf (TF.set (e:=4) hB 0 u) (h.bl.setCell (p:=⟨B,0,none⟩) h0 u) (by decide) (by decide) (by decide) (by decide) (by decide) (by decide)⟩
structure LineW (s:ByteArray) (ws:List ByteArray) (rest:ByteArray) (col:Bool):Prop where
 size:s.size≤1000000
 hd:∃h:List UInt8,Lib.cut s.data.toList [58,32]=(h,rest.data.toList,col)∧h.length≤1000000∧Lib.countB ⟨h.toArray⟩ ⟨#[32]⟩+1=ws.length∧Lib.splitB ⟨#[32]⟩ 0 (Lib.countB ⟨h.toArray⟩ ⟨#[32]⟩) ⟨h.toArray⟩=ws
theorem fr_line {R B:Nat} {w w8 w9:World} {u:Value} (h:FR R w w8) (hB:w.heap.size≤B) (hb:Below (w8.setCell ⟨B,0,none⟩ u).heap.size (w8.setCell ⟨B,0,none⟩ u) w9):FR R w w9:=by
 refine FR.trans (b:=w8.setCell ⟨B,0,none⟩ u) ⟨by have:=h.size;simpa [World.setCell] using this,fun k o hk hr ht=>(Below.heap_setCell w8 _ u k (fun e=>?_)).trans (h.keep k o hk hr ht)⟩ (FR.below hb);have h1:=lt_of_some hk;have h2:k=B:=e;omega
theorem line_core (w0 w:World) (R:Nat) (l l':Lw) (s rest wd nm:ByteArray) (more:List ByteArray) (k:Nat) (col:Bool) (h:PX w0 w R l) (hL:LaidK w) (hw:LineW s (wd::nm::more) rest col) (hk:more.length=k+1) (hnm:nameOk nm=true) (idx fn:Nat)
  (hid:(idx=0∧wd=⟨#[102,97,99,116]⟩∧fn=89∧col=false)∨(idx=1∧wd=⟨#[115,99,104,101,100,117,108,101]⟩∧fn=91∧col=true)∨(idx=2∧wd=⟨#[112,114,111,118,105,115,105,111,110]⟩∧fn=93∧col=true))
  (hR:∀W G,Below w.heap.size w W→Blk W G 9 (strs (wd::nm::more))→Calls Tryz.prog fn #[.pointer (some ⟨R,0,none⟩),.slice (some ⟨G,1,none⟩) (k+2:Nat) (k+2:Nat),.string rest] W fun e w'=>e=.returned (.tuple #[])∧PX w0 w' R l'∧FR R W w'):
  Calls Tryz.prog 21 #[.pointer (some ⟨R,0,none⟩),.string s] w fun e w'=>e=.returned (.bool true)∧PX w0 w' R l'∧FR R w w':=by
 have hmf:∀(fn:Fn) (first cap:Array Value) (w:World),(Instr.makeFunc fn first cap).run Tryz.prog w=.ok (.func fn first cap) w:=fun _ _ _ _=>rfl
 have hsf:=st_func;obtain⟨hsz,hd,hcut,hhl,hcnt,hspl⟩:=hw;obtain⟨ss0,ps0,fv0,sv0,pv0,hPT⟩:=h;have HW0:Hid (w0.heap.size≤w.heap.size):=hPT.bl.size;have HRW:Hid (R<w.heap.size):=hPT.blk.lt;obtain⟨W1,hW1⟩:=zE (w.alloc (.cells #[.bool false] 4));obtain⟨B,hB⟩:=zE w.heap.size;have HKB:Hid (Blk W1 B 4 [.bool false]):=by show Blk _ _ _ _;rw[hW1,hB];exact Blk.new w _ _
 have HB1:Hid (Below w.heap.size w W1):=by show Below _ _ _;rw[hW1];exact zB _ _
 have HBB:Hid (w.heap.size≤B):=Nat.le_of_eq hB.symm;have HLK:Hid (∀W,Below w.heap.size w W→LaidK W):=fun W hb=>hL.below hb
 obtain⟨m,hm⟩:=(HLK.out _ HB1.out).e.base.cut.2;have HCT:=zH (Tryz.strings_Cut s ⟨#[58,32]⟩ m W1 (by omega) hm);rw[show (⟨#[58,32]⟩:ByteArray).data.toList=[58,32] from rfl,hcut] at HCT;simp only at HCT;have hrest:(⟨rest.data.toList.toArray⟩:ByteArray)=rest:=by cases rest;rfl
 rw[hrest] at HCT
 have HSP:Hid (∀W,Below w.heap.size w W→Calls Tryz.prog 47 #[.string ⟨hd.toArray⟩,.string ⟨#[32]⟩] W fun e w'=>e=.returned (.slice (some ⟨W.heap.size,0,none⟩) (k+3:Nat) (k+3:Nat))∧w'=W.alloc (.cells ((wd::nm::more).map Value.string).toArray 9)):=fun W hb=>by
  obtain⟨m',hm'⟩:=(HLK.out _ hb).e.base.cut.2;have k':=Tryz.strings_Split ⟨hd.toArray⟩ ⟨#[32]⟩ m' W (by show hd.toArray.size<_;simp;omega) hm' (by decide);rw[hspl,hcnt] at k';simp only[List.length_cons,hk] at k';exact k'
 have HNM:Hid (∀W,Below w.heap.size w W→Calls Tryz.prog 14 #[.string nm] W fun e w'=>e=.returned (.bool true)∧Below W.heap.size W w'):=fun W hb=>by
  have k':=uName_any nm W (HLK.out _ hb).e;rw[hnm] at k';exact k'
 have HR:=zH hR;have HID:=zH hid;have HM:=zH must_yes;have HRD:=zH readers_any;have HMR:Hid (more.length=k+1):=hk;have HTRW:Hid (R<w.heap.size):=HRW.out;clear hL hm hrest hsz hcut hhl hcnt hspl hR hnm hid hPT hk;generalize (⟨hd.toArray⟩:ByteArray)=hb at*
 go_enter_defers Tryz.func21,Tryz.ntmps21
 go_wp2_with fail;simp only[←hW1,←hB]
 clear hW1 hB;refine HCT.out.mono ?_;rintro e w2 ⟨rfl,nd,hw2⟩;obtain⟨W2,hW2⟩:=zE (W1.drewN nd);rw[←hW2] at hw2;subst hw2;have HA2:Below W1.heap.size W1 w2:=by rw[hW2];exact drewN_below _ _ _
 have HB2:=zH (bstep HB1.out HA2);have HKB2:Hid (Blk w2 B 4 [.bool false]):=HKB.out.below HA2 HKB.out.lt;clear hW2 HA2 HKB HCT HB1;go_wp2_with fail;refine (HSP.out _ HB2.out).mono ?_;rintro e w3 ⟨rfl,hw3⟩;obtain⟨G,hG⟩:=zE w2.heap.size;have HG:Hid (Blk w3 G 9 (strs (wd::nm::more))):=by show Blk _ _ _ _;rw[hw3,hG,strs_map];exact Blk.new w2 _ _
 have HA3:Below w2.heap.size w2 w3:=by rw[hw3];exact zB _ _
 have HB3:=zH (bstep HB2.out HA3);have HKB3:Hid (Blk w3 B 4 [.bool false]):=HKB2.out.below HA3 HKB2.out.lt;simp only[←hG]
 clear hG hw3 HA3 HKB2 HB2 HSP;go_wp2_with fail;refine (HRD.out w3).mono ?_;rintro e w4 ⟨rfl,hk4,hb4⟩;obtain⟨D,hD⟩:=zE w3.heap.size;rw[←hD] at hk4;have HD:=zH hk4;have HB4:=zH (bstep HB3.out hb4);have HKB4:Hid (Blk w4 B 4 [.bool false]):=HKB3.out.below hb4 HKB3.out.lt;have HG4:Hid (Blk w4 G 9 (strs (wd::nm::more))):=HG.out.below hb4 HG.out.lt;simp only[←hD]
 clear hD hk4 hb4 HKB3 HB3 HG HRD;go_wp2_with fail
 go_loopg [22] 3 (fun q iv wr=>∃i:Nat,i+q=3∧iv=.int .i64 i∧Hid (i≤idx)∧Hid (Below w.heap.size w wr)∧Hid (Blk wr B 4 [.bool false])∧Hid (Blk wr G 9 (strs (wd::nm::more)))∧Hid (Blk wr D 115 rdrs))
 case atStart=>exact⟨0,by omega,rfl,Nat.zero_le _,HB4,HKB4,HG4,HD⟩
 case round=>
  obtain⟨i,hi,rfl,hidx,hbr,hkB,hkG,hkD⟩:=hrel;clear HB4 HKB4 HG4 HD;have hd0:=hkD.out.cells;have hg0:wr.cell? ⟨G,0,none⟩=some (.string wd):=hkG.out.cells 0;have hg1:wr.cell? ⟨G,1,none⟩=some (.string nm):=hkG.out.cells 1;have HI2:Hid (i≤2):=by have h1:=hidx.out;have h2:idx≤2:=by {rcases HID.out with h|h|h<;>omega};show i≤2;omega
  obtain hi0|hi1|hi2:i=0∨i=1∨i=2:=by have:=HI2.out;omega
  ·obtain rfl:i=0:=hi0;have e1:wr.cell? ⟨D,0,none⟩=some (.string ⟨#[102,97,99,116]⟩):=hd0 0;have e2:wr.cell? ⟨D,1,none⟩=some (.func (Fn.func 89) #[] #[]):=hd0 1;have HQ2:Hid (∀o,Blk (wr.alloc (.cells o 115)) wr.heap.size 115 o.toList):=fun o=>Blk.new wr _ o
   have HBA:Hid (∀o,Below w.heap.size w (wr.alloc o)):=fun o=>hbr.out.alloc hbr.out.size o
   by_cases hix:idx=0
   ·obtain⟨rfl,rfl,rfl⟩:wd=⟨#[102,97,99,116]⟩∧fn=89∧col=false:=by rcases HID.out with⟨h,h'⟩|⟨h,h'⟩|⟨h,h'⟩<;>first|exact h'|(exfalso;omega)
    clear hd0 hidx;obtain⟨wt,hwt⟩:=zE (wr.alloc (.cells #[.string ⟨#[102,97,99,116]⟩,.func (Fn.func 89) #[] #[]] 115));obtain⟨T,hT⟩:=zE wr.heap.size;have HTW:Hid (w.heap.size≤T):=by show _≤T;rw[hT];exact hbr.out.size
    have HT:Hid (Blk wt T 115 [.string ⟨#[102,97,99,116]⟩,.func (Fn.func 89) #[] #[]]):=by show Blk _ _ _ _;rw[hwt,hT];exact Blk.new wr _ _
    have HBT:Hid (Below w.heap.size w wt):=by show Below _ _ _;rw[hwt];exact HBA.out _
    have HKT:Hid (Blk wt B 4 [.bool false]):=by show Blk _ _ _ _;rw[hwt];exact hkB.out.alloc _
    have HGT:Hid (Blk wt G 9 (strs (⟨#[102,97,99,116]⟩::nm::more))):=by show Blk _ _ _ _;rw[hwt];exact hkG.out.alloc _
    go_upto_region 7 with fail
    simp only[←hwt,←hT]
    clear hwt hT hg0 hg1 e1 e2 HQ2 HBA hbr hkB hkG hkD;have t0:=HT.out.cells;have hg0:wt.cell? ⟨G,0,none⟩=some (.string ⟨#[102,97,99,116]⟩):=HGT.out.cells 0;have hg1:wt.cell? ⟨G,1,none⟩=some (.string nm):=HGT.out.cells 1;go_quiet (fail);go_wp2_with fail;generalize hwq:wt.drewN _=wq;have HQQ:Hid (Below wt.heap.size wt wq):=by show Below _ _ _;rw[←hwq];exact drewN_below _ _ _
    clear hwq;refine (HNM.out wq (bstep HBT.out HQQ.out)).mono ?_;rintro e w5 ⟨rfl,hb5⟩;have HB5:=zH (bstep (bstep HBT.out HQQ.out) hb5);have HT5:=zH (HT.out.below (bstep HQQ.out hb5) HT.out.lt);have HK5:Hid (Blk w5 B 4 [.bool false]):=HKT.out.below (bstep HQQ.out hb5) HKT.out.lt;have HG5:=zH (HGT.out.below (bstep HQQ.out hb5) HGT.out.lt);clear t0 hg0 hg1 hb5 HT HBT HKT HGT;have t0:=HT5.out.cells;have HM5:=zH (HM.out w5);go_wp2_with fail;refine HM5.out.mono ?_;rintro e w6 ⟨rfl,hw6⟩;have hw7:=hw6.symm;clear hw6;subst hw7;clear t0;have HF5:Hid (∀W',Below w5.heap.size w5 W'→W'.cell? ⟨T,1,none⟩=some (.func (Fn.func 89) #[] #[])):=fun W' hb=>(HT5.out.below hb HT5.out.lt).cells 1
    have hk13:(1:Int)≤(k:Int)+3:=by omega
    go_upto_region 9 with fail
    refine wp_region_noPanic ?_;refine wp_region_held_drew (S:=(fun w'=>w'.cell? ⟨T,1,none⟩=some (.func (Fn.func 89) #[] #[]))) (by kernel_rfl) (HF5.out _ (drewN_below w5.heap.size w5 1)) (fun hHeld=>?_);refine tkZ 0 ?_;refine tkZ 1 ?_;refine tkZ 2 ?_;refine tkZ 3 ?_;refine tkZ 4 ?_;refine tkZ 5 ?_;refine tkR 6 fun K hK=>?_
    go_simp;refine (HR.out _ G (bstep HB5.out (drewN_below w5.heap.size w5 1)) (HG5.out.below (drewN_below w5.heap.size w5 1) HG5.out.lt)).mono ?_;rintro e w8 ⟨rfl,hpx,hfr⟩;go_wp2_with fail;refine tkK hK ((show Blk w8 T _ _ from hfr.keep T _ (HT5.out.below (drewN_below w5.heap.size w5 1) HT5.out.lt) (fun e=>by have h1:=HRW.out;have h2:=HTW.out;omega) (fun cs t fr e=>by injection e with _ e2 _;subst e2;decide)).cells 1) fun hHeld=>?_
    clear hK K;refine wpAnyH_done (by kernel_rfl) ?_ _;refine NoPanic.normal ?_;have HK8:Hid (Blk w8 B 4 [.bool false]):=hfr.keep B _ (HK5.out.below (drewN_below w5.heap.size w5 1) HK5.out.lt) (by have h1:=HRW.out;have h2:=HBB.out;omega) (fun cs t fr e=>by injection e with _ e2 _;subst e2;decide);have HFR:Hid (FR R w w8):=FR.trans (FR.below (bstep HB5.out (drewN_below w5.heap.size w5 1))) hfr;have HPX:=zH hpx;clear hpx hfr;have hk8:=HK8.out.cells;have hf8:=HK8.out.froz;go_wp2;refine leaves_cons (f:=45) (args:=#[.pointer (some ⟨B,0,none⟩)]) (by simp) (by simp[go_sem]) ?_;refine (lcatch_idle B _).mono ?_;rintro e u' w9 ⟨rfl,rfl,hb9⟩;have hKS:=(HK8.out.set 0 (.bool true)).below hb9 (HK8.out.set 0 (.bool true)).lt;have hc9:w9.cell? ⟨B,0,none⟩=some (.bool true):=hKS.cells 0;simp[Leaves,settle,results,Tryz.results21,go_sem,hc9];exact⟨(HPX.out.setB HK8.out (Nat.le_trans HW0.out HBB.out) _).below hb9,fr_line HFR.out HBB.out hb9⟩
   ·have hne:(([102,97,99,116]:List UInt8)==wd.toList)=false:=by rcases HID.out with⟨h,h',_⟩|⟨h,h',_⟩|⟨h,h',_⟩<;>first|(exfalso;omega)|(subst h';simp only[ByteArray.toList_eq];decide)
    have HLT:Hid (0+1≤idx):=by have h1:=hidx.out;show 0+1≤idx;omega
    clear hidx;obtain⟨wt,hwt⟩:=zE (wr.alloc (.cells #[.string ⟨#[102,97,99,116]⟩,.func (Fn.func 89) #[] #[]] 115));obtain⟨T,hT⟩:=zE wr.heap.size;have HTW:Hid (w.heap.size≤T):=by show _≤T;rw[hT];exact hbr.out.size
    have HT:Hid (Blk wt T 115 [.string ⟨#[102,97,99,116]⟩,.func (Fn.func 89) #[] #[]]):=by show Blk _ _ _ _;rw[hwt,hT];exact Blk.new wr _ _
    have HBT:Hid (Below w.heap.size w wt):=by show Below _ _ _;rw[hwt];exact HBA.out _
    have HKT:Hid (Blk wt B 4 [.bool false]):=by show Blk _ _ _ _;rw[hwt];exact hkB.out.alloc _
    have HGT:Hid (Blk wt G 9 (strs (wd::nm::more))):=by show Blk _ _ _ _;rw[hwt];exact hkG.out.alloc _
    have HDT:Hid (Blk wt D 115 rdrs):=by show Blk _ _ _ _;rw[hwt];exact hkD.out.alloc _
    clear hd0
    go_upto_region 7 with fail
    simp only[←hwt,←hT]
    clear hwt hT hg0 hg1 e1 e2 HQ2 HBA hbr hkB hkG hkD;have t0:=HT.out.cells;have hg0:wt.cell? ⟨G,0,none⟩=some (.string wd):=HGT.out.cells 0;go_quiet (fail);go_wp2;generalize hwq:wt.drewN _=wq;have HQQ:Hid (Below wt.heap.size wt wq):=by show Below _ _ _;rw[←hwq];exact drewN_below _ _ _
    clear hwq
    go_roundg 2
    case rel=>exact⟨0+1,by omega,by go_num,HLT,bstep HBT.out HQQ.out,HKT.out.below HQQ.out HKT.out.lt,HGT.out.below HQQ.out HGT.out.lt,HDT.out.below HQQ.out HDT.out.lt⟩
    all_goals omega
  ·obtain rfl:i=1:=hi1;have e1:wr.cell? ⟨D,2,none⟩=some (.string ⟨#[115,99,104,101,100,117,108,101]⟩):=hd0 2;have e2:wr.cell? ⟨D,3,none⟩=some (.func (Fn.func 91) #[] #[]):=hd0 3;have HQ2:Hid (∀o,Blk (wr.alloc (.cells o 115)) wr.heap.size 115 o.toList):=fun o=>Blk.new wr _ o
   have HBA:Hid (∀o,Below w.heap.size w (wr.alloc o)):=fun o=>hbr.out.alloc hbr.out.size o
   by_cases hix:idx=1
   ·obtain⟨rfl,rfl,rfl⟩:wd=⟨#[115,99,104,101,100,117,108,101]⟩∧fn=91∧col=true:=by rcases HID.out with⟨h,h'⟩|⟨h,h'⟩|⟨h,h'⟩<;>first|exact h'|(exfalso;omega)
    clear hd0 hidx;obtain⟨wt,hwt⟩:=zE (wr.alloc (.cells #[.string ⟨#[115,99,104,101,100,117,108,101]⟩,.func (Fn.func 91) #[] #[]] 115));obtain⟨T,hT⟩:=zE wr.heap.size;have HTW:Hid (w.heap.size≤T):=by show _≤T;rw[hT];exact hbr.out.size
    have HT:Hid (Blk wt T 115 [.string ⟨#[115,99,104,101,100,117,108,101]⟩,.func (Fn.func 91) #[] #[]]):=by show Blk _ _ _ _;rw[hwt,hT];exact Blk.new wr _ _
    have HBT:Hid (Below w.heap.size w wt):=by show Below _ _ _;rw[hwt];exact HBA.out _
    have HKT:Hid (Blk wt B 4 [.bool false]):=by show Blk _ _ _ _;rw[hwt];exact hkB.out.alloc _
    have HGT:Hid (Blk wt G 9 (strs (⟨#[115,99,104,101,100,117,108,101]⟩::nm::more))):=by show Blk _ _ _ _;rw[hwt];exact hkG.out.alloc _
    go_upto_region 7 with fail
    simp only[←hwt,←hT]
    clear hwt hT hg0 hg1 e1 e2 HQ2 HBA hbr hkB hkG hkD;have t0:=HT.out.cells;have hg0:wt.cell? ⟨G,0,none⟩=some (.string ⟨#[115,99,104,101,100,117,108,101]⟩):=HGT.out.cells 0;have hg1:wt.cell? ⟨G,1,none⟩=some (.string nm):=HGT.out.cells 1;go_quiet (fail);go_wp2_with fail;generalize hwq:wt.drewN _=wq;have HQQ:Hid (Below wt.heap.size wt wq):=by show Below _ _ _;rw[←hwq];exact drewN_below _ _ _
    clear hwq;refine (HNM.out wq (bstep HBT.out HQQ.out)).mono ?_;rintro e w5 ⟨rfl,hb5⟩;have HB5:=zH (bstep (bstep HBT.out HQQ.out) hb5);have HT5:=zH (HT.out.below (bstep HQQ.out hb5) HT.out.lt);have HK5:Hid (Blk w5 B 4 [.bool false]):=HKT.out.below (bstep HQQ.out hb5) HKT.out.lt;have HG5:=zH (HGT.out.below (bstep HQQ.out hb5) HGT.out.lt);clear t0 hg0 hg1 hb5 HT HBT HKT HGT;have t0:=HT5.out.cells;have HM5:=zH (HM.out w5);go_wp2_with fail;refine HM5.out.mono ?_;rintro e w6 ⟨rfl,hw6⟩;have hw7:=hw6.symm;clear hw6;subst hw7;clear t0;have HF5:Hid (∀W',Below w5.heap.size w5 W'→W'.cell? ⟨T,1,none⟩=some (.func (Fn.func 91) #[] #[])):=fun W' hb=>(HT5.out.below hb HT5.out.lt).cells 1
    have hk13:(1:Int)≤(k:Int)+3:=by omega
    go_upto_region 9 with fail
    refine wp_region_noPanic ?_;refine wp_region_held_drew (S:=(fun w'=>w'.cell? ⟨T,1,none⟩=some (.func (Fn.func 91) #[] #[]))) (by kernel_rfl) (HF5.out _ (drewN_below w5.heap.size w5 1)) (fun hHeld=>?_);refine tkZ 0 ?_;refine tkZ 1 ?_;refine tkZ 2 ?_;refine tkZ 3 ?_;refine tkZ 4 ?_;refine tkZ 5 ?_;refine tkR 6 fun K hK=>?_
    go_simp;refine (HR.out _ G (bstep HB5.out (drewN_below w5.heap.size w5 1)) (HG5.out.below (drewN_below w5.heap.size w5 1) HG5.out.lt)).mono ?_;rintro e w8 ⟨rfl,hpx,hfr⟩;go_wp2_with fail;refine tkK hK ((show Blk w8 T _ _ from hfr.keep T _ (HT5.out.below (drewN_below w5.heap.size w5 1) HT5.out.lt) (fun e=>by have h1:=HRW.out;have h2:=HTW.out;omega) (fun cs t fr e=>by injection e with _ e2 _;subst e2;decide)).cells 1) fun hHeld=>?_
    clear hK K;refine wpAnyH_done (by kernel_rfl) ?_ _;refine NoPanic.normal ?_;have HK8:Hid (Blk w8 B 4 [.bool false]):=hfr.keep B _ (HK5.out.below (drewN_below w5.heap.size w5 1) HK5.out.lt) (by have h1:=HRW.out;have h2:=HBB.out;omega) (fun cs t fr e=>by injection e with _ e2 _;subst e2;decide);have HFR:Hid (FR R w w8):=FR.trans (FR.below (bstep HB5.out (drewN_below w5.heap.size w5 1))) hfr;have HPX:=zH hpx;clear hpx hfr;have hk8:=HK8.out.cells;have hf8:=HK8.out.froz;go_wp2;refine leaves_cons (f:=45) (args:=#[.pointer (some ⟨B,0,none⟩)]) (by simp) (by simp[go_sem]) ?_;refine (lcatch_idle B _).mono ?_;rintro e u' w9 ⟨rfl,rfl,hb9⟩;have hKS:=(HK8.out.set 0 (.bool true)).below hb9 (HK8.out.set 0 (.bool true)).lt;have hc9:w9.cell? ⟨B,0,none⟩=some (.bool true):=hKS.cells 0;simp[Leaves,settle,results,Tryz.results21,go_sem,hc9];exact⟨(HPX.out.setB HK8.out (Nat.le_trans HW0.out HBB.out) _).below hb9,fr_line HFR.out HBB.out hb9⟩
   ·have hne:(([115,99,104,101,100,117,108,101]:List UInt8)==wd.toList)=false:=by rcases HID.out with⟨h,h',_⟩|⟨h,h',_⟩|⟨h,h',_⟩<;>first|(exfalso;omega)|(subst h';simp only[ByteArray.toList_eq];decide)
    have HLT:Hid (1+1≤idx):=by have h1:=hidx.out;show 1+1≤idx;omega
    clear hidx;obtain⟨wt,hwt⟩:=zE (wr.alloc (.cells #[.string ⟨#[115,99,104,101,100,117,108,101]⟩,.func (Fn.func 91) #[] #[]] 115));obtain⟨T,hT⟩:=zE wr.heap.size;have HTW:Hid (w.heap.size≤T):=by show _≤T;rw[hT];exact hbr.out.size
    have HT:Hid (Blk wt T 115 [.string ⟨#[115,99,104,101,100,117,108,101]⟩,.func (Fn.func 91) #[] #[]]):=by show Blk _ _ _ _;rw[hwt,hT];exact Blk.new wr _ _
    have HBT:Hid (Below w.heap.size w wt):=by show Below _ _ _;rw[hwt];exact HBA.out _
    have HKT:Hid (Blk wt B 4 [.bool false]):=by show Blk _ _ _ _;rw[hwt];exact hkB.out.alloc _
    have HGT:Hid (Blk wt G 9 (strs (wd::nm::more))):=by show Blk _ _ _ _;rw[hwt];exact hkG.out.alloc _
    have HDT:Hid (Blk wt D 115 rdrs):=by show Blk _ _ _ _;rw[hwt];exact hkD.out.alloc _
    clear hd0
    go_upto_region 7 with fail
    simp only[←hwt,←hT]
    clear hwt hT hg0 hg1 e1 e2 HQ2 HBA hbr hkB hkG hkD;have t0:=HT.out.cells;have hg0:wt.cell? ⟨G,0,none⟩=some (.string wd):=HGT.out.cells 0;go_quiet (fail);go_wp2;generalize hwq:wt.drewN _=wq;have HQQ:Hid (Below wt.heap.size wt wq):=by show Below _ _ _;rw[←hwq];exact drewN_below _ _ _
    clear hwq
    go_roundg 1
    case rel=>exact⟨1+1,by omega,by go_num,HLT,bstep HBT.out HQQ.out,HKT.out.below HQQ.out HKT.out.lt,HGT.out.below HQQ.out HGT.out.lt,HDT.out.below HQQ.out HDT.out.lt⟩
    all_goals omega
  ·obtain rfl:i=2:=hi2;have e1:wr.cell? ⟨D,4,none⟩=some (.string ⟨#[112,114,111,118,105,115,105,111,110]⟩):=hd0 4;have e2:wr.cell? ⟨D,5,none⟩=some (.func (Fn.func 93) #[] #[]):=hd0 5;have HQ2:Hid (∀o,Blk (wr.alloc (.cells o 115)) wr.heap.size 115 o.toList):=fun o=>Blk.new wr _ o
   have HBA:Hid (∀o,Below w.heap.size w (wr.alloc o)):=fun o=>hbr.out.alloc hbr.out.size o
   by_cases hix:idx=2
   ·obtain⟨rfl,rfl,rfl⟩:wd=⟨#[112,114,111,118,105,115,105,111,110]⟩∧fn=93∧col=true:=by rcases HID.out with⟨h,h'⟩|⟨h,h'⟩|⟨h,h'⟩<;>first|exact h'|(exfalso;omega)
    clear hd0 hidx;obtain⟨wt,hwt⟩:=zE (wr.alloc (.cells #[.string ⟨#[112,114,111,118,105,115,105,111,110]⟩,.func (Fn.func 93) #[] #[]] 115));obtain⟨T,hT⟩:=zE wr.heap.size;have HTW:Hid (w.heap.size≤T):=by show _≤T;rw[hT];exact hbr.out.size
    have HT:Hid (Blk wt T 115 [.string ⟨#[112,114,111,118,105,115,105,111,110]⟩,.func (Fn.func 93) #[] #[]]):=by show Blk _ _ _ _;rw[hwt,hT];exact Blk.new wr _ _
    have HBT:Hid (Below w.heap.size w wt):=by show Below _ _ _;rw[hwt];exact HBA.out _
    have HKT:Hid (Blk wt B 4 [.bool false]):=by show Blk _ _ _ _;rw[hwt];exact hkB.out.alloc _
    have HGT:Hid (Blk wt G 9 (strs (⟨#[112,114,111,118,105,115,105,111,110]⟩::nm::more))):=by show Blk _ _ _ _;rw[hwt];exact hkG.out.alloc _
    go_upto_region 7 with fail
    simp only[←hwt,←hT]
    clear hwt hT hg0 hg1 e1 e2 HQ2 HBA hbr hkB hkG hkD;have t0:=HT.out.cells;have hg0:wt.cell? ⟨G,0,none⟩=some (.string ⟨#[112,114,111,118,105,115,105,111,110]⟩):=HGT.out.cells 0;have hg1:wt.cell? ⟨G,1,none⟩=some (.string nm):=HGT.out.cells 1;go_quiet (fail);go_wp2_with fail;generalize hwq:wt.drewN _=wq;have HQQ:Hid (Below wt.heap.size wt wq):=by show Below _ _ _;rw[←hwq];exact drewN_below _ _ _
    clear hwq;refine (HNM.out wq (bstep HBT.out HQQ.out)).mono ?_;rintro e w5 ⟨rfl,hb5⟩;have HB5:=zH (bstep (bstep HBT.out HQQ.out) hb5);have HT5:=zH (HT.out.below (bstep HQQ.out hb5) HT.out.lt);have HK5:Hid (Blk w5 B 4 [.bool false]):=HKT.out.below (bstep HQQ.out hb5) HKT.out.lt;have HG5:=zH (HGT.out.below (bstep HQQ.out hb5) HGT.out.lt);clear t0 hg0 hg1 hb5 HT HBT HKT HGT;have t0:=HT5.out.cells;have HM5:=zH (HM.out w5);go_wp2_with fail;refine HM5.out.mono ?_;rintro e w6 ⟨rfl,hw6⟩;have hw7:=hw6.symm;clear hw6;subst hw7;clear t0;have HF5:Hid (∀W',Below w5.heap.size w5 W'→W'.cell? ⟨T,1,none⟩=some (.func (Fn.func 93) #[] #[])):=fun W' hb=>(HT5.out.below hb HT5.out.lt).cells 1
    have hk13:(1:Int)≤(k:Int)+3:=by omega
    go_upto_region 9 with fail
    refine wp_region_noPanic ?_;refine wp_region_held_drew (S:=(fun w'=>w'.cell? ⟨T,1,none⟩=some (.func (Fn.func 93) #[] #[]))) (by kernel_rfl) (HF5.out _ (drewN_below w5.heap.size w5 1)) (fun hHeld=>?_);refine tkZ 0 ?_;refine tkZ 1 ?_;refine tkZ 2 ?_;refine tkZ 3 ?_;refine tkZ 4 ?_;refine tkZ 5 ?_;refine tkR 6 fun K hK=>?_
    go_simp;refine (HR.out _ G (bstep HB5.out (drewN_below w5.heap.size w5 1)) (HG5.out.below (drewN_below w5.heap.size w5 1) HG5.out.lt)).mono ?_;rintro e w8 ⟨rfl,hpx,hfr⟩;go_wp2_with fail;refine tkK hK ((show Blk w8 T _ _ from hfr.keep T _ (HT5.out.below (drewN_below w5.heap.size w5 1) HT5.out.lt) (fun e=>by have h1:=HRW.out;have h2:=HTW.out;omega) (fun cs t fr e=>by injection e with _ e2 _;subst e2;decide)).cells 1) fun hHeld=>?_
    clear hK K;refine wpAnyH_done (by kernel_rfl) ?_ _;refine NoPanic.normal ?_;have HK8:Hid (Blk w8 B 4 [.bool false]):=hfr.keep B _ (HK5.out.below (drewN_below w5.heap.size w5 1) HK5.out.lt) (by have h1:=HRW.out;have h2:=HBB.out;omega) (fun cs t fr e=>by injection e with _ e2 _;subst e2;decide);have HFR:Hid (FR R w w8):=FR.trans (FR.below (bstep HB5.out (drewN_below w5.heap.size w5 1))) hfr;have HPX:=zH hpx;clear hpx hfr;have hk8:=HK8.out.cells;have hf8:=HK8.out.froz;go_wp2;refine leaves_cons (f:=45) (args:=#[.pointer (some ⟨B,0,none⟩)]) (by simp) (by simp[go_sem]) ?_;refine (lcatch_idle B _).mono ?_;rintro e u' w9 ⟨rfl,rfl,hb9⟩;have hKS:=(HK8.out.set 0 (.bool true)).below hb9 (HK8.out.set 0 (.bool true)).lt;have hc9:w9.cell? ⟨B,0,none⟩=some (.bool true):=hKS.cells 0;simp[Leaves,settle,results,Tryz.results21,go_sem,hc9];exact⟨(HPX.out.setB HK8.out (Nat.le_trans HW0.out HBB.out) _).below hb9,fr_line HFR.out HBB.out hb9⟩
   ·exfalso;have h1:=hidx.out;rcases HID.out with h|h|h<;>omega
theorem info_decl:(Tryz.prog.info? 52).map (fun i=>(i.zero,i.size,i.bytes))=some (some (.agg #[.string ⟨#[]⟩,.bool false,.int .i64 0,.int .i64 0]),4,40):=by kernel_rfl
theorem uFact_any (w0 w:World) (R g c:Nat) (l:Lw) (ss:List (Sc × Hd)) (ps:List (Pv × Hd)) (fv sv pv:Value) (nm s rest:ByteArray) (t:Ty) (h:PT w0 w R l ss ps fv sv pv) (hL:LaidK w) (ht:tyIn t=true) (hs:s=tyText t) (hn:l.facts.length≤1000) (hg:∃cs,Blk w g 9 cs∧cs[1]?=some (.string nm)∧cs[2]?=some (.string s)):
  Calls Tryz.prog 89 #[.pointer (some ⟨R,0,none⟩),.slice (some ⟨g,1,none⟩) 2 c,.string rest] w fun e w'=>e=.returned (.tuple #[])∧(∃v',PT w0 w' R ⟨l.facts++[⟨nm,t⟩],l.schs,l.provs⟩ ss ps v' sv pv)∧FR R w w':=by
 obtain⟨cs,hg0,hg1,hg2⟩:=hg;have HT:=zH (fun W (hb:Below w.heap.size w W)=>hs ▸ uTypeOf_any t W (hL.below hb) ht);have HPT:=zH h;have HSS:Hid (∀W,Below w.heap.size w W→W.cell? ⟨g,1,none⟩=some (.string nm)∧W.cell? ⟨g,2,none⟩=some (.string s)):=fun W hb=>⟨((hg0.below hb hg0.lt).cells 1).trans hg1,((hg0.below hb hg0.lt).cells 2).trans hg2⟩
 have HGR:Hid (∀W W',Below w.heap.size w W→TF 52 W W'→W'.cell? ⟨g,1,none⟩=some (.string nm)∧W'.cell? ⟨g,2,none⟩=some (.string s)):=fun W W' hb ht=>⟨((ht.blk (hg0.below hb hg0.lt) (by decide)).cells 1).trans hg1,((ht.blk (hg0.below hb hg0.lt) (by decide)).cells 2).trans hg2⟩
 have HM:=zH (must_yes w)
 have HRG:Hid (R≠g):=by
  rintro rfl;have e1:(Obj.cells _ _ _:Obj)=Obj.cells _ _ _:=Option.some.inj (h.blk.symm.trans hg0);injection e1 with _ e2 _;exact absurd e2 (by decide)
 obtain⟨tt,tm,td⟩:=t;unfold Ty.v at HT;simp only at HT;clear h hL ht hs hg0 hg1 hg2;go_enter Tryz.func89,Tryz.ntmps89;go_wp2_with fail;refine HM.out.mono ?_;rintro e w1 ⟨rfl,hw1⟩;have hw2:=hw1.symm;clear hw1;subst hw2
 go_upto_region 1 with fail
 refine wp_region_noPanic ?_;refine wp_region_held_drew (S:=(fun w'=>w'.cell? ⟨g,1,none⟩=some (.string nm)∧w'.cell? ⟨g,2,none⟩=some (.string s))) (by kernel_rfl) (HSS.out _ (Below.drew (Below.refl _ w))) (fun hHeld=>?_);refine tkZ 0 ?_;refine tkZ 1 ?_;refine tkZ 2 ?_;refine tkZ 3 ?_;refine tkZ 5 ?_;refine tkZ 6 ?_;refine tkZ 8 ?_;refine tkZ 9 ?_;refine tkZ 10 ?_;refine tkZ 7 ?_;refine tkR2 4 11 (fun K hK=>?_) fun K hK=>?_
 ·have hc4:(w).cell? ⟨R,0,none⟩=some fv:=(HPT.out.blk.cells 0)
  go_simp;go_wp2_with fail;refine tkK hK (HSS.out _ (drewN_below w.heap.size w 1)) fun hHeld=>?_
  clear hK K;refine tkR 11 fun K hK=>?_
  go_simp;refine (HT.out _ (drewN_below w.heap.size w 1)).mono ?_;rintro e w10 ⟨rfl,hb10⟩;have HB10:=zH (bstep (drewN_below w.heap.size w 1) hb10);go_wp2_with fail;refine tkK hK (HSS.out _ HB10.out) fun hHeld=>?_
  clear hK K;refine tkZ 12 ?_;refine tkR 13 fun K hK=>?_
  go_simp;go_wp2_with fail;refine tkK hK (HSS.out _ (HB10.out.alloc HB10.out.size _)) fun hHeld=>?_
  clear hK K;refine tkR 14 fun K hK=>?_
  have HP:=zH (HPT.out.below HB10.out);refine step_push_at w10 #[.string nm,.bool tt,.int .i64 tm,.int .i64 td] (by rfl) _ _ 24 (by rfl) (R+1) 52 (.agg #[.string ⟨#[]⟩,.bool false,.int .i64 0,.int .i64 0]) 4 40 1 Tryz.underlying24 info_decl rfl (by decide) fv l.facts.length (l.facts.flatMap Dc.cells) (by rfl) HP.out.f (by rfl) rfl ?_ ?_ ?_ ?_ ?_
  any_goals first|(unfold maxLen;omega)|omega
  ·intro u hu;simp only[List.mem_cons,List.not_mem_nil,or_false] at hu;rcases hu with rfl|rfl|rfl|rfl<;>rfl
  ·have h1:=HP.out.bl.size;have h2:=HP.out.blk.lt;omega
  intro v' w11 hown hgr _;obtain⟨Av,cv,rfl,_⟩:=own_rd hown;have HQ:=zH (HP.out.pushF ⟨nm,⟨tt,tm,td⟩⟩ hown hgr);have HK:=zH ((TF.grown HP.out.f hgr).blk HP.out.blk (by decide));have HG2:Hid (w11.cell? ⟨g,1,none⟩=some (.string nm)∧w11.cell? ⟨g,2,none⟩=some (.string s)):=HGR.out _ _ HB10.out (TF.grown HP.out.f hgr);have HFR:Hid (FR R w _):=FR.grown (i:=0) (u:=.slice Av (l.facts.length+1) cv) HB10.out HP.out.f (.inl rfl) hgr;clear hown hgr;refine tkK hK (HG2.out) fun hHeld=>?_
  clear hK K;refine tkZ 15 ?_;refine tkZ 16 ?_;refine tkR 17 fun K hK=>?_
  have hkc:=HK.out.cells;have hkf:=HK.out.froz;go_simp;go_wp2_with fail;refine tkK hK (⟨by rw[World.cell?_setCell_other _ _ _ _ (by simp[HRG.out])];exact HG2.out.1,by rw[World.cell?_setCell_other _ _ _ _ (by simp[HRG.out])];exact HG2.out.2⟩) fun hHeld=>?_
  clear hK K;refine wpAnyH_done (by kernel_rfl) ?_ _;refine NoPanic.normal ?_;go_wp2;go_end0;exact⟨rfl,⟨_,HQ.out⟩,HFR.out⟩
 ·go_simp;refine (HT.out _ (drewN_below w.heap.size w 1)).mono ?_;rintro e w10 ⟨rfl,hb10⟩;have HB10:=zH (bstep (drewN_below w.heap.size w 1) hb10);go_wp2_with fail;refine tkK hK (HSS.out _ HB10.out) fun hHeld=>?_
  clear hK K;refine tkZ 12 ?_;refine tkR2 4 13 (fun K hK=>?_) fun K hK=>?_
  ·have hc4:(w10).cell? ⟨R,0,none⟩=some fv:=((HPT.out.below HB10.out).blk.cells 0)
   go_simp;go_wp2_with fail;refine tkK hK (HSS.out _ HB10.out) fun hHeld=>?_
   clear hK K;refine tkR 13 fun K hK=>?_
   go_simp;go_wp2_with fail;refine tkK hK (HSS.out _ (HB10.out.alloc HB10.out.size _)) fun hHeld=>?_
   clear hK K;refine tkR 14 fun K hK=>?_
   have HP:=zH (HPT.out.below HB10.out);refine step_push_at w10 #[.string nm,.bool tt,.int .i64 tm,.int .i64 td] (by rfl) _ _ 24 (by rfl) (R+1) 52 (.agg #[.string ⟨#[]⟩,.bool false,.int .i64 0,.int .i64 0]) 4 40 1 Tryz.underlying24 info_decl rfl (by decide) fv l.facts.length (l.facts.flatMap Dc.cells) (by rfl) HP.out.f (by rfl) rfl ?_ ?_ ?_ ?_ ?_
   any_goals first|(unfold maxLen;omega)|omega
   ·intro u hu;simp only[List.mem_cons,List.not_mem_nil,or_false] at hu;rcases hu with rfl|rfl|rfl|rfl<;>rfl
   ·have h1:=HP.out.bl.size;have h2:=HP.out.blk.lt;omega
   intro v' w11 hown hgr _;obtain⟨Av,cv,rfl,_⟩:=own_rd hown;have HQ:=zH (HP.out.pushF ⟨nm,⟨tt,tm,td⟩⟩ hown hgr);have HK:=zH ((TF.grown HP.out.f hgr).blk HP.out.blk (by decide));have HG2:Hid (w11.cell? ⟨g,1,none⟩=some (.string nm)∧w11.cell? ⟨g,2,none⟩=some (.string s)):=HGR.out _ _ HB10.out (TF.grown HP.out.f hgr);have HFR:Hid (FR R w _):=FR.grown (i:=0) (u:=.slice Av (l.facts.length+1) cv) HB10.out HP.out.f (.inl rfl) hgr;clear hown hgr;refine tkK hK (HG2.out) fun hHeld=>?_
   clear hK K;refine tkZ 15 ?_;refine tkZ 16 ?_;refine tkR 17 fun K hK=>?_
   have hkc:=HK.out.cells;have hkf:=HK.out.froz;go_simp;go_wp2_with fail;refine tkK hK (⟨by rw[World.cell?_setCell_other _ _ _ _ (by simp[HRG.out])];exact HG2.out.1,by rw[World.cell?_setCell_other _ _ _ _ (by simp[HRG.out])];exact HG2.out.2⟩) fun hHeld=>?_
   clear hK K;refine wpAnyH_done (by kernel_rfl) ?_ _;refine NoPanic.normal ?_;go_wp2;go_end0;exact⟨rfl,⟨_,HQ.out⟩,HFR.out⟩
  ·go_simp;go_wp2_with fail;refine tkK hK (HSS.out _ (HB10.out.alloc HB10.out.size _)) fun hHeld=>?_
   clear hK K;refine tkR 4 fun K hK=>?_
   have hc4:(w10.alloc (.cells #[.string nm,.bool tt,.int .i64 tm,.int .i64 td] 52)).cell? ⟨R,0,none⟩=some fv:=((HPT.out.below (HB10.out.alloc HB10.out.size (.cells #[.string nm,.bool tt,.int .i64 tm,.int .i64 td] 52))).blk.cells 0)
   go_simp;go_wp2_with fail;refine tkK hK (HSS.out _ (HB10.out.alloc HB10.out.size _)) fun hHeld=>?_
   clear hK K;refine tkR 14 fun K hK=>?_
   have HP:=zH (HPT.out.below HB10.out);refine step_push_at w10 #[.string nm,.bool tt,.int .i64 tm,.int .i64 td] (by rfl) _ _ 24 (by rfl) (R+1) 52 (.agg #[.string ⟨#[]⟩,.bool false,.int .i64 0,.int .i64 0]) 4 40 1 Tryz.underlying24 info_decl rfl (by decide) fv l.facts.length (l.facts.flatMap Dc.cells) (by rfl) HP.out.f (by rfl) rfl ?_ ?_ ?_ ?_ ?_
   any_goals first|(unfold maxLen;omega)|omega
   ·intro u hu;simp only[List.mem_cons,List.not_mem_nil,or_false] at hu;rcases hu with rfl|rfl|rfl|rfl<;>rfl
   ·have h1:=HP.out.bl.size;have h2:=HP.out.blk.lt;omega
   intro v' w11 hown hgr _;obtain⟨Av,cv,rfl,_⟩:=own_rd hown;have HQ:=zH (HP.out.pushF ⟨nm,⟨tt,tm,td⟩⟩ hown hgr);have HK:=zH ((TF.grown HP.out.f hgr).blk HP.out.blk (by decide));have HG2:Hid (w11.cell? ⟨g,1,none⟩=some (.string nm)∧w11.cell? ⟨g,2,none⟩=some (.string s)):=HGR.out _ _ HB10.out (TF.grown HP.out.f hgr);have HFR:Hid (FR R w _):=FR.grown (i:=0) (u:=.slice Av (l.facts.length+1) cv) HB10.out HP.out.f (.inl rfl) hgr;clear hown hgr;refine tkK hK (HG2.out) fun hHeld=>?_
   clear hK K;refine tkZ 15 ?_;refine tkZ 16 ?_;refine tkR 17 fun K hK=>?_
   have hkc:=HK.out.cells;have hkf:=HK.out.froz;go_simp;go_wp2_with fail;refine tkK hK (⟨by rw[World.cell?_setCell_other _ _ _ _ (by simp[HRG.out])];exact HG2.out.1,by rw[World.cell?_setCell_other _ _ _ _ (by simp[HRG.out])];exact HG2.out.2⟩) fun hHeld=>?_
   clear hK K;refine wpAnyH_done (by kernel_rfl) ?_ _;refine NoPanic.normal ?_;go_wp2;go_end0;exact⟨rfl,⟨_,HQ.out⟩,HFR.out⟩
def FineTy (t:Ty):Prop:=(-1000≤t.money∧t.money≤1000)∧(-1000≤t.days∧t.days≤1000)∧FineR (ofI t.money)∧FineR (ofI t.days)
structure FineT (l:Lw):Prop where
 f:∀d∈l.facts,FineTy d.ty
 s:∀x∈l.schs,FineTy ⟨false,x.money,x.days⟩
 p:∀x∈l.provs,FineTy x.ty
 b:∀x∈l.schs,x.brs.length≤1000
structure TX (b:Nat) (w0 W:World) (tot R:List UInt8) (X:World):Prop where
 t:∃t0,WS w0.heap.size b w0 X t0∧t0++R=tot
 f:BF b W X
section
variable {b:Nat} {w0 W W2 X X':World} {tot R R':List UInt8}
theorem TX.bl (h:TX b w0 W tot R X):Below w0.heap.size w0 X:=let ⟨_,h1,_⟩:=h.t;h1.bl
theorem TX.lt (h:TX b w0 W tot R X):b<X.heap.size:=let ⟨_,h1,_⟩:=h.t;h1.lt
theorem TX.grow (h:TX b w0 W tot R X) (hb:Below X.heap.size X X'):TX b w0 W tot R X':=let ⟨t0,h1,h2⟩:=h.t;⟨⟨t0,h1.grow hb,h2⟩,h.f.trans (BF.of_below hb)⟩
theorem TX.here (h:TX b w0 W tot R X):TX b w0 X tot R X:=⟨h.t,BF.refl _ _⟩
theorem TX.back (h:TX b w0 X tot R X') (hf:BF b W X):TX b w0 W tot R X':=⟨h.t,hf.trans h.f⟩
theorem TX.as (h:TX b w0 W tot R X) (e:R=R'):TX b w0 W tot R' X:=e ▸ h
theorem TX.words (l:List ByteArray) (h:TX b w0 W tot (bytesL l++R) X) (ht:tot.length≤10000000000000) (hm:l.length≤1000:=by simp) (h0:l≠[]:=by simp):
  Calls Tryz.prog 50 #[.pointer (some ⟨b,0,none⟩),.slice (some ⟨X.heap.size,0,none⟩) l.length l.length] (X.alloc (.cells (strs l).toArray 9)) fun e X'=>e=.returned (.tuple #[])∧TX b w0 W tot R X'∧BF b X X':=by
 obtain⟨t0,h1,h2⟩:=h.t;have hb:=zB X (.cells (strs l).toArray 9);refine ((h1.grow hb).words l X.heap.size l.length (Blk.new X _ _) h1.lt rfl hm h0 (by have:=congrArg List.length h2;simp only[List.length_append] at this;omega)).mono ?_;rintro e X' ⟨rfl,hx,hf⟩;have hf':=(BF.of_below (b:=b) hb).trans hf;exact⟨rfl,⟨⟨_,hx,by rw[List.append_assoc];exact h2⟩,h.f.trans hf'⟩,hf'⟩
end
theorem fm_drop {α:Type} (f:α→List UInt8) {l:List α} {j:Nat} (h:j<l.length):(l.drop j).flatMap f=f l[j]++(l.drop (j+1)).flatMap f:=by rw[List.drop_eq_getElem_cons h,List.flatMap_cons]
theorem bk_drop {l:List Bk} {j:Nat} (h:j<l.length):bksL j (l.drop j)=bytesL (bkW j l[j])++bksL (j+1) (l.drop (j+1)):=by rw[List.drop_eq_getElem_cons h];rfl
theorem uWLaw_any (l:Lw) (ss:List (Sc × Hd)) (ps:List (Pv × Hd)) (f s p:Hd) (B b:Nat) (w0 w:World) (bs:List UInt8) (hS:WS B b w0 w bs) (hB0:B=w0.heap.size) (hL:LaidK w0) (h:LawAt w0 l ss ps f s p) (hf:FineL l) (hT:FineT l) (hlen:bs.length+(textL l).length≤10000000000000):
  Calls Tryz.prog 22 #[.pointer (some ⟨b,0,none⟩),lawV f s p] w fun e w'=>e=.returned (.tuple #[])∧WS B b w0 w' (bs++textL l):=by
 subst hB0;obtain⟨fa,fn,fc⟩:=f;obtain⟨sa,sn,sc⟩:=s;obtain⟨pa,pn,pc⟩:=p;have hfn:fn≤1000:=by have:=h.f.len;have:=hf.fn;simp only at*;omega
 have hsn:sn≤1000:=by have h1:=h.s.len;have h2:=congrArg List.length h.sl;have:=hf.sn;rw[List.length_map] at h2;simp only at*;omega
 have hpn:pn≤1000:=by have h1:=h.p.len;have h2:=congrArg List.length h.pl;have:=hf.pn;rw[List.length_map] at h2;simp only at*;omega
 have hlt:(bs++textL l).length≤10000000000000:=by rw[List.length_append];exact hlen
 obtain⟨tot,htot⟩:=zE (bs++textL l);rw[←htot] at hlt⊢;have hX:TX b w0 w tot (l.facts.flatMap declL++(l.schs.flatMap schL++l.provs.flatMap pvL)) w:=⟨⟨bs,hS,by rw[htot];unfold textL;simp only[List.append_assoc]⟩,BF.refl _ _⟩
 clear htot hlen hS;unfold lawV;go_enter Tryz.func22,Tryz.ntmps22
 go_upto_region 1 with fail
 generalize hW:w.alloc _=W;obtain⟨hQ,hg⟩:=zA hW;have hne:w.heap.size≠b:=by have:=hX.lt;omega
 replace hX:=(hX.grow hg).here;have hc:=fun (X:World) (k:BF b W X)=>show X.cell? ⟨w.heap.size,0,none⟩=some (Value.slice fa fn fc)∧X.cell? ⟨w.heap.size,1,none⟩=some (Value.slice sa sn sc)∧X.cell? ⟨w.heap.size,2,none⟩=some (Value.slice pa pn pc) from⟨(k.blk hQ (by decide) hne).cells 0,(k.blk hQ (by decide) hne).cells 1,(k.blk hQ (by decide) hne).cells 2⟩
 clear hW hQ hg hne;generalize w.heap.size=Q at hc⊢;have hW:=BF.refl b W;go_wp2
 go_loopg [17] fn (fun g iv wr=>∃j:Nat,j+g=fn∧iv=.int .i64 j∧TX b w0 W tot ((l.facts.drop j).flatMap declL++(l.schs.flatMap schL++l.provs.flatMap pvL)) wr)
 case atStart=>exact⟨0,by omega,rfl,hX⟩
 case round=>
  clear hX hW;obtain⟨j,hj,rfl,hX⟩:=hrel;have hW:=hX.f;by_cases hlj:j<fn
  ·have hbl:=hX.bl;obtain⟨bb,off,nm,t,m,d,rfl,_,hx,hxe,hd⟩:=dc_at h.f hlj;have hty:=hT.f _ (List.getElem_mem hx);rw[hxe] at hty;replace hX:=hX.as (R':=bytesL [sFact,nm,sSp,tyText ⟨t,m,d⟩,sNl]++((l.facts.drop (j+1)).flatMap declL++(l.schs.flatMap schL++l.provs.flatMap pvL))) (by rw[fm_drop declL hx,hxe,List.append_assoc];rfl);clear hxe
   go_upto_region 4 with fail
   generalize hY:wr.alloc _=Y;obtain⟨hK,hg⟩:=zA hY;have hne:wr.heap.size≠b:=by have:=hX.lt;omega
   have hk:=fun (X:World) (k:BF b Y X)=>show X.cell? ⟨wr.heap.size,0,none⟩=some (.string nm)∧X.cell? ⟨wr.heap.size,1,none⟩=some (.bool t)∧X.cell? ⟨wr.heap.size,2,none⟩=some (.int .i64 m)∧X.cell? ⟨wr.heap.size,3,none⟩=some (.int .i64 d) from⟨(k.blk hK (by decide) hne).cells 0,(k.blk hK (by decide) hne).cells 1,(k.blk hK (by decide) hne).cells 2,(k.blk hK (by decide) hne).cells 3⟩
   replace hW:=hW.trans (BF.of_below hg);replace hX:=(hX.grow hg).here;clear hY hK hg hne hd hbl;generalize wr.heap.size=K at hk⊢;refine reS (BF b Y) 99 (BF.of_below (drewN_below _ _ 1)) (fun w1 h1 hS=>?_);replace hX:=hX.grow h1
   iterate 5 refine reA ?_
   refine reC 5 (uTypeText_any ⟨t,m,d⟩ w1 (hL.below hX.bl) hty.1 hty.2.1 hty.2.2.1 hty.2.2.2) ?_;rintro e w2 ⟨rfl,hb2⟩;replace hX:=hX.grow hb2;refine⟨_,rfl,hX.f,fun hS=>?_⟩;refine reV 6 (fun _=>hS.trans (BF.of_below (zB _ _))) (fun _=>?_);refine reC 7 (TX.words [sFact,nm,sSp,tyText ⟨t,m,d⟩,sNl] hX hlt) ?_;rintro e w3 ⟨rfl,hX,_⟩;refine⟨_,rfl,hX.f,fun hS=>?_⟩;refine reE ?_;go_wp2
   go_roundg (fn-(j+1))
   case measure=>omega
   case rel=>exact⟨j+1,by omega,by go_num,hX.back hW⟩
  ·replace hX:=hX.as (R':=l.schs.flatMap schL++l.provs.flatMap pvL) (by rw[List.drop_of_length_le (by have:=h.f.len;simp only at this;omega)];rfl);go_wp2
   go_loopg [33] sn (fun g iv wr=>∃j:Nat,j+g=sn∧iv=.int .i64 j∧TX b w0 W tot ((l.schs.drop j).flatMap schL++l.provs.flatMap pvL) wr)
   case atStart=>exact⟨0,by omega,rfl,hX⟩
   case round=>
    clear hX hW;obtain⟨j,hj,rfl,hX⟩:=hrel;have hW:=hX.f;by_cases hlj:j<sn
    ·have hbl:=hX.bl;obtain⟨bb,off,nm,m,d,brs,⟨ha,hn,hcc⟩,rfl,_,hx,hxe,hd⟩:=sc_at h.s hlj;have hxl:j<l.schs.length:=by rw[←h.sl,List.length_map];exact hx
     have hle:l.schs[j]=⟨nm,m,d,brs⟩:=by have e:=h.sl;simp[←e,hxe]
     have hmem:=List.getElem_mem hxl;rw[hle] at hmem;have hty:=hT.s _ hmem;have hbn:=hT.b _ hmem;have hbf:=hf.sb _ hmem;have hbr:RowAt w0 Bk.cells brs ⟨ha,hn,hcc⟩:=by have:=h.sb _ (List.getElem_mem hx);rw[hxe] at this;exact this
     have hhn:hn≤1000:=by have:=hbr.len;simp only at this hbn;omega
     simp only at hty hbn;obtain⟨R,hR⟩:=zE ((l.schs.drop (j+1)).flatMap schL++l.provs.flatMap pvL);replace hX:=hX.as (R':=bytesL [sSch,nm,sSp,tyText ⟨false,m,d⟩]++(bksL 0 (brs.drop 0)++(bytesL [sNl]++R))) (by rw[fm_drop schL hxl,hle,hR];unfold schL schW;simp only[List.append_assoc,List.drop_zero]);clear hxe hle hmem
     go_upto_region 9 with fail
     generalize hZ:wr.alloc _=Y;obtain⟨hK,hg⟩:=zA hZ;have hne:wr.heap.size≠b:=by have:=hX.lt;omega
     have hk:=fun (X:World) (k:BF b Y X)=>show X.cell? ⟨wr.heap.size,0,none⟩=some (.string nm)∧X.cell? ⟨wr.heap.size,1,none⟩=some (.int .i64 m)∧X.cell? ⟨wr.heap.size,2,none⟩=some (.int .i64 d)∧X.cell? ⟨wr.heap.size,3,none⟩=some (.slice ha hn hcc) from⟨(k.blk hK (by decide) hne).cells 0,(k.blk hK (by decide) hne).cells 1,(k.blk hK (by decide) hne).cells 2,(k.blk hK (by decide) hne).cells 3⟩
     replace hW:=hW.trans (BF.of_below hg);replace hX:=(hX.grow hg).here;clear hZ hK hg hne hd hbl;generalize wr.heap.size=K at hk⊢;refine reS (BF b Y) 99 (BF.of_below (drewN_below _ _ 1)) (fun w1 h1 hS=>?_);replace hX:=hX.grow h1
     iterate 6 refine reA ?_
     refine reC 6 (uTypeText_any ⟨false,m,d⟩ w1 (hL.below hX.bl) hty.1 hty.2.1 hty.2.2.1 hty.2.2.2) ?_;rintro e w2 ⟨rfl,hb2⟩;replace hX:=hX.grow hb2;refine⟨_,rfl,hX.f,fun hS=>?_⟩;refine reV 7 (fun _=>hS.trans (BF.of_below (zB _ _))) (fun _=>?_);refine reC 8 (TX.words [sSch,nm,sSp,tyText ⟨false,m,d⟩] hX hlt) ?_;rintro e w3 ⟨rfl,hX,_⟩;refine⟨_,rfl,hX.f,fun hS=>?_⟩;refine reE ?_;have hY:=hX.f;go_wp2
     go_loopg [49] hn (fun g iv wr=>∃q:Nat,q+g=hn∧iv=.int .i64 q∧TX b w0 Y tot (bksL q (brs.drop q)++(bytesL [sNl]++R)) wr)
     case atStart=>exact⟨0,by omega,rfl,hX⟩
     case round=>
      clear hX hY;obtain⟨q,hq,rfl,hX⟩:=hrel;have hY:=hX.f;by_cases hlq:q<hn
      ·have hbl:=hX.bl;obtain⟨b2,off2,rfl,_,hx2,hd0⟩:=hbr.at 6 (fun _=>rfl) (by omega) hlq;obtain⟨x,hx⟩:=zE brs[q]
       have hd:=fun (X:World) (k:Below w0.heap.size w0 X)=>show X.cell? ⟨b2,off2+q*6,none⟩=some (.bool x.fr.neg)∧X.cell? ⟨b2,off2+q*6+1,none⟩=some (.string x.fr.num)∧X.cell? ⟨b2,off2+q*6+2,none⟩=some (.string x.fr.den)∧X.cell? ⟨b2,off2+q*6+3,none⟩=some (.bool x.rt.neg)∧X.cell? ⟨b2,off2+q*6+4,none⟩=some (.string x.rt.num)∧X.cell? ⟨b2,off2+q*6+5,none⟩=some (.string x.rt.den) from by
        rw[hx];exact⟨hd0 X k 0 _ rfl,hd0 X k 1 _ rfl,hd0 X k 2 _ rfl,hd0 X k 3 _ rfl,hd0 X k 4 _ rfl,hd0 X k 5 _ rfl⟩
       have hfx:=hbf _ (List.getElem_mem hx2);rw[←hx] at hfx;replace hX:=hX.as (R':=bytesL [sSep q,sSp,textR x.fr,sSp,textR x.rt]++(bksL (q+1) (brs.drop (q+1))++(bytesL [sNl]++R))) (by rw[bk_drop hx2,←hx,List.append_assoc];rfl);clear hd0 hx
       go_upto_region 13 with fail
       generalize hZ:wr.alloc _=Y2;obtain⟨hK,hg⟩:=zA hZ;have hne:wr.heap.size≠b:=by have:=hX.lt;omega
       have hk2:=fun (X:World) (k:BF b Y2 X)=>show X.cell? ⟨wr.heap.size,0,none⟩=some (.bool x.fr.neg)∧X.cell? ⟨wr.heap.size,1,none⟩=some (.string x.fr.num)∧X.cell? ⟨wr.heap.size,2,none⟩=some (.string x.fr.den)∧X.cell? ⟨wr.heap.size,3,none⟩=some (.bool x.rt.neg)∧X.cell? ⟨wr.heap.size,4,none⟩=some (.string x.rt.num)∧X.cell? ⟨wr.heap.size,5,none⟩=some (.string x.rt.den) from⟨(k.blk hK (by decide) hne).cells 0,(k.blk hK (by decide) hne).cells 1,(k.blk hK (by decide) hne).cells 2,(k.blk hK (by decide) hne).cells 3,(k.blk hK (by decide) hne).cells 4,(k.blk hK (by decide) hne).cells 5⟩
       replace hY:=hY.trans (BF.of_below hg);replace hX:=(hX.grow hg).here;clear hZ hK hg hne hd hbl
       obtain⟨mm,hmn,hm2,hsp⟩:∃mm:Nat,min (q:Int) 1=(mm:Int)∧mm<2∧([.string ⟨#[58]⟩,.string ⟨#[44]⟩]:List Value)[mm]?=some (.string (sSep q)):=by
        by_cases h0:q=0
        ·subst h0;exact⟨0,rfl,by omega,rfl⟩
        ·exact⟨1,by omega,by omega,by unfold sSep;rw[if_neg h0];rfl⟩
       have mm0:(0:Int)≤(mm:Int):=by omega
       have mm1:(mm:Int)<2:=by omega
       generalize wr.heap.size=K at hk2⊢;refine reS (BF b Y2) 99 (BF.of_below (drewN_below _ _ 1)) (fun w1 h1 hS=>?_);replace hX:=hX.grow h1;clear h1;refine reZ 0 ?_;refine reZ 2 ?_;refine reZ 3 ?_;refine reZ 6 ?_;refine reZ 7 ?_;refine reZ 9 ?_;refine reZ 10 ?_;refine reTwo 1 8 (opV (fun _=>hS.trans (BF.of_below (zB _ _))) (fun hS=>?_)) (opC (qText_any x.fr _ (hL.below hX.bl).e.base hfx.1.1 hfx.1.2) ?_)
       ·have hzb:w1.heap.size≠b:=by have:=hX.lt;omega
        generalize hZ:w1.alloc _=w9 at hS⊢;obtain⟨hk9,hg9⟩:=zA hZ;replace hX:=hX.grow hg9;have hz9:=fun (X:World) (k:BF b Y2 X∧Blk X w1.heap.size 9 [.string ⟨#[58]⟩,.string ⟨#[44]⟩])=>show X.cell? ⟨w1.heap.size,mm,none⟩=some (.string (sSep q)) from by rw[k.2.cells mm];exact hsp
        refine reM (fun X=>BF b Y2 X∧Blk X w1.heap.size 9 [.string ⟨#[58]⟩,.string ⟨#[44]⟩]) ⟨hS,hk9⟩ (fun _ h=>h.1) (fun hS=>?_);clear hZ hk9 hg9;generalize w1.heap.size=Z at hz9 hS hzb⊢;refine reZ 4 ?_;refine reZ 5 ?_;refine reC 8 (qText_any x.fr _ (hL.below hX.bl).e.base hfx.1.1 hfx.1.2) ?_;rintro e w2 ⟨rfl,hb2⟩;replace hX:=hX.grow hb2;refine⟨_,rfl,⟨hS.1.trans (BF.of_below hb2),hS.2.below hb2 hS.2.lt⟩,fun hS=>?_⟩;clear hb2;refine reC 11 (qText_any x.rt _ (hL.below hX.bl).e.base hfx.2.1 hfx.2.2) ?_;rintro e w2 ⟨rfl,hb2⟩;replace hX:=hX.grow hb2;refine⟨_,rfl,⟨hS.1.trans (BF.of_below hb2),hS.2.below hb2 hS.2.lt⟩,fun hS=>?_⟩;clear hb2;refine reV 12 (fun _=>⟨hS.1.trans (BF.of_below (zB _ _)),hS.2.alloc _⟩) (fun _=>?_);refine reC 13 (TX.words [sSep q,sSp,textR x.fr,sSp,textR x.rt] hX hlt) ?_;rintro e w5 ⟨rfl,hX,hf5⟩;refine⟨_,rfl,⟨hX.f,(hf5.blk (hS.2) (by decide) hzb)⟩,fun hS=>?_⟩;refine reE ?_;go_wp2
        go_roundg (hn-(q+1))
        case measure=>omega
        case rel=>exact⟨q+1,by omega,by go_num,hX.back hY⟩
       ·rintro e w2 ⟨rfl,hb2⟩;replace hX:=hX.grow hb2;refine⟨_,rfl,hS.trans (BF.of_below hb2),fun hS=>?_⟩;clear hb2;refine reTwo 1 11 (opV (fun _=>hS.trans (BF.of_below (zB _ _))) (fun hS=>?_)) (opC (qText_any x.rt _ (hL.below hX.bl).e.base hfx.2.1 hfx.2.2) ?_)
        ·have hzb:w2.heap.size≠b:=by have:=hX.lt;omega
         generalize hZ:w2.alloc _=w9 at hS⊢;obtain⟨hk9,hg9⟩:=zA hZ;replace hX:=hX.grow hg9;have hz9:=fun (X:World) (k:BF b Y2 X∧Blk X w2.heap.size 9 [.string ⟨#[58]⟩,.string ⟨#[44]⟩])=>show X.cell? ⟨w2.heap.size,mm,none⟩=some (.string (sSep q)) from by rw[k.2.cells mm];exact hsp
         refine reM (fun X=>BF b Y2 X∧Blk X w2.heap.size 9 [.string ⟨#[58]⟩,.string ⟨#[44]⟩]) ⟨hS,hk9⟩ (fun _ h=>h.1) (fun hS=>?_);clear hZ hk9 hg9;generalize w2.heap.size=Z at hz9 hS hzb⊢;refine reZ 4 ?_;refine reZ 5 ?_;refine reC 11 (qText_any x.rt _ (hL.below hX.bl).e.base hfx.2.1 hfx.2.2) ?_;rintro e w2 ⟨rfl,hb2⟩;replace hX:=hX.grow hb2;refine⟨_,rfl,⟨hS.1.trans (BF.of_below hb2),hS.2.below hb2 hS.2.lt⟩,fun hS=>?_⟩;clear hb2;refine reV 12 (fun _=>⟨hS.1.trans (BF.of_below (zB _ _)),hS.2.alloc _⟩) (fun _=>?_);refine reC 13 (TX.words [sSep q,sSp,textR x.fr,sSp,textR x.rt] hX hlt) ?_;rintro e w5 ⟨rfl,hX,hf5⟩;refine⟨_,rfl,⟨hX.f,(hf5.blk (hS.2) (by decide) hzb)⟩,fun hS=>?_⟩;refine reE ?_;go_wp2
         go_roundg (hn-(q+1))
         case measure=>omega
         case rel=>exact⟨q+1,by omega,by go_num,hX.back hY⟩
        ·rintro e w2 ⟨rfl,hb2⟩;replace hX:=hX.grow hb2;refine⟨_,rfl,hS.trans (BF.of_below hb2),fun hS=>?_⟩;clear hb2;refine reV 1 (fun _=>hS.trans (BF.of_below (zB _ _))) (fun hS=>?_);have hzb:w2.heap.size≠b:=by have:=hX.lt;omega
         generalize hZ:w2.alloc _=w9 at hS⊢;obtain⟨hk9,hg9⟩:=zA hZ;replace hX:=hX.grow hg9;have hz9:=fun (X:World) (k:BF b Y2 X∧Blk X w2.heap.size 9 [.string ⟨#[58]⟩,.string ⟨#[44]⟩])=>show X.cell? ⟨w2.heap.size,mm,none⟩=some (.string (sSep q)) from by rw[k.2.cells mm];exact hsp
         refine reM (fun X=>BF b Y2 X∧Blk X w2.heap.size 9 [.string ⟨#[58]⟩,.string ⟨#[44]⟩]) ⟨hS,hk9⟩ (fun _ h=>h.1) (fun hS=>?_);clear hZ hk9 hg9;generalize w2.heap.size=Z at hz9 hS hzb⊢;refine reZ 4 ?_;refine reZ 5 ?_;refine reV 12 (fun _=>⟨hS.1.trans (BF.of_below (zB _ _)),hS.2.alloc _⟩) (fun _=>?_);refine reC 13 (TX.words [sSep q,sSp,textR x.fr,sSp,textR x.rt] hX hlt) ?_;rintro e w5 ⟨rfl,hX,hf5⟩;refine⟨_,rfl,⟨hX.f,(hf5.blk (hS.2) (by decide) hzb)⟩,fun hS=>?_⟩;refine reE ?_;go_wp2
         go_roundg (hn-(q+1))
         case measure=>omega
         case rel=>exact⟨q+1,by omega,by go_num,hX.back hY⟩
      ·replace hX:=hX.as (R':=bytesL [sNl]++R) (by rw[List.drop_of_length_le (by have:=hbr.len;simp only at this;omega)];rfl);go_wp2_with fail;refine (TX.words [sNl] hX hlt).mono ?_;rintro e w3 ⟨rfl,hX,_⟩;go_wp2
       go_roundg (sn-(j+1))
       case measure=>omega
       case rel=>exact⟨j+1,by omega,by go_num,(hX.as hR).back hW⟩
    ·replace hX:=hX.as (R':=l.provs.flatMap pvL) (by rw[List.drop_of_length_le (by have h1:=h.s.len;have h2:=congrArg List.length h.sl;rw[List.length_map] at h2;simp only at h1;omega)];rfl);go_wp2
     go_loopg [76] pn (fun g iv wr=>∃j:Nat,j+g=pn∧iv=.int .i64 j∧TX b w0 W tot ((l.provs.drop j).flatMap pvL) wr)
     case atStart=>exact⟨0,by omega,rfl,hX⟩
     case round=>
      clear hX hW;obtain⟨j,hj,rfl,hX⟩:=hrel;have hW:=hX.f;by_cases hlj:j<pn
      ·have hbl:=hX.bl;obtain⟨bb,off,x,rfl,_,hx,hxe,hd⟩:=pv_at h.p hlj;have hxl:j<l.provs.length:=by rw[←h.pl,List.length_map];exact hx
       have hle:l.provs[j]=x.1:=by have e:=h.pl;simp[←e,hxe]
       have hmem:=List.getElem_mem hxl;rw[hle] at hmem;have hty:=hT.p _ hmem;have hfp:=hf.pb _ hmem;have hbr:RowAt w0 Nd.cells x.1.body x.2:=by have:=h.pb _ (List.getElem_mem hx);rw[hxe] at this;exact this
       obtain⟨R,hR⟩:=zE ((l.provs.drop (j+1)).flatMap pvL);replace hX:=hX.as (R':=bytesL [sPrv,x.1.name,sSp,tyText x.1.ty]++((if x.1.charge then bytesL [sChg] else [])++((if plainP x.1 then [] else bytesL [sStp,textR x.1.step,sCap,textR x.1.cap])++(bytesL [sCs,bodyT x.1.body,sNl]++R)))) (by rw[fm_drop pvL hxl,hle,hR];unfold pvL pvW stW;simp only[List.append_assoc]);clear hxe hle hmem
       go_upto_region 20 with fail
       generalize hZ:wr.alloc _=Y;obtain⟨hK,hg⟩:=zA hZ;have hne:wr.heap.size≠b:=by have:=hX.lt;omega
       have hk:=fun (X:World) (k:BF b Y X)=>show X.cell? ⟨wr.heap.size,0,none⟩=some (.string x.1.name)∧X.cell? ⟨wr.heap.size,1,none⟩=some (.bool x.1.ty.truth)∧X.cell? ⟨wr.heap.size,2,none⟩=some (.int .i64 x.1.ty.money)∧X.cell? ⟨wr.heap.size,3,none⟩=some (.int .i64 x.1.ty.days)∧X.cell? ⟨wr.heap.size,4,none⟩=some (.slice x.2.a x.2.n x.2.c)∧X.cell? ⟨wr.heap.size,5,none⟩=some (.bool x.1.charge)∧X.cell? ⟨wr.heap.size,6,none⟩=some (.bool x.1.step.neg)∧X.cell? ⟨wr.heap.size,7,none⟩=some (.string x.1.step.num)∧X.cell? ⟨wr.heap.size,8,none⟩=some (.string x.1.step.den)∧X.cell? ⟨wr.heap.size,9,none⟩=some (.bool x.1.cap.neg)∧X.cell? ⟨wr.heap.size,10,none⟩=some (.string x.1.cap.num)∧X.cell? ⟨wr.heap.size,11,none⟩=some (.string x.1.cap.den) from⟨(k.blk hK (by decide) hne).cells 0,(k.blk hK (by decide) hne).cells 1,(k.blk hK (by decide) hne).cells 2,(k.blk hK (by decide) hne).cells 3,(k.blk hK (by decide) hne).cells 4,(k.blk hK (by decide) hne).cells 5,(k.blk hK (by decide) hne).cells 6,(k.blk hK (by decide) hne).cells 7,(k.blk hK (by decide) hne).cells 8,(k.blk hK (by decide) hne).cells 9,(k.blk hK (by decide) hne).cells 10,(k.blk hK (by decide) hne).cells 11⟩
       replace hW:=hW.trans (BF.of_below hg);replace hX:=(hX.grow hg).here;clear hZ hK hg hne hd hbl;generalize wr.heap.size=K at hk⊢;refine reS (BF b Y) 99 (BF.of_below (drewN_below _ _ 1)) (fun w1 h1 hS=>?_);replace hX:=hX.grow h1
       iterate 5 refine reA ?_
       refine reC 5 (uTypeText_any x.1.ty w1 (hL.below hX.bl) hty.1 hty.2.1 hty.2.2.1 hty.2.2.2) ?_;rintro e w2 ⟨rfl,hb2⟩;replace hX:=hX.grow hb2;refine⟨_,rfl,hX.f,fun hS=>?_⟩;refine reV 6 (fun _=>hS.trans (BF.of_below (zB _ _))) (fun _=>?_);refine reC 7 (TX.words [sPrv,x.1.name,sSp,tyText x.1.ty] hX hlt) ?_;rintro e w3 ⟨rfl,hX,_⟩;refine⟨_,rfl,hX.f,fun hS=>?_⟩;refine reE ?_;have hkw:=hk _ hX.f
       go_upto_if 89 with fail
       go_cut [] from 77 to 92 (fun X=>TX b w0 Y tot ((if plainP x.1 then [] else bytesL [sStp,textR x.1.step,sCap,textR x.1.cap])++(bytesL [sCs,bodyT x.1.body,sNl]++R)) X)
       case first=>
        cases hch:x.1.charge
        ·rw[hch] at hX;go_wp2
         go_meet
         case rel=>exact hX
        ·rw[hch] at hX;go_wp2_with fail;refine (TX.words [sChg] hX hlt).mono ?_;rintro e w4 ⟨rfl,hX,_⟩;go_wp2
         go_meet
         case rel=>exact hX
       case rest=>
        clear hX hkw;have hX:=hcut;clear hcut;have hkw:=hk _ hX.f;go_wp2_with fail;refine (uPlain_any x wc).mono ?_;rintro e w4 ⟨rfl,hb4⟩;replace hX:=hX.grow hb4;clear hkw hb4
        go_upto_if 95 with fail
        go_cut [] from 93 to 104 (fun X=>TX b w0 Y tot (bytesL [sCs,bodyT x.1.body,sNl]++R) X)
        case first=>
         cases hpl:plainP x.1
         ·rw[hpl] at hX;go_wp2;refine reS (BF b Y) 99 (hX.f.trans (BF.of_below (drewN_below _ _ 1))) (fun w1 h1 hS=>?_);replace hX:=hX.grow h1;refine reZ 0 ?_;refine reZ 1 ?_;refine reZ 2 ?_;refine reZ 4 ?_;refine reZ 5 ?_;refine reC 3 (qText_any x.1.step _ (hL.below hX.bl).e.base hfp.1.1 hfp.1.2) ?_;rintro e w5 ⟨rfl,hb5⟩;replace hX:=hX.grow hb5;refine⟨_,rfl,hX.f,fun hS=>?_⟩;refine reC 6 (qText_any x.1.cap _ (hL.below hX.bl).e.base hfp.2.1.1 hfp.2.1.2) ?_;rintro e w6 ⟨rfl,hb6⟩;replace hX:=hX.grow hb6;refine⟨_,rfl,hX.f,fun hS=>?_⟩;refine reV 7 (fun _=>hS.trans (BF.of_below (zB _ _))) (fun _=>?_);refine reC 8 (TX.words [sStp,textR x.1.step,sCap,textR x.1.cap] hX hlt) ?_;rintro e w7 ⟨rfl,hX,_⟩;refine⟨_,rfl,hX.f,fun hS=>?_⟩;refine reE ?_;go_wp2
          go_meet
          case rel=>exact hX
         ·rw[hpl] at hX;go_wp2
          go_meet
          case rel=>exact hX
        case rest=>
         clear hX;have hX:=hcut;clear hcut;have hkw:=hk _ hX.f;go_wp2_with fail;refine ((eText_any x.1.body x.2.a x.2.n x.2.c wc (hL.below hX.bl).e (let r:=hbr.below hX.bl;⟨r.len,r.cap,r.max,r.rd⟩) hfp.2.2).mono fun e w' h=>(⟨⟨_,h.1⟩,h.2⟩:(∃z,e=.returned (.tuple #[.string (bodyT x.1.body),.int .i64 z]))∧Below wc.heap.size wc w')).mono ?_;rintro e w5 ⟨⟨z,rfl⟩,hb5⟩;replace hX:=hX.grow hb5;go_wp2_with fail;refine (TX.words [sCs,bodyT x.1.body,sNl] hX hlt).mono ?_;rintro e w6 ⟨rfl,hX,_⟩;go_wp2
         go_roundg (pn-(j+1))
         case measure=>omega
         case rel=>exact⟨j+1,by omega,by go_num,(hX.as hR).back hW⟩
      ·replace hX:=hX.as (R':=[]) (by rw[List.drop_of_length_le (by have h1:=h.p.len;have h2:=congrArg List.length h.pl;rw[List.length_map] at h2;simp only at h1;omega)];rfl);obtain⟨t0,h1,h2⟩:=hX.t;rw[List.append_nil] at h2;subst h2;go_wp2;go_end0;exact⟨rfl,h1⟩
end Go.Proofs.YtmmbjngbeiokeaaGreatDoor
