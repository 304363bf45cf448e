/- A part of the proof: Uj Uk Um Us Ul. -/
import Derived.Deep.RegionHeld3
import Derived.BigQuiet
import Derived.Test.YtfajelpcfnfjkaaGreatDoorA00
import Derived.Test.YtfajelpcfnfjkaaGreatDoorA03
import Derived.Test.YtfajelpcfnfjkaaGreatDoorA21
import Derived.Test.YtfajelpcfnfjkaaGreatDoorA24
import Derived.Test.YtfajelpcfnfjkaaGreatDoorA26
import Derived.Test.YtfajelpcfnfjkaaGreatDoorA29
import Derived.Test.YtfajelpcfnfjkaaGreatDoorA33
import Derived.Test.YtfajelpcfnfjkaaGreatDoorA36
import Derived.Test.YtfajelpcfnfjkaaGreatDoorA38
set_option linter.unusedVariables false
set_option linter.unusedSimpArgs false
namespace Go.Proofs.YtfajelpcfnfjkaaGreatDoor
open Go.RowKit
def tyIn (t:Ty):Bool:=if t.truth then decide (t.money=0)&&decide (t.days=0) else decide (-3≤t.money)&&decide (t.money≤3)&&(decide (-3≤t.days)&&decide (t.days≤3))
def seven:List Int:=[-3,-2,-1,0,1,2,3]
theorem seven_mem {m:Int} (h:-3≤m) (k:m≤3):m∈seven:=by
 have:m= -3∨m= -2∨m= -1∨m=0∨m=1∨m=2∨m=3:=by omega
 unfold seven;simp only[List.mem_cons]
 omega
theorem seven_fine:∀m∈seven,(ofI m).num.size≤1048576∧(ofI m).den.size≤1048576:=by decide+kernel
theorem seven_inj:∀m∈seven,∀d∈seven,∀a∈seven,∀b∈seven,(tyText ⟨false,m,d⟩).data.toList=(tyText ⟨false,a,b⟩).data.toList→m=a∧d=b:=by decide+kernel
theorem seven_truth:∀m∈seven,∀d∈seven,((tyText ⟨false,m,d⟩).data.toList==[116,114,117,116,104])=false:=by decide+kernel
set_option maxRecDepth 100000 in
set_option maxHeartbeats 1600000 in
theorem uTypeOf_any (t:Ty) (w:World) (hL:LaidK w) (ht:tyIn t=true):Calls Tryz.prog 73 #[.string (tyText t)] w fun e w'=>e=.returned t.v∧Below w.heap.size w w':=by
 obtain⟨tr,tm,td⟩:=t;obtain⟨W,hW⟩:∃W,W=w.alloc (.cells #[.bool false,.int .i64 0,.int .i64 0] 40):=⟨_,rfl⟩
 obtain⟨B,hB⟩:∃B,B=w.heap.size:=⟨_,rfl⟩
 have HK:Hid (Blk W B 40 [.bool false,.int .i64 0,.int .i64 0]):=by show Blk _ _ _ _;rw[hW,hB];exact Blk.new w _ _
 have HBA:Hid (Below w.heap.size w W):=by show Below _ _ _;rw[hW];exact (Below.refl _ _).alloc (Nat.le_refl _) _
 have HBB:=Lib.hid (Nat.le_of_eq hB.symm);unfold tyIn at ht;simp only at ht;unfold Ty.v;simp only
 cases tr
 ·simp only[Bool.false_eq_true,if_false,Bool.and_eq_true,decide_eq_true_eq] at ht;obtain⟨⟨hm1,hm2⟩,hd1,hd2⟩:=ht;have hst:((tyText ⟨false,tm,td⟩).toList==[116,114,117,116,104])=false:=by rw[ByteArray.toList_eq];exact seven_truth tm (seven_mem hm1 hm2) td (seven_mem hd1 hd2)
  have HIN:Hid (∀m d:Int,-3≤m→m≤3→ -3≤d→d≤3→tyText ⟨false,m,d⟩=tyText ⟨false,tm,td⟩→m=tm∧d=td):=fun m d h1 h2 h3 h4 e=>seven_inj m (seven_mem h1 h2) d (seven_mem h3 h4) tm (seven_mem hm1 hm2) td (seven_mem hd1 hd2) (by rw[e])
  have HTT:Hid (∀(m d:Int) (W':World),-3≤m→m≤3→ -3≤d→d≤3→Below w.heap.size w W'→Calls Tryz.prog 39 #[.agg #[.bool false,.int .i64 m,.int .i64 d]] W' fun e w'=>e=.returned (.string (tyText ⟨false,m,d⟩))∧Below W'.heap.size W' w'):=fun m d W' h1 h2 h3 h4 hb=>
   uTypeText_any ⟨false,m,d⟩ W' (hL.below hb) ⟨by show (-1000:Int)≤m;omega,by show m≤(1000:Int);omega⟩ ⟨by show (-1000:Int)≤d;omega,by show d≤(1000:Int);omega⟩ (seven_fine m (seven_mem h1 h2)) (seven_fine d (seven_mem h3 h4))
  have HEQ:Hid (tyText ⟨false,tm,td⟩=tyText ⟨false,tm,td⟩):=rfl;obtain⟨s,hs⟩:∃s,s=tyText ⟨false,tm,td⟩:=⟨_,rfl⟩
  rw[←hs] at hst HIN HEQ⊢;have HS:=Lib.hid hs;clear hL hs HEQ;go_enter Tryz.func73,Tryz.ntmps73
  go_upto_region 1 with fail
  simp only[←hW,←hB]
  clear hW hB;go_wp2_with fail
  go_loopg [3] 7 (fun g iv wr=>∃i:Nat,i+g=7∧iv=.int .i64 (-3+(i:Int))∧Hid (-3+(i:Int)≤tm)∧Hid (Below w.heap.size w wr)∧Hid (Blk wr B 40 [.bool false,.int .i64 0,.int .i64 0]))
  case atStart=>exact⟨0,by omega,rfl,(by show-3+((0:Nat):Int)≤tm;omega),HBA,HK⟩
  case round=>
   obtain⟨i,hi,rfl,hle,hbr,hbk⟩:=hrel;have hlt:i<7:=by have:=hle.out;omega
   have h3:-3+(i:Int)≤3:=by omega
   clear HK HBA;go_wp2_with fail
   go_loopg [4] 7 (fun g iv wr=>∃k:Nat,k+g=7∧iv=.int .i64 (-3+(k:Int))∧Hid (-3+(i:Int)=tm→ -3+(k:Int)≤td)∧Hid (Below w.heap.size w wr)∧Hid (Blk wr B 40 [.bool false,.int .i64 0,.int .i64 0]))
   case atStart=>exact⟨0,by omega,rfl,(fun _=>by omega),hbr,hbk⟩
   case round=>
    obtain⟨k,hk,rfl,hkd,hbr,hbk⟩:=hrel;by_cases hlk:k<7
    ·have h4:-3+(k:Int)≤3:=by omega
     obtain⟨W2,hW2⟩:∃W2,W2=wr.alloc (.cells #[.bool false,.int .i64 (-3+(i:Int)),.int .i64 (-3+(k:Int))] 40):=⟨_,rfl⟩
     obtain⟨C,hC⟩:∃C,C=wr.heap.size:=⟨_,rfl⟩
     have HKC:Hid (Blk W2 C 40 [.bool false,.int .i64 (-3+(i:Int)),.int .i64 (-3+(k:Int))]):=by show Blk _ _ _ _;rw[hW2,hC];exact Blk.new wr _ _
     have HBa:Below wr.heap.size wr W2:=by rw[hW2];exact (Below.refl _ _).alloc (Nat.le_refl _) _
     have HB2:=Lib.hid (bstep hbr.out HBa);have HK2:Hid (Blk W2 B 40 [.bool false,.int .i64 0,.int .i64 0]):=hbk.out.below HBa hbk.out.lt;have HNE:Hid (B≠C):=by have:=hbk.out.lt;show B≠C;omega
     have HTX:=Lib.hid (HTT.out (-3+(i:Int)) (-3+(k:Int)) W2 (by omega) h3 (by omega) h4 HB2.out);have HE:Hid (tyText ⟨false,-3+(i:Int),-3+(k:Int)⟩=s→ -3+(i:Int)=tm∧-3+(k:Int)=td):=HIN.out _ _ (by omega) h3 (by omega) h4;have HE2:Hid (-3+(i:Int)=tm∧-3+(k:Int)=td→tyText ⟨false,-3+(i:Int),-3+(k:Int)⟩=s):=fun h=>by rw[HS.out,h.1,h.2]
     generalize tyText ⟨false,-3+(i:Int),-3+(k:Int)⟩=x at*;have hkc:=HKC.out.cells;clear HBa hbr hbk
     go_upto_region 10 with fail
     simp only[←hW2,←hC]
     clear hW2 hC;go_wp2_with fail;refine HTX.out.mono ?_;rintro e w5 ⟨rfl,hb5⟩;have HB5:=Lib.hid (bstep HB2.out hb5);have HK5:Hid (Blk w5 B 40 [.bool false,.int .i64 0,.int .i64 0]):=HK2.out.below hb5 HK2.out.lt;have HC5:Hid (Blk w5 C 40 [.bool false,.int .i64 (-3+(i:Int)),.int .i64 (-3+(k:Int))]):=HKC.out.below hb5 HKC.out.lt;clear hb5 hkc HTX HK2 HKC;by_cases hx:x=s
     ·subst hx;obtain⟨e1,e2⟩:=HE.out rfl;have hkc:=HC5.out.cells;have hkb:=HK5.out.cells;have hfb:=HK5.out.froz;have hne:¬B=C:=HNE.out;have hne':¬C=B:=fun e=>hne e.symm
      have HV:Hid (-3+(i:Int)=tm∧-3+(k:Int)=td):=⟨e1,e2⟩
      clear e1 e2;go_wp2;have HKF:=((HK5.out.set 0 (.bool false)).set 1 (.int .i64 (-3+(i:Int)))).set 2 (.int .i64 (-3+(k:Int)));have hc:=HKF.cells;refine bodyPost_ret (v:=.agg #[.bool false,.int .i64 (-3+(i:Int)),.int .i64 (-3+(k:Int))]) (by simp[results,Tryz.results73,go_sem,hc]) rfl ⟨by rw[HV.out.1,HV.out.2],?_⟩;exact ((HB5.out.setCell (p:=⟨B,0,none⟩) HBB.out _).setCell (p:=⟨B,1,none⟩) HBB.out _).setCell (p:=⟨B,2,none⟩) HBB.out _
     ·have hxe:(x.toList==s.toList)=false:=beq_eq_false_iff_ne.2 (fun h=>hx (toList_inj h))
      have HKD:Hid (-3+(i:Int)=tm→ -3+((k+1:Nat):Int)≤td):=fun h=>by
       have h1:=hkd.out h;have h2:¬(-3+(k:Int)=td):=fun h'=>hx (HE2.out ⟨h,h'⟩)
       omega
      clear HE HE2 hx hkd;go_wp2
      go_roundg (7-(k+1))
      case measure=>omega
      case rel=>exact⟨k+1,by omega,by go_num,HKD,HB5,HK5⟩
    ·have h4:¬(-3+(k:Int)≤3):=by omega
     have HLE:Hid (-3+((i+1:Nat):Int)≤tm):=by
      have h1:¬(-3+(i:Int)=tm):=fun h=>by have:=hkd.out h;omega
      have h2:=hle.out;show-3+((i+1:Nat):Int)≤tm;omega
     clear hkd hle;go_wp2
     go_roundg (7-(i+1))
     case measure=>omega
     case rel=>exact⟨i+1,by omega,by go_num,HLE,hbr,hbk⟩
 ·simp only[if_true,Bool.and_eq_true,decide_eq_true_eq] at ht;obtain⟨rfl,rfl⟩:=ht;have hs:tyText ⟨true,0,0⟩=⟨#[116,114,117,116,104]⟩:=rfl;rw[hs];clear hL hs;have hst:((⟨#[116,114,117,116,104]⟩:ByteArray).toList==[116,114,117,116,104])=true:=by rw[ByteArray.toList_eq];rfl
  have hkb:=HK.out.cells;have hfb:=HK.out.froz;go_enter Tryz.func73,Tryz.ntmps73
  go_upto_region 1 with fail
  simp only[←hW,←hB]
  clear hW hB;go_wp2;have HKF:=((HK.out.set 0 (.bool true)).set 1 (.int .i64 0)).set 2 (.int .i64 0);have hc:=HKF.cells;refine bodyPost_ret (v:=.agg #[.bool true,.int .i64 0,.int .i64 0]) (by simp[results,Tryz.results73,go_sem,hc]) rfl ⟨rfl,?_⟩;exact ((HBA.out.setCell (p:=⟨B,0,none⟩) HBB.out _).setCell (p:=⟨B,1,none⟩) HBB.out _).setCell (p:=⟨B,2,none⟩) HBB.out _
structure TF (t:TypeId) (w w':World):Prop where
 size:w.heap.size≤w'.heap.size
 keep:∀(k:Nat) (cs:Array Value) (t':TypeId) (fr:Nat × Nat),w.heap[k]?=some (Obj.cells cs t' fr)→t'≠t→w'.heap[k]?=some (Obj.cells cs t' fr)
theorem TF.own {t e:TypeId} {w w':World} {B s n:Nat} {v:Value} {xs:List Value} (h:TF t w w') (ho:w.ownsRow B e s v n xs) (he:e≠t):w'.ownsRow B e s v n xs:=by
 refine⟨ho.1,ho.2.imp id ?_⟩;rintro⟨g,cap,cur,h1,h2,h3,h4⟩;exact⟨g,cap,cur,h1,h2,h.keep g _ _ _ h3 he,h4⟩
theorem TF.blk {t e:TypeId} {w w':World} {b:Nat} {cs:List Value} (h:TF t w w') (hb:Blk w b e cs) (he:e≠t):Blk w' b e cs:=h.keep b _ _ _ hb he
theorem TF.grown {t:TypeId} {w w':World} {B s n:Nat} {v:Value} {xs:List Value} (ho:w.ownsRow B t s v n xs) (hg:w.grownBy w' v.ownBlock):TF t w w':=by
 refine⟨hg.size,fun k cs t' fr hk ht=>(hg.block k (lt_of_some hk) ?_).trans hk⟩;intro he;rcases ho.2 with⟨rfl,_⟩|⟨g,cap,cur,rfl,_,h3,_⟩
 ·cases he
 ·injection he with he;subst he;rw[h3] at hk;injection hk with hk;injection hk with _ h5 _;exact ht h5.symm
theorem TF.set {t e:TypeId} {w:World} {R:Nat} {cs:List Value} (hb:Blk w R t cs) (i:Nat) (u:Value):TF t w (w.setCell ⟨R,i,none⟩ u):=by
 refine⟨by simp[World.setCell],fun k cs' t' fr hk ht=>(Below.heap_setCell w _ u k ?_).trans hk⟩;show k≠R;rintro rfl;have h:w.heap[k]?=_:=hb;rw[h] at hk;injection hk with hk;injection hk with _ h5 _;exact ht h5.symm
structure FR (R:Nat) (w w':World):Prop where
 size:w.heap.size≤w'.heap.size
 keep:∀(k:Nat) (o:Obj),w.heap[k]?=some o→k≠R→(∀cs t fr,o=Obj.cells cs t fr→t≠42∧t≠76∧t≠48)→w'.heap[k]?=some o
theorem FR.below {R:Nat} {w w':World} (h:Below w.heap.size w w'):FR R w w':=⟨h.size,fun k o hk _ _=>(h.block k (lt_of_some hk)).trans hk⟩
theorem FR.trans {R:Nat} {a b c:World} (h:FR R a b) (k:FR R b c):FR R a c:=⟨Nat.le_trans h.size k.size,fun i o hi hr ho=>k.keep i o (h.keep i o hi hr ho) hr ho⟩
theorem FR.grown {R i:Nat} {w w1 w2:World} {B e s n:Nat} {v u:Value} {xs:List Value} (hb:Below w.heap.size w w1) (ho:w1.ownsRow B e s v n xs) (he:e=42∨e=76∨e=48) (hg:w1.grownBy w2 v.ownBlock):FR R w (w2.setCell ⟨R,i,none⟩ u):=by
 refine⟨Nat.le_trans hb.size (Nat.le_trans hg.size (by simp[World.setCell])),fun k o hk hR ht=>?_⟩;have h1:w1.heap[k]?=some o:=(hb.block k (lt_of_some hk)).trans hk;refine (Below.heap_setCell w2 _ u k hR).trans ((hg.block k (lt_of_some h1) ?_).trans h1);intro hq;rcases ho.2 with⟨rfl,_⟩|⟨g,cap,cur,rfl,_,h3,_⟩
 ·cases hq
 ·injection hq with hq;subst hq;rw[h3] at h1;injection h1 with h1;obtain⟨k1,k2,k3⟩:=ht _ _ _ h1.symm;rcases he with h|h|h
  ·exact k1 h
  ·exact k2 h
  ·exact k3 h
structure PT (w0 w:World) (R:Nat) (l:Lw) (ss:List (Sc × Hd)) (ps:List (Pv × Hd)) (fv sv pv:Value):Prop where
 r:w0.heap.size≤R
 bl:Below w0.heap.size w0 w
 blk:Blk w R 29 [fv,sv,pv]
 f:w.ownsRow (R+1) 42 4 fv l.facts.length (l.facts.flatMap Dc.cells)
 s:w.ownsRow (R+1) 76 4 sv ss.length (ss.flatMap scCells)
 p:w.ownsRow (R+1) 48 12 pv ps.length (ps.flatMap pvCells)
 sl:ss.map Prod.fst=l.schs
 pl:ps.map Prod.fst=l.provs
 sb:∀x∈ss,x.2.n=x.1.brs.length∧w.ownsRow (R+1) 108 6 (.slice x.2.a x.2.n x.2.c) x.2.n (x.1.brs.flatMap Bk.cells)
 pb:∀x∈ps,x.2.n=x.1.body.length∧w.ownsRow (R+1) 56 5 (.slice x.2.a x.2.n x.2.c) x.2.n (nds x.1.body)
theorem PT.below {w0 w w':World} {R:Nat} {l:Lw} {ss:List (Sc × Hd)} {ps:List (Pv × Hd)} {fv sv pv:Value} (h:PT w0 w R l ss ps fv sv pv) (hb:Below w.heap.size w w'):PT w0 w' R l ss ps fv sv pv:=
 ⟨h.r,bstep h.bl hb,h.blk.below hb h.blk.lt,own_below h.f hb,own_below h.s hb,own_below h.p hb,h.sl,h.pl,fun x hx=>⟨(h.sb x hx).1,own_below (h.sb x hx).2 hb⟩,fun x hx=>⟨(h.pb x hx).1,own_below (h.pb x hx).2 hb⟩⟩
theorem own_hd {w:World} {B e s n:Nat} {A:Option Addr} {m c:Nat} {xs:List Value} (h:w.ownsRow B e s (.slice A m c) n xs):m=n∧n≤c∧c≤maxLen∧Rd w A xs:=by
 obtain⟨A',c',hv,h1,h2,h3,_⟩:=own_rd h;injection hv with e1 e2 e3;exact⟨e2,by omega,by omega,by rw[e1];exact h3⟩
theorem PT.law {w0 w:World} {R:Nat} {l:Lw} {ss:List (Sc × Hd)} {ps:List (Pv × Hd)} {fv sv pv:Value} (h:PT w0 w R l ss ps fv sv pv):∃f s p:Hd,fv=.slice f.a f.n f.c∧sv=.slice s.a s.n s.c∧pv=.slice p.a p.n p.c∧LawAt w l ss ps f s p:=by
 obtain⟨f,rfl,_,hf⟩:=RowAt.of_own h.f rfl;obtain⟨s,rfl,_,hs⟩:=RowAt.of_own h.s rfl;obtain⟨p,rfl,_,hp⟩:=RowAt.of_own h.p rfl;refine⟨f,s,p,rfl,rfl,rfl,hf,hs,hp,h.sl,h.pl,fun x hx=>?_,fun x hx=>?_⟩
 ·obtain⟨h1,h2⟩:=h.sb x hx;obtain⟨_,h3,h4,h5⟩:=own_hd h2;exact⟨h1,h3,h4,h5⟩
 ·obtain⟨h1,h2⟩:=h.pb x hx;obtain⟨_,h3,h4,h5⟩:=own_hd h2;exact⟨h1,h3,h4,h5⟩
theorem PT.bl2 {w0 W w':World} {R:Nat} {l:Lw} {ss:List (Sc × Hd)} {ps:List (Pv × Hd)} {fv sv pv v u:Value} {i n s:Nat} {e:TypeId} {xs:List Value} (h:PT w0 W R l ss ps fv sv pv) (ho:W.ownsRow (R+1) e s v n xs) (hg:W.grownBy w' v.ownBlock):Below w0.heap.size w0 (w'.setCell ⟨R,i,none⟩ u):=
 (h.bl.grown hg (by have:=h.bl.size;omega) (fun k hk=>by have h1:=(ho.lt k hk).1;have h2:=h.r;omega)).setCell (p:=⟨R,i,none⟩) h.r _
theorem PT.pushF {w0 W w':World} {R:Nat} {l:Lw} {ss:List (Sc × Hd)} {ps:List (Pv × Hd)} {fv sv pv v':Value} (h:PT w0 W R l ss ps fv sv pv) (d:Dc) (ho:w'.ownsRow (R+1) 42 4 v' (l.facts.length+1) (l.facts.flatMap Dc.cells++d.cells)) (hg:W.grownBy w' fv.ownBlock):
  PT w0 (w'.setCell ⟨R,0,none⟩ v') R ⟨l.facts++[d],l.schs,l.provs⟩ ss ps v' sv pv:=by
 have ht:=TF.grown h.f hg;refine⟨h.r,h.bl2 h.f hg,((ht.blk h.blk (by decide)).set 0 v'),?_,own_set (ht.own h.s (by decide)) 0 _,own_set (ht.own h.p (by decide)) 0 _,h.sl,h.pl,fun x hx=>⟨(h.sb x hx).1,own_set (ht.own (h.sb x hx).2 (by decide)) 0 _⟩,fun x hx=>⟨(h.pb x hx).1,own_set (ht.own (h.pb x hx).2 (by decide)) 0 _⟩⟩;have k:=own_set ho 0 v';simpa [List.length_append,List.flatMap_append] using k
theorem PT.pushS {w0 W w':World} {R:Nat} {l:Lw} {ss:List (Sc × Hd)} {ps:List (Pv × Hd)} {fv sv pv v':Value} (h:PT w0 W R l ss ps fv sv pv) (x:Sc × Hd) (hx:x.2.n=x.1.brs.length∧W.ownsRow (R+1) 108 6 (.slice x.2.a x.2.n x.2.c) x.2.n (x.1.brs.flatMap Bk.cells)) (ho:w'.ownsRow (R+1) 76 4 v' (ss.length+1) (ss.flatMap scCells++scCells x)) (hg:W.grownBy w' sv.ownBlock):
  PT w0 (w'.setCell ⟨R,1,none⟩ v') R ⟨l.facts,l.schs++[x.1],l.provs⟩ (ss++[x]) ps fv v' pv:=by
 have ht:=TF.grown h.s hg;refine⟨h.r,h.bl2 h.s hg,((ht.blk h.blk (by decide)).set 1 v'),own_set (ht.own h.f (by decide)) 1 _,?_,own_set (ht.own h.p (by decide)) 1 _,by rw[List.map_append,h.sl];rfl,h.pl,fun y hy=>?_,fun x hx=>⟨(h.pb x hx).1,own_set (ht.own (h.pb x hx).2 (by decide)) 1 _⟩⟩
 ·have k:=own_set ho 1 v';simpa [List.length_append,List.flatMap_append] using k
 ·rcases List.mem_append.1 hy with hy|hy
  ·exact⟨(h.sb y hy).1,own_set (ht.own (h.sb y hy).2 (by decide)) 1 _⟩
  ·rw[List.mem_singleton.1 hy];exact⟨hx.1,own_set (ht.own hx.2 (by decide)) 1 _⟩
theorem PT.pushP {w0 W w':World} {R:Nat} {l:Lw} {ss:List (Sc × Hd)} {ps:List (Pv × Hd)} {fv sv pv v':Value} (h:PT w0 W R l ss ps fv sv pv) (x:Pv × Hd) (hx:x.2.n=x.1.body.length∧W.ownsRow (R+1) 56 5 (.slice x.2.a x.2.n x.2.c) x.2.n (nds x.1.body)) (ho:w'.ownsRow (R+1) 48 12 v' (ps.length+1) (ps.flatMap pvCells++pvCells x)) (hg:W.grownBy w' pv.ownBlock):
  PT w0 (w'.setCell ⟨R,2,none⟩ v') R ⟨l.facts,l.schs,l.provs++[x.1]⟩ ss (ps++[x]) fv sv v':=by
 have ht:=TF.grown h.p hg;refine⟨h.r,h.bl2 h.p hg,((ht.blk h.blk (by decide)).set 2 v'),own_set (ht.own h.f (by decide)) 2 _,own_set (ht.own h.s (by decide)) 2 _,?_,h.sl,by rw[List.map_append,h.pl];rfl,fun x hx=>⟨(h.sb x hx).1,own_set (ht.own (h.sb x hx).2 (by decide)) 2 _⟩,fun y hy=>?_⟩
 ·have k:=own_set ho 2 v';simpa [List.length_append,List.flatMap_append] using k
 ·rcases List.mem_append.1 hy with hy|hy
  ·exact⟨(h.pb y hy).1,own_set (ht.own (h.pb y hy).2 (by decide)) 2 _⟩
  ·rw[List.mem_singleton.1 hy];exact⟨hx.1,own_set (ht.own hx.2 (by decide)) 2 _⟩
def rdrs:List Value:=[.string ⟨#[102,97,99,116]⟩,.func (Fn.func 72) #[] #[],.string ⟨#[115,99,104,101,100,117,108,101]⟩,.func (Fn.func 74) #[] #[],.string ⟨#[112,114,111,118,105,115,105,111,110]⟩,.func (Fn.func 76) #[] #[]]
set_option maxRecDepth 100000 in
set_option maxHeartbeats 800000 in
theorem readers_any (w:World):Calls Tryz.prog 36 #[] w fun e w'=>e=.returned (.slice (some ⟨w.heap.size,0,none⟩) 3 3)∧Blk w' w.heap.size 102 rdrs∧Below w.heap.size w w':=by
 obtain⟨W,hW⟩:∃W,W=w.alloc (.cells rdrs.toArray 102):=⟨_,rfl⟩
 obtain⟨B,hB⟩:∃B,B=w.heap.size:=⟨_,rfl⟩
 have HK:Hid (Blk W B 102 rdrs):=by show Blk _ _ _ _;rw[hW,hB];exact Blk.new w _ _
 have HBA:Hid (Below w.heap.size w W):=by show Below _ _ _;rw[hW];exact (Below.refl _ _).alloc (Nat.le_refl _) _
 go_enter Tryz.func36,Tryz.ntmps36;go_wp2;go_ret;refine⟨rfl,?_,?_⟩
 ·have h:=HK.out;rw[hW,hB] at h;exact h
 ·have h:=HBA.out;rw[hW] at h;exact h
theorem st_nil (w:World):(Instr.typeAssert .nilIface 20 92 true).run Tryz.prog w=.ok (.tuple #[.agg #[],.bool false]) w:=by
 kernel_rfl
set_option maxRecDepth 100000 in
set_option maxHeartbeats 800000 in
theorem lcatch_idle (a:Nat) (w:World):
  CallsD Tryz.prog 33 #[.pointer (some ⟨a,0,none⟩)] .returning w fun e u' w'=>e=.returned (.tuple #[])∧u'=.returning∧Below w.heap.size w w':=by
 refine callsD_of_wpS Tryz.func33 rfl fun c₀ cs hu=>?_
 apply wpS_seq;apply wpS_region;simp[wpOpsS,go_sem,recoverD,hu,Tryz.ntmps33,Exit.thenS,st_nil];refine wpS_of_wp ?_;go_wp2;cases c₀
 simp_all [bodyPostS,results,Tryz.results33]
 exact (Below.refl _ _).alloc (Nat.le_refl _) _
theorem PT.tf {w0 w w':World} {R:Nat} {l:Lw} {ss:List (Sc × Hd)} {ps:List (Pv × Hd)} {fv sv pv:Value} {t:TypeId} (h:PT w0 w R l ss ps fv sv pv) (ht:TF t w w') (hb:Below w0.heap.size w0 w') (h1:29≠t) (h2:42≠t) (h3:76≠t) (h4:48≠t) (h5:108≠t) (h6:56≠t):PT w0 w' R l ss ps fv sv pv:=
 ⟨h.r,hb,ht.blk h.blk h1,ht.own h.f h2,ht.own h.s h3,ht.own h.p h4,h.sl,h.pl,fun x hx=>⟨(h.sb x hx).1,ht.own (h.sb x hx).2 h5⟩,fun x hx=>⟨(h.pb x hx).1,ht.own (h.pb x hx).2 h6⟩⟩
def PX (w0 w:World) (R:Nat) (l:Lw):Prop:=∃ss ps fv sv pv,PT w0 w R l ss ps fv sv pv
theorem PX.below {w0 w w':World} {R:Nat} {l:Lw} (h:PX w0 w R l) (hb:Below w.heap.size w w'):PX w0 w' R l:=by
 obtain⟨ss,ps,fv,sv,pv,h⟩:=h;exact⟨ss,ps,fv,sv,pv,h.below hb⟩
theorem PX.setB {w0 w:World} {R B:Nat} {l:Lw} {cs:List Value} (h:PX w0 w R l) (hB:Blk w B 4 cs) (h0:w0.heap.size≤B) (u:Value):PX w0 (w.setCell ⟨B,0,none⟩ u) R l:=by
 obtain⟨ss,ps,fv,sv,pv,h⟩:=h;exact⟨ss,ps,fv,sv,pv,h.tf (TF.set (e:=4) hB 0 u) (h.bl.setCell (p:=⟨B,0,none⟩) h0 u) (by decide) (by decide) (by decide) (by decide) (by decide) (by decide)⟩
structure LineW (s:ByteArray) (ws:List ByteArray) (rest:ByteArray) (col:Bool):Prop where
 size:s.size≤1000000
 hd:∃h:List UInt8,Lib.cut s.data.toList [58,32]=(h,rest.data.toList,col)∧h.length≤1000000∧Lib.countB ⟨h.toArray⟩ ⟨#[32]⟩+1=ws.length∧Lib.splitB ⟨#[32]⟩ 0 (Lib.countB ⟨h.toArray⟩ ⟨#[32]⟩) ⟨h.toArray⟩=ws
theorem fr_line {R B:Nat} {w w8 w9:World} {u:Value} (h:FR R w w8) (hB:w.heap.size≤B) (hb:Below (w8.setCell ⟨B,0,none⟩ u).heap.size (w8.setCell ⟨B,0,none⟩ u) w9):FR R w w9:=by
 refine FR.trans (b:=w8.setCell ⟨B,0,none⟩ u) ⟨by have:=h.size;simpa [World.setCell] using this,fun k o hk hr ht=>(Below.heap_setCell w8 _ u k (fun e=>?_)).trans (h.keep k o hk hr ht)⟩ (FR.below hb);have h1:=lt_of_some hk;have h2:k=B:=e;omega
set_option maxRecDepth 100000 in
set_option maxHeartbeats 6400000 in
theorem line_core (w0 w:World) (R:Nat) (l l':Lw) (s rest wd nm:ByteArray) (more:List ByteArray) (k:Nat) (col:Bool) (h:PX w0 w R l) (hL:LaidK w) (hw:LineW s (wd::nm::more) rest col) (hk:more.length=k+1) (hnm:nameOk nm=true) (idx fn:Nat)
  (hid:(idx=0∧wd=⟨#[102,97,99,116]⟩∧fn=72∧col=false)∨(idx=1∧wd=⟨#[115,99,104,101,100,117,108,101]⟩∧fn=74∧col=true)∨(idx=2∧wd=⟨#[112,114,111,118,105,115,105,111,110]⟩∧fn=76∧col=true))
  (hR:∀W G,Below w.heap.size w W→Blk W G 9 (strs (wd::nm::more))→Calls Tryz.prog fn #[.pointer (some ⟨R,0,none⟩),.slice (some ⟨G,1,none⟩) (k+2:Nat) (k+2:Nat),.string rest] W fun e w'=>e=.returned (.tuple #[])∧PX w0 w' R l'∧FR R W w'):
  Calls Tryz.prog 17 #[.pointer (some ⟨R,0,none⟩),.string s] w fun e w'=>e=.returned (.bool true)∧PX w0 w' R l'∧FR R w w':=by
 have hmf:∀(fn:Fn) (first cap:Array Value) (w:World),(Instr.makeFunc fn first cap).run Tryz.prog w=.ok (.func fn first cap) w:=fun _ _ _ _=>rfl
 have hsf:=st_func;obtain⟨hsz,hd,hcut,hhl,hcnt,hspl⟩:=hw;obtain⟨ss0,ps0,fv0,sv0,pv0,hPT⟩:=h;have HW0:Hid (w0.heap.size≤w.heap.size):=hPT.bl.size;have HRW:Hid (R<w.heap.size):=hPT.blk.lt;obtain⟨W1,hW1⟩:∃W1,W1=w.alloc (.cells #[.bool false] 4):=⟨_,rfl⟩
 obtain⟨B,hB⟩:∃B,B=w.heap.size:=⟨_,rfl⟩
 have HKB:Hid (Blk W1 B 4 [.bool false]):=by show Blk _ _ _ _;rw[hW1,hB];exact Blk.new w _ _
 have HB1:Hid (Below w.heap.size w W1):=by show Below _ _ _;rw[hW1];exact (Below.refl _ _).alloc (Nat.le_refl _) _
 have HBB:Hid (w.heap.size≤B):=Nat.le_of_eq hB.symm;have HLK:Hid (∀W,Below w.heap.size w W→LaidK W):=fun W hb=>hL.below hb
 obtain⟨m,hm⟩:=(HLK.out _ HB1.out).e.base.cut.2;have HCT:=Lib.hid (Tryz.strings_Cut s ⟨#[58,32]⟩ m W1 (by omega) hm);rw[show (⟨#[58,32]⟩:ByteArray).data.toList=[58,32] from rfl,hcut] at HCT;simp only at HCT;have hrest:(⟨rest.data.toList.toArray⟩:ByteArray)=rest:=by cases rest;rfl
 rw[hrest] at HCT
 have HSP:Hid (∀W,Below w.heap.size w W→Calls Tryz.prog 35 #[.string ⟨hd.toArray⟩,.string ⟨#[32]⟩] W fun e w'=>e=.returned (.slice (some ⟨W.heap.size,0,none⟩) (k+3:Nat) (k+3:Nat))∧w'=W.alloc (.cells ((wd::nm::more).map Value.string).toArray 9)):=fun W hb=>by
  obtain⟨m',hm'⟩:=(HLK.out _ hb).e.base.cut.2;have k':=Tryz.strings_Split ⟨hd.toArray⟩ ⟨#[32]⟩ m' W (by show hd.toArray.size<_;simp;omega) hm' (by decide);rw[hspl,hcnt] at k';simp only[List.length_cons,hk] at k';exact k'
 have HNM:Hid (∀W,Below w.heap.size w W→Calls Tryz.prog 6 #[.string nm] W fun e w'=>e=.returned (.bool true)∧Below W.heap.size W w'):=fun W hb=>by
  have k':=uName_any nm W (HLK.out _ hb).e;rw[hnm] at k';exact k'
 have HR:=Lib.hid hR;have HID:=Lib.hid hid;have HM:=Lib.hid must_yes;have HRD:=Lib.hid readers_any;have HMR:Hid (more.length=k+1):=hk;have HTRW:Hid (R<w.heap.size):=HRW.out;clear hL hm hrest hsz hcut hhl hcnt hspl hR hnm hid hPT hk;generalize (⟨hd.toArray⟩:ByteArray)=hb at*
 go_enter_defers Tryz.func17,Tryz.ntmps17
 go_wp2_with fail;simp only[←hW1,←hB]
 clear hW1 hB;refine HCT.out.mono ?_;rintro e w2 ⟨rfl,nd,hw2⟩;obtain⟨W2,hW2⟩:∃W2,W2=W1.drewN nd:=⟨_,rfl⟩
 rw[←hW2] at hw2;subst hw2;have HA2:Below W1.heap.size W1 w2:=by rw[hW2];exact drewN_below _ _ _
 have HB2:=Lib.hid (bstep HB1.out HA2);have HKB2:Hid (Blk w2 B 4 [.bool false]):=HKB.out.below HA2 HKB.out.lt;clear hW2 HA2 HKB HCT HB1;go_wp2_with fail;refine (HSP.out _ HB2.out).mono ?_;rintro e w3 ⟨rfl,hw3⟩;obtain⟨G,hG⟩:∃G,G=w2.heap.size:=⟨_,rfl⟩
 have HG:Hid (Blk w3 G 9 (strs (wd::nm::more))):=by show Blk _ _ _ _;rw[hw3,hG,strs_map];exact Blk.new w2 _ _
 have HA3:Below w2.heap.size w2 w3:=by rw[hw3];exact (Below.refl _ _).alloc (Nat.le_refl _) _
 have HB3:=Lib.hid (bstep HB2.out HA3);have HKB3:Hid (Blk w3 B 4 [.bool false]):=HKB2.out.below HA3 HKB2.out.lt;simp only[←hG]
 clear hG hw3 HA3 HKB2 HB2 HSP;go_wp2_with fail;refine (HRD.out w3).mono ?_;rintro e w4 ⟨rfl,hk4,hb4⟩;obtain⟨D,hD⟩:∃D,D=w3.heap.size:=⟨_,rfl⟩
 rw[←hD] at hk4;have HD:=Lib.hid hk4;have HB4:=Lib.hid (bstep HB3.out hb4);have HKB4:Hid (Blk w4 B 4 [.bool false]):=HKB3.out.below hb4 HKB3.out.lt;have HG4:Hid (Blk w4 G 9 (strs (wd::nm::more))):=HG.out.below hb4 HG.out.lt;simp only[←hD]
 clear hD hk4 hb4 HKB3 HB3 HG HRD;go_wp2_with fail
 go_loopg [22] 3 (fun q iv wr=>∃i:Nat,i+q=3∧iv=.int .i64 i∧Hid (i≤idx)∧Hid (Below w.heap.size w wr)∧Hid (Blk wr B 4 [.bool false])∧Hid (Blk wr G 9 (strs (wd::nm::more)))∧Hid (Blk wr D 102 rdrs))
 case atStart=>exact⟨0,by omega,rfl,Nat.zero_le _,HB4,HKB4,HG4,HD⟩
 case round=>
  obtain⟨i,hi,rfl,hidx,hbr,hkB,hkG,hkD⟩:=hrel;clear HB4 HKB4 HG4 HD;have hd0:=hkD.out.cells;have hg0:wr.cell? ⟨G,0,none⟩=some (.string wd):=hkG.out.cells 0;have hg1:wr.cell? ⟨G,1,none⟩=some (.string nm):=hkG.out.cells 1;have HI2:Hid (i≤2):=by have h1:=hidx.out;have h2:idx≤2:=by {rcases HID.out with h|h|h<;>omega};show i≤2;omega
  obtain hi0|hi1|hi2:i=0∨i=1∨i=2:=by have:=HI2.out;omega
  ·obtain rfl:i=0:=hi0;have e1:wr.cell? ⟨D,0,none⟩=some (.string ⟨#[102,97,99,116]⟩):=hd0 0;have e2:wr.cell? ⟨D,1,none⟩=some (.func (Fn.func 72) #[] #[]):=hd0 1;have HQ2:Hid (∀o,Blk (wr.alloc (.cells o 102)) wr.heap.size 102 o.toList):=fun o=>Blk.new wr _ o
   have HBA:Hid (∀o,Below w.heap.size w (wr.alloc o)):=fun o=>hbr.out.alloc hbr.out.size o
   by_cases hix:idx=0
   ·obtain⟨rfl,rfl,rfl⟩:wd=⟨#[102,97,99,116]⟩∧fn=72∧col=false:=by rcases HID.out with⟨h,h'⟩|⟨h,h'⟩|⟨h,h'⟩<;>first|exact h'|(exfalso;omega)
    clear hd0 hidx;obtain⟨wt,hwt⟩:∃wt,wt=wr.alloc (.cells #[.string ⟨#[102,97,99,116]⟩,.func (Fn.func 72) #[] #[]] 102):=⟨_,rfl⟩
    obtain⟨T,hT⟩:∃T,T=wr.heap.size:=⟨_,rfl⟩
    have HTW:Hid (w.heap.size≤T):=by show _≤T;rw[hT];exact hbr.out.size
    have HT:Hid (Blk wt T 102 [.string ⟨#[102,97,99,116]⟩,.func (Fn.func 72) #[] #[]]):=by show Blk _ _ _ _;rw[hwt,hT];exact Blk.new wr _ _
    have HBT:Hid (Below w.heap.size w wt):=by show Below _ _ _;rw[hwt];exact HBA.out _
    have HKT:Hid (Blk wt B 4 [.bool false]):=by show Blk _ _ _ _;rw[hwt];exact hkB.out.alloc _
    have HGT:Hid (Blk wt G 9 (strs (⟨#[102,97,99,116]⟩::nm::more))):=by show Blk _ _ _ _;rw[hwt];exact hkG.out.alloc _
    go_upto_region 7 with fail
    simp only[←hwt,←hT]
    clear hwt hT hg0 hg1 e1 e2 HQ2 HBA hbr hkB hkG hkD;have t0:=HT.out.cells;have hg0:wt.cell? ⟨G,0,none⟩=some (.string ⟨#[102,97,99,116]⟩):=HGT.out.cells 0;have hg1:wt.cell? ⟨G,1,none⟩=some (.string nm):=HGT.out.cells 1;go_quiet (fail);go_wp2_with fail;generalize hwq:wt.drewN _=wq;have HQQ:Hid (Below wt.heap.size wt wq):=by show Below _ _ _;rw[←hwq];exact drewN_below _ _ _
    clear hwq;refine (HNM.out wq (bstep HBT.out HQQ.out)).mono ?_;rintro e w5 ⟨rfl,hb5⟩;have HB5:=Lib.hid (bstep (bstep HBT.out HQQ.out) hb5);have HT5:=Lib.hid (HT.out.below (bstep HQQ.out hb5) HT.out.lt);have HK5:Hid (Blk w5 B 4 [.bool false]):=HKT.out.below (bstep HQQ.out hb5) HKT.out.lt;have HG5:=Lib.hid (HGT.out.below (bstep HQQ.out hb5) HGT.out.lt);clear t0 hg0 hg1 hb5 HT HBT HKT HGT;have t0:=HT5.out.cells;have HM5:=Lib.hid (HM.out w5);go_wp2_with fail;refine HM5.out.mono ?_;rintro e w6 ⟨rfl,hw6⟩;have hw7:=hw6.symm;clear hw6;subst hw7;clear t0;have HF5:Hid (∀W',Below w5.heap.size w5 W'→W'.cell? ⟨T,1,none⟩=some (.func (Fn.func 72) #[] #[])):=fun W' hb=>(HT5.out.below hb HT5.out.lt).cells 1
    have hk13:(1:Int)≤(k:Int)+3:=by omega
    go_upto_region 9 with fail
    refine wp_region_noPanic ?_;refine wp_region_held_drew (S:=(fun w'=>w'.cell? ⟨T,1,none⟩=some (.func (Fn.func 72) #[] #[]))) (by kernel_rfl) (HF5.out _ (drewN_below w5.heap.size w5 1)) (fun hHeld=>?_);refine tkY 0 ?_ rfl ?_ ?_;rotate_left
    ·intro w hSw;(try dsimp only at hSw);go_simp
     all_goals with_reducible rfl
    try simp only[Act.put,tk1,tk2,tk3,tk4,tk5,tk6]
    refine tkY 1 ?_ rfl ?_ ?_;rotate_left
    ·intro w hSw;(try dsimp only at hSw);go_simp
     all_goals with_reducible rfl
    try simp only[Act.put,tk1,tk2,tk3,tk4,tk5,tk6]
    refine tkY 2 ?_ rfl ?_ ?_;rotate_left
    ·intro w hSw;(try dsimp only at hSw);go_simp
     all_goals with_reducible rfl
    try simp only[Act.put,tk1,tk2,tk3,tk4,tk5,tk6]
    refine tkY 3 ?_ rfl ?_ ?_;rotate_left
    ·intro w hSw;(try dsimp only at hSw);go_simp
     all_goals with_reducible rfl
    try simp only[Act.put,tk1,tk2,tk3,tk4,tk5,tk6]
    refine tkY 4 ?_ rfl ?_ ?_;rotate_left
    ·intro w hSw;(try dsimp only at hSw);go_simp
     all_goals with_reducible rfl
    try simp only[Act.put,tk1,tk2,tk3,tk4,tk5,tk6]
    refine tkY 5 ?_ rfl ?_ ?_;rotate_left
    ·intro w hSw;(try dsimp only at hSw);go_simp
     all_goals with_reducible rfl
    try simp only[Act.put,tk1,tk2,tk3,tk4,tk5,tk6]
    refine wpAnyH_ready (rs:=[6]) (by kernel_rfl) (by simp) ?_;refine AllReadyH.cons rfl (fun K hK=>?_) AllReadyH.nil;go_simp;refine (HR.out _ G (bstep HB5.out (drewN_below w5.heap.size w5 1)) (HG5.out.below (drewN_below w5.heap.size w5 1) HG5.out.lt)).mono ?_;rintro e w8 ⟨rfl,hpx,hfr⟩;go_wp2_with fail;refine hK.out _ _ ?_ (fun hHeld=>?_)
    ·exact (show Blk w8 T _ _ from hfr.keep T _ (HT5.out.below (drewN_below w5.heap.size w5 1) HT5.out.lt) (fun e=>by have h1:=HRW.out;have h2:=HTW.out;omega) (fun cs t fr e=>by injection e with _ e2 _;subst e2;decide)).cells 1
    clear hK K
    try simp only[Act.put,tk1,tk2,tk3,tk4,tk5,tk6]
    refine wpAnyH_done (by kernel_rfl) ?_ _;refine NoPanic.normal ?_;have HK8:Hid (Blk w8 B 4 [.bool false]):=hfr.keep B _ (HK5.out.below (drewN_below w5.heap.size w5 1) HK5.out.lt) (by have h1:=HRW.out;have h2:=HBB.out;omega) (fun cs t fr e=>by injection e with _ e2 _;subst e2;decide);have HFR:Hid (FR R w w8):=FR.trans (FR.below (bstep HB5.out (drewN_below w5.heap.size w5 1))) hfr;have HPX:=Lib.hid hpx;clear hpx hfr;have hk8:=HK8.out.cells;have hf8:=HK8.out.froz;go_wp2;refine leaves_cons (f:=33) (args:=#[.pointer (some ⟨B,0,none⟩)]) (by simp) (by simp[go_sem]) ?_;refine (lcatch_idle B _).mono ?_;rintro e u' w9 ⟨rfl,rfl,hb9⟩;have hKS:=(HK8.out.set 0 (.bool true)).below hb9 (HK8.out.set 0 (.bool true)).lt;have hc9:w9.cell? ⟨B,0,none⟩=some (.bool true):=hKS.cells 0;simp[Leaves,settle,results,Tryz.results17,go_sem,hc9];exact⟨(HPX.out.setB HK8.out (Nat.le_trans HW0.out HBB.out) _).below hb9,fr_line HFR.out HBB.out hb9⟩
   ·have hne:(([102,97,99,116]:List UInt8)==wd.toList)=false:=by rcases HID.out with⟨h,h',_⟩|⟨h,h',_⟩|⟨h,h',_⟩<;>first|(exfalso;omega)|(subst h';simp only[ByteArray.toList_eq];decide)
    have HLT:Hid (0+1≤idx):=by have h1:=hidx.out;show 0+1≤idx;omega
    clear hidx;obtain⟨wt,hwt⟩:∃wt,wt=wr.alloc (.cells #[.string ⟨#[102,97,99,116]⟩,.func (Fn.func 72) #[] #[]] 102):=⟨_,rfl⟩
    obtain⟨T,hT⟩:∃T,T=wr.heap.size:=⟨_,rfl⟩
    have HTW:Hid (w.heap.size≤T):=by show _≤T;rw[hT];exact hbr.out.size
    have HT:Hid (Blk wt T 102 [.string ⟨#[102,97,99,116]⟩,.func (Fn.func 72) #[] #[]]):=by show Blk _ _ _ _;rw[hwt,hT];exact Blk.new wr _ _
    have HBT:Hid (Below w.heap.size w wt):=by show Below _ _ _;rw[hwt];exact HBA.out _
    have HKT:Hid (Blk wt B 4 [.bool false]):=by show Blk _ _ _ _;rw[hwt];exact hkB.out.alloc _
    have HGT:Hid (Blk wt G 9 (strs (wd::nm::more))):=by show Blk _ _ _ _;rw[hwt];exact hkG.out.alloc _
    have HDT:Hid (Blk wt D 102 rdrs):=by show Blk _ _ _ _;rw[hwt];exact hkD.out.alloc _
    clear hd0
    go_upto_region 7 with fail
    simp only[←hwt,←hT]
    clear hwt hT hg0 hg1 e1 e2 HQ2 HBA hbr hkB hkG hkD;have t0:=HT.out.cells;have hg0:wt.cell? ⟨G,0,none⟩=some (.string wd):=HGT.out.cells 0;go_quiet (fail);go_wp2;generalize hwq:wt.drewN _=wq;have HQQ:Hid (Below wt.heap.size wt wq):=by show Below _ _ _;rw[←hwq];exact drewN_below _ _ _
    clear hwq
    go_roundg 2
    case rel=>exact⟨0+1,by omega,by go_num,HLT,bstep HBT.out HQQ.out,HKT.out.below HQQ.out HKT.out.lt,HGT.out.below HQQ.out HGT.out.lt,HDT.out.below HQQ.out HDT.out.lt⟩
    all_goals omega
  ·obtain rfl:i=1:=hi1;have e1:wr.cell? ⟨D,2,none⟩=some (.string ⟨#[115,99,104,101,100,117,108,101]⟩):=hd0 2;have e2:wr.cell? ⟨D,3,none⟩=some (.func (Fn.func 74) #[] #[]):=hd0 3;have HQ2:Hid (∀o,Blk (wr.alloc (.cells o 102)) wr.heap.size 102 o.toList):=fun o=>Blk.new wr _ o
   have HBA:Hid (∀o,Below w.heap.size w (wr.alloc o)):=fun o=>hbr.out.alloc hbr.out.size o
   by_cases hix:idx=1
   ·obtain⟨rfl,rfl,rfl⟩:wd=⟨#[115,99,104,101,100,117,108,101]⟩∧fn=74∧col=true:=by rcases HID.out with⟨h,h'⟩|⟨h,h'⟩|⟨h,h'⟩<;>first|exact h'|(exfalso;omega)
    clear hd0 hidx;obtain⟨wt,hwt⟩:∃wt,wt=wr.alloc (.cells #[.string ⟨#[115,99,104,101,100,117,108,101]⟩,.func (Fn.func 74) #[] #[]] 102):=⟨_,rfl⟩
    obtain⟨T,hT⟩:∃T,T=wr.heap.size:=⟨_,rfl⟩
    have HTW:Hid (w.heap.size≤T):=by show _≤T;rw[hT];exact hbr.out.size
    have HT:Hid (Blk wt T 102 [.string ⟨#[115,99,104,101,100,117,108,101]⟩,.func (Fn.func 74) #[] #[]]):=by show Blk _ _ _ _;rw[hwt,hT];exact Blk.new wr _ _
    have HBT:Hid (Below w.heap.size w wt):=by show Below _ _ _;rw[hwt];exact HBA.out _
    have HKT:Hid (Blk wt B 4 [.bool false]):=by show Blk _ _ _ _;rw[hwt];exact hkB.out.alloc _
    have HGT:Hid (Blk wt G 9 (strs (⟨#[115,99,104,101,100,117,108,101]⟩::nm::more))):=by show Blk _ _ _ _;rw[hwt];exact hkG.out.alloc _
    go_upto_region 7 with fail
    simp only[←hwt,←hT]
    clear hwt hT hg0 hg1 e1 e2 HQ2 HBA hbr hkB hkG hkD;have t0:=HT.out.cells;have hg0:wt.cell? ⟨G,0,none⟩=some (.string ⟨#[115,99,104,101,100,117,108,101]⟩):=HGT.out.cells 0;have hg1:wt.cell? ⟨G,1,none⟩=some (.string nm):=HGT.out.cells 1;go_quiet (fail);go_wp2_with fail;generalize hwq:wt.drewN _=wq;have HQQ:Hid (Below wt.heap.size wt wq):=by show Below _ _ _;rw[←hwq];exact drewN_below _ _ _
    clear hwq;refine (HNM.out wq (bstep HBT.out HQQ.out)).mono ?_;rintro e w5 ⟨rfl,hb5⟩;have HB5:=Lib.hid (bstep (bstep HBT.out HQQ.out) hb5);have HT5:=Lib.hid (HT.out.below (bstep HQQ.out hb5) HT.out.lt);have HK5:Hid (Blk w5 B 4 [.bool false]):=HKT.out.below (bstep HQQ.out hb5) HKT.out.lt;have HG5:=Lib.hid (HGT.out.below (bstep HQQ.out hb5) HGT.out.lt);clear t0 hg0 hg1 hb5 HT HBT HKT HGT;have t0:=HT5.out.cells;have HM5:=Lib.hid (HM.out w5);go_wp2_with fail;refine HM5.out.mono ?_;rintro e w6 ⟨rfl,hw6⟩;have hw7:=hw6.symm;clear hw6;subst hw7;clear t0;have HF5:Hid (∀W',Below w5.heap.size w5 W'→W'.cell? ⟨T,1,none⟩=some (.func (Fn.func 74) #[] #[])):=fun W' hb=>(HT5.out.below hb HT5.out.lt).cells 1
    have hk13:(1:Int)≤(k:Int)+3:=by omega
    go_upto_region 9 with fail
    refine wp_region_noPanic ?_;refine wp_region_held_drew (S:=(fun w'=>w'.cell? ⟨T,1,none⟩=some (.func (Fn.func 74) #[] #[]))) (by kernel_rfl) (HF5.out _ (drewN_below w5.heap.size w5 1)) (fun hHeld=>?_);refine tkY 0 ?_ rfl ?_ ?_;rotate_left
    ·intro w hSw;(try dsimp only at hSw);go_simp
     all_goals with_reducible rfl
    try simp only[Act.put,tk1,tk2,tk3,tk4,tk5,tk6]
    refine tkY 1 ?_ rfl ?_ ?_;rotate_left
    ·intro w hSw;(try dsimp only at hSw);go_simp
     all_goals with_reducible rfl
    try simp only[Act.put,tk1,tk2,tk3,tk4,tk5,tk6]
    refine tkY 2 ?_ rfl ?_ ?_;rotate_left
    ·intro w hSw;(try dsimp only at hSw);go_simp
     all_goals with_reducible rfl
    try simp only[Act.put,tk1,tk2,tk3,tk4,tk5,tk6]
    refine tkY 3 ?_ rfl ?_ ?_;rotate_left
    ·intro w hSw;(try dsimp only at hSw);go_simp
     all_goals with_reducible rfl
    try simp only[Act.put,tk1,tk2,tk3,tk4,tk5,tk6]
    refine tkY 4 ?_ rfl ?_ ?_;rotate_left
    ·intro w hSw;(try dsimp only at hSw);go_simp
     all_goals with_reducible rfl
    try simp only[Act.put,tk1,tk2,tk3,tk4,tk5,tk6]
    refine tkY 5 ?_ rfl ?_ ?_;rotate_left
    ·intro w hSw;(try dsimp only at hSw);go_simp
     all_goals with_reducible rfl
    try simp only[Act.put,tk1,tk2,tk3,tk4,tk5,tk6]
    refine wpAnyH_ready (rs:=[6]) (by kernel_rfl) (by simp) ?_;refine AllReadyH.cons rfl (fun K hK=>?_) AllReadyH.nil;go_simp;refine (HR.out _ G (bstep HB5.out (drewN_below w5.heap.size w5 1)) (HG5.out.below (drewN_below w5.heap.size w5 1) HG5.out.lt)).mono ?_;rintro e w8 ⟨rfl,hpx,hfr⟩;go_wp2_with fail;refine hK.out _ _ ?_ (fun hHeld=>?_)
    ·exact (show Blk w8 T _ _ from hfr.keep T _ (HT5.out.below (drewN_below w5.heap.size w5 1) HT5.out.lt) (fun e=>by have h1:=HRW.out;have h2:=HTW.out;omega) (fun cs t fr e=>by injection e with _ e2 _;subst e2;decide)).cells 1
    clear hK K
    try simp only[Act.put,tk1,tk2,tk3,tk4,tk5,tk6]
    refine wpAnyH_done (by kernel_rfl) ?_ _;refine NoPanic.normal ?_;have HK8:Hid (Blk w8 B 4 [.bool false]):=hfr.keep B _ (HK5.out.below (drewN_below w5.heap.size w5 1) HK5.out.lt) (by have h1:=HRW.out;have h2:=HBB.out;omega) (fun cs t fr e=>by injection e with _ e2 _;subst e2;decide);have HFR:Hid (FR R w w8):=FR.trans (FR.below (bstep HB5.out (drewN_below w5.heap.size w5 1))) hfr;have HPX:=Lib.hid hpx;clear hpx hfr;have hk8:=HK8.out.cells;have hf8:=HK8.out.froz;go_wp2;refine leaves_cons (f:=33) (args:=#[.pointer (some ⟨B,0,none⟩)]) (by simp) (by simp[go_sem]) ?_;refine (lcatch_idle B _).mono ?_;rintro e u' w9 ⟨rfl,rfl,hb9⟩;have hKS:=(HK8.out.set 0 (.bool true)).below hb9 (HK8.out.set 0 (.bool true)).lt;have hc9:w9.cell? ⟨B,0,none⟩=some (.bool true):=hKS.cells 0;simp[Leaves,settle,results,Tryz.results17,go_sem,hc9];exact⟨(HPX.out.setB HK8.out (Nat.le_trans HW0.out HBB.out) _).below hb9,fr_line HFR.out HBB.out hb9⟩
   ·have hne:(([115,99,104,101,100,117,108,101]:List UInt8)==wd.toList)=false:=by rcases HID.out with⟨h,h',_⟩|⟨h,h',_⟩|⟨h,h',_⟩<;>first|(exfalso;omega)|(subst h';simp only[ByteArray.toList_eq];decide)
    have HLT:Hid (1+1≤idx):=by have h1:=hidx.out;show 1+1≤idx;omega
    clear hidx;obtain⟨wt,hwt⟩:∃wt,wt=wr.alloc (.cells #[.string ⟨#[115,99,104,101,100,117,108,101]⟩,.func (Fn.func 74) #[] #[]] 102):=⟨_,rfl⟩
    obtain⟨T,hT⟩:∃T,T=wr.heap.size:=⟨_,rfl⟩
    have HTW:Hid (w.heap.size≤T):=by show _≤T;rw[hT];exact hbr.out.size
    have HT:Hid (Blk wt T 102 [.string ⟨#[115,99,104,101,100,117,108,101]⟩,.func (Fn.func 74) #[] #[]]):=by show Blk _ _ _ _;rw[hwt,hT];exact Blk.new wr _ _
    have HBT:Hid (Below w.heap.size w wt):=by show Below _ _ _;rw[hwt];exact HBA.out _
    have HKT:Hid (Blk wt B 4 [.bool false]):=by show Blk _ _ _ _;rw[hwt];exact hkB.out.alloc _
    have HGT:Hid (Blk wt G 9 (strs (wd::nm::more))):=by show Blk _ _ _ _;rw[hwt];exact hkG.out.alloc _
    have HDT:Hid (Blk wt D 102 rdrs):=by show Blk _ _ _ _;rw[hwt];exact hkD.out.alloc _
    clear hd0
    go_upto_region 7 with fail
    simp only[←hwt,←hT]
    clear hwt hT hg0 hg1 e1 e2 HQ2 HBA hbr hkB hkG hkD;have t0:=HT.out.cells;have hg0:wt.cell? ⟨G,0,none⟩=some (.string wd):=HGT.out.cells 0;go_quiet (fail);go_wp2;generalize hwq:wt.drewN _=wq;have HQQ:Hid (Below wt.heap.size wt wq):=by show Below _ _ _;rw[←hwq];exact drewN_below _ _ _
    clear hwq
    go_roundg 1
    case rel=>exact⟨1+1,by omega,by go_num,HLT,bstep HBT.out HQQ.out,HKT.out.below HQQ.out HKT.out.lt,HGT.out.below HQQ.out HGT.out.lt,HDT.out.below HQQ.out HDT.out.lt⟩
    all_goals omega
  ·obtain rfl:i=2:=hi2;have e1:wr.cell? ⟨D,4,none⟩=some (.string ⟨#[112,114,111,118,105,115,105,111,110]⟩):=hd0 4;have e2:wr.cell? ⟨D,5,none⟩=some (.func (Fn.func 76) #[] #[]):=hd0 5;have HQ2:Hid (∀o,Blk (wr.alloc (.cells o 102)) wr.heap.size 102 o.toList):=fun o=>Blk.new wr _ o
   have HBA:Hid (∀o,Below w.heap.size w (wr.alloc o)):=fun o=>hbr.out.alloc hbr.out.size o
   by_cases hix:idx=2
   ·obtain⟨rfl,rfl,rfl⟩:wd=⟨#[112,114,111,118,105,115,105,111,110]⟩∧fn=76∧col=true:=by rcases HID.out with⟨h,h'⟩|⟨h,h'⟩|⟨h,h'⟩<;>first|exact h'|(exfalso;omega)
    clear hd0 hidx;obtain⟨wt,hwt⟩:∃wt,wt=wr.alloc (.cells #[.string ⟨#[112,114,111,118,105,115,105,111,110]⟩,.func (Fn.func 76) #[] #[]] 102):=⟨_,rfl⟩
    obtain⟨T,hT⟩:∃T,T=wr.heap.size:=⟨_,rfl⟩
    have HTW:Hid (w.heap.size≤T):=by show _≤T;rw[hT];exact hbr.out.size
    have HT:Hid (Blk wt T 102 [.string ⟨#[112,114,111,118,105,115,105,111,110]⟩,.func (Fn.func 76) #[] #[]]):=by show Blk _ _ _ _;rw[hwt,hT];exact Blk.new wr _ _
    have HBT:Hid (Below w.heap.size w wt):=by show Below _ _ _;rw[hwt];exact HBA.out _
    have HKT:Hid (Blk wt B 4 [.bool false]):=by show Blk _ _ _ _;rw[hwt];exact hkB.out.alloc _
    have HGT:Hid (Blk wt G 9 (strs (⟨#[112,114,111,118,105,115,105,111,110]⟩::nm::more))):=by show Blk _ _ _ _;rw[hwt];exact hkG.out.alloc _
    go_upto_region 7 with fail
    simp only[←hwt,←hT]
    clear hwt hT hg0 hg1 e1 e2 HQ2 HBA hbr hkB hkG hkD;have t0:=HT.out.cells;have hg0:wt.cell? ⟨G,0,none⟩=some (.string ⟨#[112,114,111,118,105,115,105,111,110]⟩):=HGT.out.cells 0;have hg1:wt.cell? ⟨G,1,none⟩=some (.string nm):=HGT.out.cells 1;go_quiet (fail);go_wp2_with fail;generalize hwq:wt.drewN _=wq;have HQQ:Hid (Below wt.heap.size wt wq):=by show Below _ _ _;rw[←hwq];exact drewN_below _ _ _
    clear hwq;refine (HNM.out wq (bstep HBT.out HQQ.out)).mono ?_;rintro e w5 ⟨rfl,hb5⟩;have HB5:=Lib.hid (bstep (bstep HBT.out HQQ.out) hb5);have HT5:=Lib.hid (HT.out.below (bstep HQQ.out hb5) HT.out.lt);have HK5:Hid (Blk w5 B 4 [.bool false]):=HKT.out.below (bstep HQQ.out hb5) HKT.out.lt;have HG5:=Lib.hid (HGT.out.below (bstep HQQ.out hb5) HGT.out.lt);clear t0 hg0 hg1 hb5 HT HBT HKT HGT;have t0:=HT5.out.cells;have HM5:=Lib.hid (HM.out w5);go_wp2_with fail;refine HM5.out.mono ?_;rintro e w6 ⟨rfl,hw6⟩;have hw7:=hw6.symm;clear hw6;subst hw7;clear t0;have HF5:Hid (∀W',Below w5.heap.size w5 W'→W'.cell? ⟨T,1,none⟩=some (.func (Fn.func 76) #[] #[])):=fun W' hb=>(HT5.out.below hb HT5.out.lt).cells 1
    have hk13:(1:Int)≤(k:Int)+3:=by omega
    go_upto_region 9 with fail
    refine wp_region_noPanic ?_;refine wp_region_held_drew (S:=(fun w'=>w'.cell? ⟨T,1,none⟩=some (.func (Fn.func 76) #[] #[]))) (by kernel_rfl) (HF5.out _ (drewN_below w5.heap.size w5 1)) (fun hHeld=>?_);refine tkY 0 ?_ rfl ?_ ?_;rotate_left
    ·intro w hSw;(try dsimp only at hSw);go_simp
     all_goals with_reducible rfl
    try simp only[Act.put,tk1,tk2,tk3,tk4,tk5,tk6]
    refine tkY 1 ?_ rfl ?_ ?_;rotate_left
    ·intro w hSw;(try dsimp only at hSw);go_simp
     all_goals with_reducible rfl
    try simp only[Act.put,tk1,tk2,tk3,tk4,tk5,tk6]
    refine tkY 2 ?_ rfl ?_ ?_;rotate_left
    ·intro w hSw;(try dsimp only at hSw);go_simp
     all_goals with_reducible rfl
    try simp only[Act.put,tk1,tk2,tk3,tk4,tk5,tk6]
    refine tkY 3 ?_ rfl ?_ ?_;rotate_left
    ·intro w hSw;(try dsimp only at hSw);go_simp
     all_goals with_reducible rfl
    try simp only[Act.put,tk1,tk2,tk3,tk4,tk5,tk6]
    refine tkY 4 ?_ rfl ?_ ?_;rotate_left
    ·intro w hSw;(try dsimp only at hSw);go_simp
     all_goals with_reducible rfl
    try simp only[Act.put,tk1,tk2,tk3,tk4,tk5,tk6]
    refine tkY 5 ?_ rfl ?_ ?_;rotate_left
    ·intro w hSw;(try dsimp only at hSw);go_simp
     all_goals with_reducible rfl
    try simp only[Act.put,tk1,tk2,tk3,tk4,tk5,tk6]
    refine wpAnyH_ready (rs:=[6]) (by kernel_rfl) (by simp) ?_;refine AllReadyH.cons rfl (fun K hK=>?_) AllReadyH.nil;go_simp;refine (HR.out _ G (bstep HB5.out (drewN_below w5.heap.size w5 1)) (HG5.out.below (drewN_below w5.heap.size w5 1) HG5.out.lt)).mono ?_;rintro e w8 ⟨rfl,hpx,hfr⟩;go_wp2_with fail;refine hK.out _ _ ?_ (fun hHeld=>?_)
    ·exact (show Blk w8 T _ _ from hfr.keep T _ (HT5.out.below (drewN_below w5.heap.size w5 1) HT5.out.lt) (fun e=>by have h1:=HRW.out;have h2:=HTW.out;omega) (fun cs t fr e=>by injection e with _ e2 _;subst e2;decide)).cells 1
    clear hK K
    try simp only[Act.put,tk1,tk2,tk3,tk4,tk5,tk6]
    refine wpAnyH_done (by kernel_rfl) ?_ _;refine NoPanic.normal ?_;have HK8:Hid (Blk w8 B 4 [.bool false]):=hfr.keep B _ (HK5.out.below (drewN_below w5.heap.size w5 1) HK5.out.lt) (by have h1:=HRW.out;have h2:=HBB.out;omega) (fun cs t fr e=>by injection e with _ e2 _;subst e2;decide);have HFR:Hid (FR R w w8):=FR.trans (FR.below (bstep HB5.out (drewN_below w5.heap.size w5 1))) hfr;have HPX:=Lib.hid hpx;clear hpx hfr;have hk8:=HK8.out.cells;have hf8:=HK8.out.froz;go_wp2;refine leaves_cons (f:=33) (args:=#[.pointer (some ⟨B,0,none⟩)]) (by simp) (by simp[go_sem]) ?_;refine (lcatch_idle B _).mono ?_;rintro e u' w9 ⟨rfl,rfl,hb9⟩;have hKS:=(HK8.out.set 0 (.bool true)).below hb9 (HK8.out.set 0 (.bool true)).lt;have hc9:w9.cell? ⟨B,0,none⟩=some (.bool true):=hKS.cells 0;simp[Leaves,settle,results,Tryz.results17,go_sem,hc9];exact⟨(HPX.out.setB HK8.out (Nat.le_trans HW0.out HBB.out) _).below hb9,fr_line HFR.out HBB.out hb9⟩
   ·exfalso;have h1:=hidx.out;rcases HID.out with h|h|h<;>omega
theorem info_decl:(Tryz.prog.info? 42).map (fun i=>(i.zero,i.size,i.bytes))=some (some (.agg #[.string ⟨#[]⟩,.bool false,.int .i64 0,.int .i64 0]),4,40):=by kernel_rfl
set_option maxRecDepth 100000 in
set_option maxHeartbeats 3200000 in
theorem uFact_any (w0 w:World) (R g c:Nat) (l:Lw) (ss:List (Sc × Hd)) (ps:List (Pv × Hd)) (fv sv pv:Value) (nm s rest:ByteArray) (t:Ty) (h:PT w0 w R l ss ps fv sv pv) (hL:LaidK w) (ht:tyIn t=true) (hs:s=tyText t) (hn:l.facts.length≤1000) (hg:∃cs,Blk w g 9 cs∧cs[1]?=some (.string nm)∧cs[2]?=some (.string s)):
  Calls Tryz.prog 72 #[.pointer (some ⟨R,0,none⟩),.slice (some ⟨g,1,none⟩) 2 c,.string rest] w fun e w'=>e=.returned (.tuple #[])∧(∃v',PT w0 w' R ⟨l.facts++[⟨nm,t⟩],l.schs,l.provs⟩ ss ps v' sv pv)∧FR R w w':=by
 obtain⟨cs,hg0,hg1,hg2⟩:=hg;have HT:=Lib.hid (fun W (hb:Below w.heap.size w W)=>hs ▸ uTypeOf_any t W (hL.below hb) ht);have HPT:=Lib.hid h;have HSS:Hid (∀W,Below w.heap.size w W→W.cell? ⟨g,1,none⟩=some (.string nm)∧W.cell? ⟨g,2,none⟩=some (.string s)):=fun W hb=>⟨((hg0.below hb hg0.lt).cells 1).trans hg1,((hg0.below hb hg0.lt).cells 2).trans hg2⟩
 have HGR:Hid (∀W W',Below w.heap.size w W→TF 42 W W'→W'.cell? ⟨g,1,none⟩=some (.string nm)∧W'.cell? ⟨g,2,none⟩=some (.string s)):=fun W W' hb ht=>⟨((ht.blk (hg0.below hb hg0.lt) (by decide)).cells 1).trans hg1,((ht.blk (hg0.below hb hg0.lt) (by decide)).cells 2).trans hg2⟩
 have HM:=Lib.hid (must_yes w)
 have HRG:Hid (R≠g):=by
  rintro rfl;have e1:(Obj.cells _ _ _:Obj)=Obj.cells _ _ _:=Option.some.inj (h.blk.symm.trans hg0);injection e1 with _ e2 _;exact absurd e2 (by decide)
 obtain⟨tt,tm,td⟩:=t;unfold Ty.v at HT;simp only at HT;clear h hL ht hs hg0 hg1 hg2;go_enter Tryz.func72,Tryz.ntmps72;go_wp2_with fail;refine HM.out.mono ?_;rintro e w1 ⟨rfl,hw1⟩;have hw2:=hw1.symm;clear hw1;subst hw2
 go_upto_region 1 with fail
 refine wp_region_noPanic ?_;refine wp_region_held_drew (S:=(fun w'=>w'.cell? ⟨g,1,none⟩=some (.string nm)∧w'.cell? ⟨g,2,none⟩=some (.string s))) (by kernel_rfl) (HSS.out _ (Below.drew (Below.refl _ w))) (fun hHeld=>?_);refine tkY 0 ?_ rfl ?_ ?_;rotate_left
 ·intro w hSw;(try dsimp only at hSw);go_simp
  all_goals with_reducible rfl
 try simp only[Act.put,tk1,tk2,tk3,tk4,tk5,tk6]
 refine tkY 1 ?_ rfl ?_ ?_;rotate_left
 ·intro w hSw;(try dsimp only at hSw);go_simp
  all_goals with_reducible rfl
 try simp only[Act.put,tk1,tk2,tk3,tk4,tk5,tk6]
 refine tkY 2 ?_ rfl ?_ ?_;rotate_left
 ·intro w hSw;(try dsimp only at hSw);go_simp
  all_goals with_reducible rfl
 try simp only[Act.put,tk1,tk2,tk3,tk4,tk5,tk6]
 refine tkY 3 ?_ rfl ?_ ?_;rotate_left
 ·intro w hSw;(try dsimp only at hSw);go_simp
  all_goals with_reducible rfl
 try simp only[Act.put,tk1,tk2,tk3,tk4,tk5,tk6]
 refine tkY 5 ?_ rfl ?_ ?_;rotate_left
 ·intro w hSw;(try dsimp only at hSw);go_simp
  all_goals with_reducible rfl
 try simp only[Act.put,tk1,tk2,tk3,tk4,tk5,tk6]
 refine tkY 6 ?_ rfl ?_ ?_;rotate_left
 ·intro w hSw;(try dsimp only at hSw);go_simp
  all_goals with_reducible rfl
 try simp only[Act.put,tk1,tk2,tk3,tk4,tk5,tk6]
 refine tkY 8 ?_ rfl ?_ ?_;rotate_left
 ·intro w hSw;(try dsimp only at hSw);go_simp
  all_goals with_reducible rfl
 try simp only[Act.put,tk1,tk2,tk3,tk4,tk5,tk6]
 refine tkY 9 ?_ rfl ?_ ?_;rotate_left
 ·intro w hSw;(try dsimp only at hSw);go_simp
  all_goals with_reducible rfl
 try simp only[Act.put,tk1,tk2,tk3,tk4,tk5,tk6]
 refine tkY 10 ?_ rfl ?_ ?_;rotate_left
 ·intro w hSw;(try dsimp only at hSw);go_simp
  all_goals with_reducible rfl
 try simp only[Act.put,tk1,tk2,tk3,tk4,tk5,tk6]
 refine tkY 7 ?_ rfl ?_ ?_;rotate_left
 ·intro w hSw;(try dsimp only at hSw);go_simp
  all_goals with_reducible rfl
 try simp only[Act.put,tk1,tk2,tk3,tk4,tk5,tk6]
 refine wpAnyH_ready (rs:=[4,11]) (by kernel_rfl) (by simp) ?_;refine AllReadyH.cons rfl (fun K hK=>?_) (AllReadyH.cons rfl (fun K hK=>?_) AllReadyH.nil)
 ·have hc4:(w).cell? ⟨R,0,none⟩=some fv:=(HPT.out.blk.cells 0)
  go_simp
  skip
  go_wp2_with fail;refine hK.out _ _ ?_ (fun hHeld=>?_)
  ·exact HSS.out _ (drewN_below w.heap.size w 1)
  clear hK K
  try simp only[Act.put,tk1,tk2,tk3,tk4,tk5,tk6]
  refine wpAnyH_ready (rs:=[11]) (by kernel_rfl) (by simp) ?_;refine AllReadyH.cons rfl (fun K hK=>?_) AllReadyH.nil;go_simp;refine (HT.out _ (drewN_below w.heap.size w 1)).mono ?_;rintro e w10 ⟨rfl,hb10⟩;have HB10:=Lib.hid (bstep (drewN_below w.heap.size w 1) hb10);go_wp2_with fail;refine hK.out _ _ ?_ (fun hHeld=>?_)
  ·exact HSS.out _ HB10.out
  clear hK K
  try simp only[Act.put,tk1,tk2,tk3,tk4,tk5,tk6]
  refine tkY 12 ?_ rfl ?_ ?_;rotate_left
  ·intro w hSw;(try dsimp only at hSw);go_simp
   all_goals with_reducible rfl
  try simp only[Act.put,tk1,tk2,tk3,tk4,tk5,tk6]
  refine wpAnyH_ready (rs:=[13]) (by kernel_rfl) (by simp) ?_;refine AllReadyH.cons rfl (fun K hK=>?_) AllReadyH.nil;go_simp
  skip
  go_wp2_with fail;refine hK.out _ _ ?_ (fun hHeld=>?_)
  ·exact HSS.out _ (HB10.out.alloc HB10.out.size _)
  clear hK K
  try simp only[Act.put,tk1,tk2,tk3,tk4,tk5,tk6]
  refine wpAnyH_ready (rs:=[14]) (by kernel_rfl) (by simp) ?_;refine AllReadyH.cons rfl (fun K hK=>?_) AllReadyH.nil;have HP:=Lib.hid (HPT.out.below HB10.out);refine step_push_at w10 #[.string nm,.bool tt,.int .i64 tm,.int .i64 td] (by rfl) _ _ 25 (by rfl) (R+1) 42 (.agg #[.string ⟨#[]⟩,.bool false,.int .i64 0,.int .i64 0]) 4 40 1 Tryz.underlying25 info_decl rfl (by decide) fv l.facts.length (l.facts.flatMap Dc.cells) (by rfl) HP.out.f (by rfl) rfl ?_ ?_ ?_ ?_ ?_
  any_goals first|(unfold maxLen;omega)|omega
  ·intro u hu;simp only[List.mem_cons,List.not_mem_nil,or_false] at hu;rcases hu with rfl|rfl|rfl|rfl<;>rfl
  ·have h1:=HP.out.bl.size;have h2:=HP.out.blk.lt;omega
  intro v' w11 hown hgr _;obtain⟨Av,cv,rfl,_⟩:=own_rd hown;have HQ:=Lib.hid (HP.out.pushF ⟨nm,⟨tt,tm,td⟩⟩ hown hgr);have HK:=Lib.hid ((TF.grown HP.out.f hgr).blk HP.out.blk (by decide));have HG2:Hid (w11.cell? ⟨g,1,none⟩=some (.string nm)∧w11.cell? ⟨g,2,none⟩=some (.string s)):=HGR.out _ _ HB10.out (TF.grown HP.out.f hgr);have HFR:Hid (FR R w _):=FR.grown (i:=0) (u:=.slice Av (l.facts.length+1) cv) HB10.out HP.out.f (.inl rfl) hgr;clear hown hgr;refine hK.out _ _ ?_ (fun hHeld=>?_)
  ·exact HG2.out
  clear hK K
  try simp only[Act.put,tk1,tk2,tk3,tk4,tk5,tk6]
  refine tkY 15 ?_ rfl ?_ ?_;rotate_left
  ·intro w hSw;(try dsimp only at hSw);go_simp
   all_goals with_reducible rfl
  try simp only[Act.put,tk1,tk2,tk3,tk4,tk5,tk6]
  refine tkY 16 ?_ rfl ?_ ?_;rotate_left
  ·intro w hSw;(try dsimp only at hSw);go_simp
   all_goals with_reducible rfl
  try simp only[Act.put,tk1,tk2,tk3,tk4,tk5,tk6]
  refine wpAnyH_ready (rs:=[17]) (by kernel_rfl) (by simp) ?_;refine AllReadyH.cons rfl (fun K hK=>?_) AllReadyH.nil;have hkc:=HK.out.cells;have hkf:=HK.out.froz;go_simp
  skip
  go_wp2_with fail;refine hK.out _ _ ?_ (fun hHeld=>?_)
  ·exact⟨by rw[World.cell?_setCell_other _ _ _ _ (by simp[HRG.out])];exact HG2.out.1,by rw[World.cell?_setCell_other _ _ _ _ (by simp[HRG.out])];exact HG2.out.2⟩
  clear hK K
  try simp only[Act.put,tk1,tk2,tk3,tk4,tk5,tk6]
  refine wpAnyH_done (by kernel_rfl) ?_ _;refine NoPanic.normal ?_;go_wp2;go_end0;exact⟨rfl,⟨_,HQ.out⟩,HFR.out⟩
 ·go_simp;refine (HT.out _ (drewN_below w.heap.size w 1)).mono ?_;rintro e w10 ⟨rfl,hb10⟩;have HB10:=Lib.hid (bstep (drewN_below w.heap.size w 1) hb10);go_wp2_with fail;refine hK.out _ _ ?_ (fun hHeld=>?_)
  ·exact HSS.out _ HB10.out
  clear hK K
  try simp only[Act.put,tk1,tk2,tk3,tk4,tk5,tk6]
  refine tkY 12 ?_ rfl ?_ ?_;rotate_left
  ·intro w hSw;(try dsimp only at hSw);go_simp
   all_goals with_reducible rfl
  try simp only[Act.put,tk1,tk2,tk3,tk4,tk5,tk6]
  refine wpAnyH_ready (rs:=[4,13]) (by kernel_rfl) (by simp) ?_;refine AllReadyH.cons rfl (fun K hK=>?_) (AllReadyH.cons rfl (fun K hK=>?_) AllReadyH.nil)
  ·have hc4:(w10).cell? ⟨R,0,none⟩=some fv:=((HPT.out.below HB10.out).blk.cells 0)
   go_simp
   skip
   go_wp2_with fail;refine hK.out _ _ ?_ (fun hHeld=>?_)
   ·exact HSS.out _ HB10.out
   clear hK K
   try simp only[Act.put,tk1,tk2,tk3,tk4,tk5,tk6]
   refine wpAnyH_ready (rs:=[13]) (by kernel_rfl) (by simp) ?_;refine AllReadyH.cons rfl (fun K hK=>?_) AllReadyH.nil;go_simp
   skip
   go_wp2_with fail;refine hK.out _ _ ?_ (fun hHeld=>?_)
   ·exact HSS.out _ (HB10.out.alloc HB10.out.size _)
   clear hK K
   try simp only[Act.put,tk1,tk2,tk3,tk4,tk5,tk6]
   refine wpAnyH_ready (rs:=[14]) (by kernel_rfl) (by simp) ?_;refine AllReadyH.cons rfl (fun K hK=>?_) AllReadyH.nil;have HP:=Lib.hid (HPT.out.below HB10.out);refine step_push_at w10 #[.string nm,.bool tt,.int .i64 tm,.int .i64 td] (by rfl) _ _ 25 (by rfl) (R+1) 42 (.agg #[.string ⟨#[]⟩,.bool false,.int .i64 0,.int .i64 0]) 4 40 1 Tryz.underlying25 info_decl rfl (by decide) fv l.facts.length (l.facts.flatMap Dc.cells) (by rfl) HP.out.f (by rfl) rfl ?_ ?_ ?_ ?_ ?_
   any_goals first|(unfold maxLen;omega)|omega
   ·intro u hu;simp only[List.mem_cons,List.not_mem_nil,or_false] at hu;rcases hu with rfl|rfl|rfl|rfl<;>rfl
   ·have h1:=HP.out.bl.size;have h2:=HP.out.blk.lt;omega
   intro v' w11 hown hgr _;obtain⟨Av,cv,rfl,_⟩:=own_rd hown;have HQ:=Lib.hid (HP.out.pushF ⟨nm,⟨tt,tm,td⟩⟩ hown hgr);have HK:=Lib.hid ((TF.grown HP.out.f hgr).blk HP.out.blk (by decide));have HG2:Hid (w11.cell? ⟨g,1,none⟩=some (.string nm)∧w11.cell? ⟨g,2,none⟩=some (.string s)):=HGR.out _ _ HB10.out (TF.grown HP.out.f hgr);have HFR:Hid (FR R w _):=FR.grown (i:=0) (u:=.slice Av (l.facts.length+1) cv) HB10.out HP.out.f (.inl rfl) hgr;clear hown hgr;refine hK.out _ _ ?_ (fun hHeld=>?_)
   ·exact HG2.out
   clear hK K
   try simp only[Act.put,tk1,tk2,tk3,tk4,tk5,tk6]
   refine tkY 15 ?_ rfl ?_ ?_;rotate_left
   ·intro w hSw;(try dsimp only at hSw);go_simp
    all_goals with_reducible rfl
   try simp only[Act.put,tk1,tk2,tk3,tk4,tk5,tk6]
   refine tkY 16 ?_ rfl ?_ ?_;rotate_left
   ·intro w hSw;(try dsimp only at hSw);go_simp
    all_goals with_reducible rfl
   try simp only[Act.put,tk1,tk2,tk3,tk4,tk5,tk6]
   refine wpAnyH_ready (rs:=[17]) (by kernel_rfl) (by simp) ?_;refine AllReadyH.cons rfl (fun K hK=>?_) AllReadyH.nil;have hkc:=HK.out.cells;have hkf:=HK.out.froz;go_simp
   skip
   go_wp2_with fail;refine hK.out _ _ ?_ (fun hHeld=>?_)
   ·exact⟨by rw[World.cell?_setCell_other _ _ _ _ (by simp[HRG.out])];exact HG2.out.1,by rw[World.cell?_setCell_other _ _ _ _ (by simp[HRG.out])];exact HG2.out.2⟩
   clear hK K
   try simp only[Act.put,tk1,tk2,tk3,tk4,tk5,tk6]
   refine wpAnyH_done (by kernel_rfl) ?_ _;refine NoPanic.normal ?_;go_wp2;go_end0;exact⟨rfl,⟨_,HQ.out⟩,HFR.out⟩
  ·go_simp
   skip
   go_wp2_with fail;refine hK.out _ _ ?_ (fun hHeld=>?_)
   ·exact HSS.out _ (HB10.out.alloc HB10.out.size _)
   clear hK K
   try simp only[Act.put,tk1,tk2,tk3,tk4,tk5,tk6]
   refine wpAnyH_ready (rs:=[4]) (by kernel_rfl) (by simp) ?_;refine AllReadyH.cons rfl (fun K hK=>?_) AllReadyH.nil;have hc4:(w10.alloc (.cells #[.string nm,.bool tt,.int .i64 tm,.int .i64 td] 42)).cell? ⟨R,0,none⟩=some fv:=((HPT.out.below (HB10.out.alloc HB10.out.size (.cells #[.string nm,.bool tt,.int .i64 tm,.int .i64 td] 42))).blk.cells 0)
   go_simp
   skip
   go_wp2_with fail;refine hK.out _ _ ?_ (fun hHeld=>?_)
   ·exact HSS.out _ (HB10.out.alloc HB10.out.size _)
   clear hK K
   try simp only[Act.put,tk1,tk2,tk3,tk4,tk5,tk6]
   refine wpAnyH_ready (rs:=[14]) (by kernel_rfl) (by simp) ?_;refine AllReadyH.cons rfl (fun K hK=>?_) AllReadyH.nil;have HP:=Lib.hid (HPT.out.below HB10.out);refine step_push_at w10 #[.string nm,.bool tt,.int .i64 tm,.int .i64 td] (by rfl) _ _ 25 (by rfl) (R+1) 42 (.agg #[.string ⟨#[]⟩,.bool false,.int .i64 0,.int .i64 0]) 4 40 1 Tryz.underlying25 info_decl rfl (by decide) fv l.facts.length (l.facts.flatMap Dc.cells) (by rfl) HP.out.f (by rfl) rfl ?_ ?_ ?_ ?_ ?_
   any_goals first|(unfold maxLen;omega)|omega
   ·intro u hu;simp only[List.mem_cons,List.not_mem_nil,or_false] at hu;rcases hu with rfl|rfl|rfl|rfl<;>rfl
   ·have h1:=HP.out.bl.size;have h2:=HP.out.blk.lt;omega
   intro v' w11 hown hgr _;obtain⟨Av,cv,rfl,_⟩:=own_rd hown;have HQ:=Lib.hid (HP.out.pushF ⟨nm,⟨tt,tm,td⟩⟩ hown hgr);have HK:=Lib.hid ((TF.grown HP.out.f hgr).blk HP.out.blk (by decide));have HG2:Hid (w11.cell? ⟨g,1,none⟩=some (.string nm)∧w11.cell? ⟨g,2,none⟩=some (.string s)):=HGR.out _ _ HB10.out (TF.grown HP.out.f hgr);have HFR:Hid (FR R w _):=FR.grown (i:=0) (u:=.slice Av (l.facts.length+1) cv) HB10.out HP.out.f (.inl rfl) hgr;clear hown hgr;refine hK.out _ _ ?_ (fun hHeld=>?_)
   ·exact HG2.out
   clear hK K
   try simp only[Act.put,tk1,tk2,tk3,tk4,tk5,tk6]
   refine tkY 15 ?_ rfl ?_ ?_;rotate_left
   ·intro w hSw;(try dsimp only at hSw);go_simp
    all_goals with_reducible rfl
   try simp only[Act.put,tk1,tk2,tk3,tk4,tk5,tk6]
   refine tkY 16 ?_ rfl ?_ ?_;rotate_left
   ·intro w hSw;(try dsimp only at hSw);go_simp
    all_goals with_reducible rfl
   try simp only[Act.put,tk1,tk2,tk3,tk4,tk5,tk6]
   refine wpAnyH_ready (rs:=[17]) (by kernel_rfl) (by simp) ?_;refine AllReadyH.cons rfl (fun K hK=>?_) AllReadyH.nil;have hkc:=HK.out.cells;have hkf:=HK.out.froz;go_simp
   skip
   go_wp2_with fail;refine hK.out _ _ ?_ (fun hHeld=>?_)
   ·exact⟨by rw[World.cell?_setCell_other _ _ _ _ (by simp[HRG.out])];exact HG2.out.1,by rw[World.cell?_setCell_other _ _ _ _ (by simp[HRG.out])];exact HG2.out.2⟩
   clear hK K
   try simp only[Act.put,tk1,tk2,tk3,tk4,tk5,tk6]
   refine wpAnyH_done (by kernel_rfl) ?_ _;refine NoPanic.normal ?_;go_wp2;go_end0;exact⟨rfl,⟨_,HQ.out⟩,HFR.out⟩
end Go.Proofs.YtfajelpcfnfjkaaGreatDoor
