/- A part of the proof: Uk Um Us Ul Th Uo Up Uu. -/
import Derived.Deep.RegionHeld3
import Derived.Deep.Cut
import Derived.Deep.CutRange
import Derived.Test.YtkgiaegmkncljaaGreatDoorS01
import Derived.Test.YtkgiaegmkncljaaGreatDoorS03
import Derived.Test.YtkgiaegmkncljaaGreatDoorS20
import Derived.Test.YtkgiaegmkncljaaGreatDoorS23
import Derived.Test.YtkgiaegmkncljaaGreatDoorS25
import Derived.Test.YtkgiaegmkncljaaGreatDoorS27
import Derived.Test.YtkgiaegmkncljaaGreatDoorS29
import Derived.Test.YtkgiaegmkncljaaGreatDoorS32
import Derived.Test.YtkgiaegmkncljaaGreatDoorS34
set_option linter.unusedVariables false
set_option linter.unusedSimpArgs false
set_option maxRecDepth 100000
set_option maxHeartbeats 40000000
namespace Go.Proofs.YtkgiaegmkncljaaGreatDoor
open Go.RowKit
structure TF (t:TypeId) (w w':World):Prop where
 size:w.heap.size≤w'.heap.size
 keep:∀(k:Nat) (cs:Array Value) (t':TypeId) (fr:Nat × Nat),w.heap[k]?=some (Obj.cells cs t' fr)→t'≠t→w'.heap[k]?=some (Obj.cells cs t' fr)
theorem TF.own {t e:TypeId} {w w':World} {B s n:Nat} {v:Value} {xs:List Value} (h:TF t w w') (ho:w.ownsRow B e s v n xs) (he:e≠t):w'.ownsRow B e s v n xs:=by
 refine⟨ho.1,ho.2.imp id ?_⟩;rintro⟨g,cap,cur,h1,h2,h3,h4⟩;exact⟨g,cap,cur,h1,h2,h.keep g _ _ _ h3 he,h4⟩
theorem TF.blk {t e:TypeId} {w w':World} {b:Nat} {cs:List Value} (h:TF t w w') (hb:Blk w b e cs) (he:e≠t):Blk w' b e cs:=h.keep b _ _ _ hb he
theorem TF.grown {t:TypeId} {w w':World} {B s n:Nat} {v:Value} {xs:List Value} (ho:w.ownsRow B t s v n xs) (hg:w.grownBy w' v.ownBlock):TF t w w':=by
 refine⟨hg.size,fun k cs t' fr hk ht=>(hg.block k (lt_of_some hk) ?_).trans hk⟩;intro he;rcases ho.2 with⟨rfl,_⟩|⟨g,cap,cur,rfl,_,h3,_⟩
 ·cases he
 ·injection he with he;subst he;rw[h3] at hk;injection hk with hk;injection hk with _ h5 _;exact ht h5.symm
theorem TF.set {t e:TypeId} {w:World} {R:Nat} {cs:List Value} (hb:Blk w R t cs) (i:Nat) (u:Value):TF t w (w.setCell ⟨R,i,none⟩ u):=by
 refine⟨by simp[World.setCell],fun k cs' t' fr hk ht=>(Below.heap_setCell w _ u k ?_).trans hk⟩;show k≠R;rintro rfl;have h:w.heap[k]?=_:=hb;rw[h] at hk;injection hk with hk;injection hk with _ h5 _;exact ht h5.symm
structure FR (R:Nat) (w w':World):Prop where
 size:w.heap.size≤w'.heap.size
 keep:∀(k:Nat) (o:Obj),w.heap[k]?=some o→k≠R→(∀cs t fr,o=Obj.cells cs t fr→t≠53∧t≠56∧t≠46)→w'.heap[k]?=some o
theorem FR.below {R:Nat} {w w':World} (h:Below w.heap.size w w'):FR R w w':=⟨h.size,fun k o hk _ _=>(h.block k (lt_of_some hk)).trans hk⟩
theorem FR.trans {R:Nat} {a b c:World} (h:FR R a b) (k:FR R b c):FR R a c:=⟨Nat.le_trans h.size k.size,fun i o hi hr ho=>k.keep i o (h.keep i o hi hr ho) hr ho⟩
theorem FR.grown {R i:Nat} {w w1 w2:World} {B e s n:Nat} {v u:Value} {xs:List Value} (hb:Below w.heap.size w w1) (ho:w1.ownsRow B e s v n xs) (he:e=53∨e=56∨e=46) (hg:w1.grownBy w2 v.ownBlock):FR R w (w2.setCell ⟨R,i,none⟩ u):=by
 refine⟨Nat.le_trans hb.size (Nat.le_trans hg.size (by simp[World.setCell])),fun k o hk hR ht=>?_⟩;have h1:w1.heap[k]?=some o:=(hb.block k (lt_of_some hk)).trans hk;refine (Below.heap_setCell w2 _ u k hR).trans ((hg.block k (lt_of_some h1) ?_).trans h1);intro hq;rcases ho.2 with⟨rfl,_⟩|⟨g,cap,cur,rfl,_,h3,_⟩
 ·cases hq
 ·injection hq with hq;subst hq;rw[h3] at h1;injection h1 with h1;obtain⟨k1,k2,k3⟩:=ht _ _ _ h1.symm;rcases he with h|h|h
  ·exact k1 h
  ·exact k2 h
  ·exact k3 h
structure PT (w0 w:World) (R:Nat) (l:Lw) (ss:List (Sc × Hd)) (ps:List (Pv × Hd)) (fv sv pv:Value):Prop where
 r:w0.heap.size≤R
 bl:Below w0.heap.size w0 w
 blk:Blk w R 30 [fv,sv,pv]
 f:w.ownsRow (R+1) 53 4 fv l.facts.length (l.facts.flatMap Dc.cells)
 s:w.ownsRow (R+1) 56 4 sv ss.length (ss.flatMap scCells)
 p:w.ownsRow (R+1) 46 12 pv ps.length (ps.flatMap pvCells)
 sl:ss.map Prod.fst=l.schs
 pl:ps.map Prod.fst=l.provs
 sb:∀x∈ss,x.2.n=x.1.brs.length∧w.ownsRow (R+1) 118 6 (.slice x.2.a x.2.n x.2.c) x.2.n (x.1.brs.flatMap Bk.cells)
 pb:∀x∈ps,x.2.n=x.1.body.length∧w.ownsRow (R+1) 59 5 (.slice x.2.a x.2.n x.2.c) x.2.n (nds x.1.body)
theorem PT.below {w0 w w':World} {R:Nat} {l:Lw} {ss:List (Sc × Hd)} {ps:List (Pv × Hd)} {fv sv pv:Value} (h:PT w0 w R l ss ps fv sv pv) (hb:Below w.heap.size w w'):PT w0 w' R l ss ps fv sv pv:=
 ⟨h.r,bstep h.bl hb,h.blk.below hb h.blk.lt,own_below h.f hb,own_below h.s hb,own_below h.p hb,h.sl,h.pl,fun x hx=>⟨(h.sb x hx).1,own_below (h.sb x hx).2 hb⟩,fun x hx=>⟨(h.pb x hx).1,own_below (h.pb x hx).2 hb⟩⟩
theorem own_hd {w:World} {B e s n:Nat} {A:Option Addr} {m c:Nat} {xs:List Value} (h:w.ownsRow B e s (.slice A m c) n xs):m=n∧n≤c∧c≤maxLen∧Rd w A xs:=by
 obtain⟨A',c',hv,h1,h2,h3,_⟩:=own_rd h;injection hv with e1 e2 e3;exact⟨e2,by omega,by omega,by rw[e1];exact h3⟩
theorem PT.law {w0 w:World} {R:Nat} {l:Lw} {ss:List (Sc × Hd)} {ps:List (Pv × Hd)} {fv sv pv:Value} (h:PT w0 w R l ss ps fv sv pv):∃f s p:Hd,fv=.slice f.a f.n f.c∧sv=.slice s.a s.n s.c∧pv=.slice p.a p.n p.c∧LawAt w l ss ps f s p:=by
 obtain⟨f,rfl,_,hf⟩:=RowAt.of_own h.f rfl;obtain⟨s,rfl,_,hs⟩:=RowAt.of_own h.s rfl;obtain⟨p,rfl,_,hp⟩:=RowAt.of_own h.p rfl;refine⟨f,s,p,rfl,rfl,rfl,hf,hs,hp,h.sl,h.pl,fun x hx=>?_,fun x hx=>?_⟩
 ·obtain⟨h1,h2⟩:=h.sb x hx;obtain⟨_,h3,h4,h5⟩:=own_hd h2;exact⟨h1,h3,h4,h5⟩
 ·obtain⟨h1,h2⟩:=h.pb x hx;obtain⟨_,h3,h4,h5⟩:=own_hd h2;exact⟨h1,h3,h4,h5⟩
theorem PT.bl2 {w0 W w':World} {R:Nat} {l:Lw} {ss:List (Sc × Hd)} {ps:List (Pv × Hd)} {fv sv pv v u:Value} {i n s:Nat} {e:TypeId} {xs:List Value} (h:PT w0 W R l ss ps fv sv pv) (ho:W.ownsRow (R+1) e s v n xs) (hg:W.grownBy w' v.ownBlock):Below w0.heap.size w0 (w'.setCell ⟨R,i,none⟩ u):=
 (h.bl.grown hg (by have:=h.bl.size;omega) (fun k hk=>by have h1:=(ho.lt k hk).1;have h2:=h.r;omega)).setCell (p:=⟨R,i,none⟩) h.r _
theorem PT.pushF {w0 W w':World} {R:Nat} {l:Lw} {ss:List (Sc × Hd)} {ps:List (Pv × Hd)} {fv sv pv v':Value} (h:PT w0 W R l ss ps fv sv pv) (d:Dc) (ho:w'.ownsRow (R+1) 53 4 v' (l.facts.length+1) (l.facts.flatMap Dc.cells++d.cells)) (hg:W.grownBy w' fv.ownBlock):
  PT w0 (w'.setCell ⟨R,0,none⟩ v') R ⟨l.facts++[d],l.schs,l.provs⟩ ss ps v' sv pv:=by
 have ht:=TF.grown h.f hg;refine⟨h.r,h.bl2 h.f hg,((ht.blk h.blk (by decide)).set 0 v'),?_,own_set (ht.own h.s (by decide)) 0 _,own_set (ht.own h.p (by decide)) 0 _,h.sl,h.pl,fun x hx=>⟨(h.sb x hx).1,own_set (ht.own (h.sb x hx).2 (by decide)) 0 _⟩,fun x hx=>⟨(h.pb x hx).1,own_set (ht.own (h.pb x hx).2 (by decide)) 0 _⟩⟩;have k:=own_set ho 0 v';simpa [List.length_append,List.flatMap_append] using k
theorem PT.pushS {w0 W w':World} {R:Nat} {l:Lw} {ss:List (Sc × Hd)} {ps:List (Pv × Hd)} {fv sv pv v':Value} (h:PT w0 W R l ss ps fv sv pv) (x:Sc × Hd) (hx:x.2.n=x.1.brs.length∧W.ownsRow (R+1) 118 6 (.slice x.2.a x.2.n x.2.c) x.2.n (x.1.brs.flatMap Bk.cells)) (ho:w'.ownsRow (R+1) 56 4 v' (ss.length+1) (ss.flatMap scCells++scCells x)) (hg:W.grownBy w' sv.ownBlock):
  PT w0 (w'.setCell ⟨R,1,none⟩ v') R ⟨l.facts,l.schs++[x.1],l.provs⟩ (ss++[x]) ps fv v' pv:=by
 have ht:=TF.grown h.s hg;refine⟨h.r,h.bl2 h.s hg,((ht.blk h.blk (by decide)).set 1 v'),own_set (ht.own h.f (by decide)) 1 _,?_,own_set (ht.own h.p (by decide)) 1 _,by rw[List.map_append,h.sl];rfl,h.pl,fun y hy=>?_,fun x hx=>⟨(h.pb x hx).1,own_set (ht.own (h.pb x hx).2 (by decide)) 1 _⟩⟩
 ·have k:=own_set ho 1 v';simpa [List.length_append,List.flatMap_append] using k
 ·rcases List.mem_append.1 hy with hy|hy
  ·exact⟨(h.sb y hy).1,own_set (ht.own (h.sb y hy).2 (by decide)) 1 _⟩
  ·rw[List.mem_singleton.1 hy];exact⟨hx.1,own_set (ht.own hx.2 (by decide)) 1 _⟩
theorem PT.pushP {w0 W w':World} {R:Nat} {l:Lw} {ss:List (Sc × Hd)} {ps:List (Pv × Hd)} {fv sv pv v':Value} (h:PT w0 W R l ss ps fv sv pv) (x:Pv × Hd) (hx:x.2.n=x.1.body.length∧W.ownsRow (R+1) 59 5 (.slice x.2.a x.2.n x.2.c) x.2.n (nds x.1.body)) (ho:w'.ownsRow (R+1) 46 12 v' (ps.length+1) (ps.flatMap pvCells++pvCells x)) (hg:W.grownBy w' pv.ownBlock):
  PT w0 (w'.setCell ⟨R,2,none⟩ v') R ⟨l.facts,l.schs,l.provs++[x.1]⟩ ss (ps++[x]) fv sv v':=by
 have ht:=TF.grown h.p hg;refine⟨h.r,h.bl2 h.p hg,((ht.blk h.blk (by decide)).set 2 v'),own_set (ht.own h.f (by decide)) 2 _,own_set (ht.own h.s (by decide)) 2 _,?_,h.sl,by rw[List.map_append,h.pl];rfl,fun x hx=>⟨(h.sb x hx).1,own_set (ht.own (h.sb x hx).2 (by decide)) 2 _⟩,fun y hy=>?_⟩
 ·have k:=own_set ho 2 v';simpa [List.length_append,List.flatMap_append] using k
 ·rcases List.mem_append.1 hy with hy|hy
  ·exact⟨(h.pb y hy).1,own_set (ht.own (h.pb y hy).2 (by decide)) 2 _⟩
  ·rw[List.mem_singleton.1 hy];exact⟨hx.1,own_set (ht.own hx.2 (by decide)) 2 _⟩
def rdrs:List Value:=[.string ⟨#[102,97,99,116]⟩,.func (Fn.func 189) #[] #[],.string ⟨#[115,99,104,101,100,117,108,101]⟩,.func (Fn.func 191) #[] #[],.string ⟨#[112,114,111,118,105,115,105,111,110]⟩,.func (Fn.func 193) #[] #[]]
theorem readers_any (w:World):Calls Tryz.prog 120 #[] w fun e w'=>e=.returned (.slice (some ⟨w.heap.size,0,none⟩) 3 3)∧Blk w' w.heap.size 192 rdrs∧Below w.heap.size w w':=by
 obtain⟨W,hW⟩:=zE (w.alloc (.cells rdrs.toArray 192));obtain⟨B,hB⟩:=zE w.heap.size;have HK:Hid (Blk W B 192 rdrs):=by show Blk _ _ _ _;rw[hW,hB];exact Blk.new w _ _
 have HBA:Hid (Below w.heap.size w W):=by show Below _ _ _;rw[hW];exact zB _ _
 go_enter Tryz.func120,Tryz.ntmps120;go_wp2;go_ret;refine⟨rfl,?_,?_⟩
 ·have h:=HK.out;rw[hW,hB] at h;exact h
 ·have h:=HBA.out;rw[hW] at h;exact h
theorem st_nil (w:World):(Instr.typeAssert .nilIface 20 184 true).run Tryz.prog w=.ok (.tuple #[.agg #[],.bool false]) w:=by
 kernel_rfl
theorem lcatch_idle (a:Nat) (w:World):
  CallsD Tryz.prog 117 #[.pointer (some ⟨a,0,none⟩)] .returning w fun e u' w'=>e=.returned (.tuple #[])∧u'=.returning∧Below w.heap.size w w':=by
 refine callsD_of_wpS Tryz.func117 rfl fun c₀ cs hu=>?_
 apply wpS_seq;apply wpS_region;simp[wpOpsS,go_sem,recoverD,hu,Tryz.ntmps117,Exit.thenS,st_nil];refine wpS_of_wp ?_;go_wp2;cases c₀
 simp_all [bodyPostS,results,Tryz.results117]
 exact zB _ _
theorem PT.tf {w0 w w':World} {R:Nat} {l:Lw} {ss:List (Sc × Hd)} {ps:List (Pv × Hd)} {fv sv pv:Value} {t:TypeId} (h:PT w0 w R l ss ps fv sv pv) (ht:TF t w w') (hb:Below w0.heap.size w0 w') (h1:30≠t) (h2:53≠t) (h3:56≠t) (h4:46≠t) (h5:118≠t) (h6:59≠t):PT w0 w' R l ss ps fv sv pv:=
 ⟨h.r,hb,ht.blk h.blk h1,ht.own h.f h2,ht.own h.s h3,ht.own h.p h4,h.sl,h.pl,fun x hx=>⟨(h.sb x hx).1,ht.own (h.sb x hx).2 h5⟩,fun x hx=>⟨(h.pb x hx).1,ht.own (h.pb x hx).2 h6⟩⟩
def PX (w0 w:World) (R:Nat) (l:Lw):Prop:=∃ss ps fv sv pv,PT w0 w R l ss ps fv sv pv
theorem PX.below {w0 w w':World} {R:Nat} {l:Lw} (h:PX w0 w R l) (hb:Below w.heap.size w w'):PX w0 w' R l:=by
 obtain⟨ss,ps,fv,sv,pv,h⟩:=h;exact⟨ss,ps,fv,sv,pv,h.below hb⟩
theorem PX.setB {w0 w:World} {R B:Nat} {l:Lw} {cs:List Value} (h:PX w0 w R l) (hB:Blk w B 4 cs) (h0:w0.heap.size≤B) (u:Value):PX w0 (w.setCell ⟨B,0,none⟩ u) R l:=by
 obtain⟨ss,ps,fv,sv,pv,h⟩:=h;exact⟨ss,ps,fv,sv,pv,h.tf (TF.set (e:=4) hB 0 u) (h.bl.setCell (p:=⟨B,0,none⟩) h0 u) (by decide) (by decide) (by decide) (by decide) (by decide) (by decide)⟩
structure LineW (s:ByteArray) (ws:List ByteArray) (rest:ByteArray) (col:Bool):Prop where
 size:s.size≤1000000
 hd:∃h:List UInt8,Lib.cut s.data.toList [58,32]=(h,rest.data.toList,col)∧h.length≤1000000∧Lib.countB ⟨h.toArray⟩ ⟨#[32]⟩+1=ws.length∧Lib.splitB ⟨#[32]⟩ 0 (Lib.countB ⟨h.toArray⟩ ⟨#[32]⟩) ⟨h.toArray⟩=ws
theorem fr_line {R B:Nat} {w w8 w9:World} {u:Value} (h:FR R w w8) (hB:w.heap.size≤B) (hb:Below (w8.setCell ⟨B,0,none⟩ u).heap.size (w8.setCell ⟨B,0,none⟩ u) w9):FR R w w9:=by
 refine FR.trans (b:=w8.setCell ⟨B,0,none⟩ u) ⟨by have:=h.size;simpa [World.setCell] using this,fun k o hk hr ht=>(Below.heap_setCell w8 _ u k (fun e=>?_)).trans (h.keep k o hk hr ht)⟩ (FR.below hb);have h1:=lt_of_some hk;have h2:k=B:=e;omega
theorem line_core (w0 w:World) (R:Nat) (l l':Lw) (s rest wd nm:ByteArray) (more:List ByteArray) (k:Nat) (col:Bool) (h:PX w0 w R l) (hL:LaidK w) (hw:LineW s (wd::nm::more) rest col) (hk:more.length=k+1) (hnm:nameOk nm=true) (idx fn:Nat)
  (hid:(idx=0∧wd=⟨#[102,97,99,116]⟩∧fn=189∧col=false)∨(idx=1∧wd=⟨#[115,99,104,101,100,117,108,101]⟩∧fn=191∧col=true)∨(idx=2∧wd=⟨#[112,114,111,118,105,115,105,111,110]⟩∧fn=193∧col=true))
  (hR:∀W G,Below w.heap.size w W→Blk W G 9 (strs (wd::nm::more))→Calls Tryz.prog fn #[.pointer (some ⟨R,0,none⟩),.slice (some ⟨G,1,none⟩) (k+2:Nat) (k+2:Nat),.string rest] W fun e w'=>e=.returned (.tuple #[])∧PX w0 w' R l'∧FR R W w'):
  Calls Tryz.prog 51 #[.pointer (some ⟨R,0,none⟩),.string s] w fun e w'=>e=.returned (.bool true)∧PX w0 w' R l'∧FR R w w':=by
 have hmf:∀(fn:Fn) (first cap:Array Value) (w:World),(Instr.makeFunc fn first cap).run Tryz.prog w=.ok (.func fn first cap) w:=fun _ _ _ _=>rfl
 have hsf:=st_func;obtain⟨hsz,hd,hcut,hhl,hcnt,hspl⟩:=hw;obtain⟨ss0,ps0,fv0,sv0,pv0,hPT⟩:=h;have HW0:Hid (w0.heap.size≤w.heap.size):=hPT.bl.size;have HRW:Hid (R<w.heap.size):=hPT.blk.lt;obtain⟨W1,hW1⟩:=zE (w.alloc (.cells #[.bool false] 4));obtain⟨B,hB⟩:=zE w.heap.size;have HKB:Hid (Blk W1 B 4 [.bool false]):=by show Blk _ _ _ _;rw[hW1,hB];exact Blk.new w _ _
 have HB1:Hid (Below w.heap.size w W1):=by show Below _ _ _;rw[hW1];exact zB _ _
 have HBB:Hid (w.heap.size≤B):=Nat.le_of_eq hB.symm;have HLK:Hid (∀W,Below w.heap.size w W→LaidK W):=fun W hb=>hL.below hb
 obtain⟨m,hm⟩:=(HLK.out _ HB1.out).e.base.cut.2;have HCT:=zH (Tryz.strings_Cut s ⟨#[58,32]⟩ m W1 (by omega) hm);rw[show (⟨#[58,32]⟩:ByteArray).data.toList=[58,32] from rfl,hcut] at HCT;simp only at HCT;have hrest:(⟨rest.data.toList.toArray⟩:ByteArray)=rest:=by cases rest;rfl
 rw[hrest] at HCT
 have HSP:Hid (∀W,Below w.heap.size w W→Calls Tryz.prog 119 #[.string ⟨hd.toArray⟩,.string ⟨#[32]⟩] W fun e w'=>e=.returned (.slice (some ⟨W.heap.size,0,none⟩) (k+3:Nat) (k+3:Nat))∧w'=W.alloc (.cells ((wd::nm::more).map Value.string).toArray 9)):=fun W hb=>by
  obtain⟨m',hm'⟩:=(HLK.out _ hb).e.base.cut.2;have k':=Tryz.strings_Split ⟨hd.toArray⟩ ⟨#[32]⟩ m' W (by show hd.toArray.size<_;simp;omega) hm' (by decide);rw[hspl,hcnt] at k';simp only[List.length_cons,hk] at k';exact k'
 have HNM:Hid (∀W,Below w.heap.size w W→Calls Tryz.prog 31 #[.string nm] W fun e w'=>e=.returned (.bool true)∧Below W.heap.size W w'):=fun W hb=>by
  have k':=uName_any nm W (HLK.out _ hb).e;rw[hnm] at k';exact k'
 have HR:=zH hR;have HID:=zH hid;have HM:=zH must_yes;have HRD:=zH readers_any;have HMR:Hid (more.length=k+1):=hk;have HTRW:Hid (R<w.heap.size):=HRW.out;clear hL hm hrest hsz hcut hhl hcnt hspl hR hnm hid hPT hk;generalize (⟨hd.toArray⟩:ByteArray)=hb at*
 go_enter_defers Tryz.func51,Tryz.ntmps51
 go_wp2_with fail;simp only[←hW1,←hB]
 clear hW1 hB;refine HCT.out.mono ?_;rintro e w2 ⟨rfl,nd,hw2⟩;obtain⟨W2,hW2⟩:=zE (W1.drewN nd);rw[←hW2] at hw2;subst hw2;have HA2:Below W1.heap.size W1 w2:=by rw[hW2];exact drewN_below _ _ _
 have HB2:=zH (bstep HB1.out HA2);have HKB2:Hid (Blk w2 B 4 [.bool false]):=HKB.out.below HA2 HKB.out.lt;clear hW2 HA2 HKB HCT HB1;go_wp2_with fail;refine (HSP.out _ HB2.out).mono ?_;rintro e w3 ⟨rfl,hw3⟩;obtain⟨G,hG⟩:=zE w2.heap.size;have HG:Hid (Blk w3 G 9 (strs (wd::nm::more))):=by show Blk _ _ _ _;rw[hw3,hG,strs_map];exact Blk.new w2 _ _
 have HA3:Below w2.heap.size w2 w3:=by rw[hw3];exact zB _ _
 have HB3:=zH (bstep HB2.out HA3);have HKB3:Hid (Blk w3 B 4 [.bool false]):=HKB2.out.below HA3 HKB2.out.lt;simp only[←hG]
 clear hG hw3 HA3 HKB2 HB2 HSP;go_wp2_with fail;refine (HRD.out w3).mono ?_;rintro e w4 ⟨rfl,hk4,hb4⟩;obtain⟨D,hD⟩:=zE w3.heap.size;rw[←hD] at hk4;have HD:=zH hk4;have HB4:=zH (bstep HB3.out hb4);have HKB4:Hid (Blk w4 B 4 [.bool false]):=HKB3.out.below hb4 HKB3.out.lt;have HG4:Hid (Blk w4 G 9 (strs (wd::nm::more))):=HG.out.below hb4 HG.out.lt;simp only[←hD]
 clear hD hk4 hb4 HKB3 HB3 HG HRD;go_wp2_with fail
 go_loopg [22] 3 (fun q iv wr=>∃i:Nat,i+q=3∧iv=.int .i64 i∧Hid (i≤idx)∧Hid (Below w.heap.size w wr)∧Hid (Blk wr B 4 [.bool false])∧Hid (Blk wr G 9 (strs (wd::nm::more)))∧Hid (Blk wr D 192 rdrs))
 case atStart=>exact⟨0,by omega,rfl,Nat.zero_le _,HB4,HKB4,HG4,HD⟩
 case round=>
  obtain⟨i,hi,rfl,hidx,hbr,hkB,hkG,hkD⟩:=hrel;clear HB4 HKB4 HG4 HD
  obtain⟨wi,fi,e5,e1,e2,e3,e4⟩:∃(wi:ByteArray) (fi:Nat),(∀(a:Array Value) (w:World),Sem.run Tryz.prog (callFunc fi a) w=Result.ok (Next.enter fi a) w)∧wr.cell? ⟨D,i*2,none⟩=some (.string wi)∧wr.cell? ⟨D,i*2+1,none⟩=some (.func (Fn.func fi) #[] #[])∧Hid (i≠idx→(wi.toList==wd.toList)=false)∧Hid (i=idx→wi=wd∧fi=fn∧(wd.toList==[102,97,99,116])= !col):=by
   have hc:=hkD.out.cells;have hI:i=0∨i=1∨i=2:=by have h1:=hidx.out;have h2:idx≤2:=by {rcases HID.out with h|h|h<;>omega};omega
   rcases hI with rfl|rfl|rfl
   ·refine⟨_,_,fun a w=>by (first|rfl|simp[go_sem]),hc 0,hc 1,fun h=>?_,fun h=>?_⟩
    all_goals rcases HID.out with⟨h1,rfl,rfl,rfl⟩|⟨h1,rfl,rfl,rfl⟩|⟨h1,rfl,rfl,rfl⟩<;>first|(exfalso;omega)|exact⟨rfl,rfl,by simp only[ByteArray.toList_eq];decide⟩|(simp only[ByteArray.toList_eq];decide)
   ·refine⟨_,_,fun a w=>by (first|rfl|simp[go_sem]),hc 2,hc 3,fun h=>?_,fun h=>?_⟩
    all_goals rcases HID.out with⟨h1,rfl,rfl,rfl⟩|⟨h1,rfl,rfl,rfl⟩|⟨h1,rfl,rfl,rfl⟩<;>first|(exfalso;omega)|exact⟨rfl,rfl,by simp only[ByteArray.toList_eq];decide⟩|(simp only[ByteArray.toList_eq];decide)
   ·refine⟨_,_,fun a w=>by (first|rfl|simp[go_sem]),hc 4,hc 5,fun h=>?_,fun h=>?_⟩
    all_goals rcases HID.out with⟨h1,rfl,rfl,rfl⟩|⟨h1,rfl,rfl,rfl⟩|⟨h1,rfl,rfl,rfl⟩<;>first|(exfalso;omega)|exact⟨rfl,rfl,by simp only[ByteArray.toList_eq];decide⟩|(simp only[ByteArray.toList_eq];decide)
  have i0:(0:Int)≤(i:Int):=by omega
  have i1:(i:Int)<3:=by have h1:=hidx.out;have h2:idx≤2:=by {rcases HID.out with h|h|h<;>omega};omega
  have i2:i<3:=by omega
  go_upto_region 7 with fail
  generalize hX:World.alloc wr _=wt;obtain⟨hT,hbT⟩:=zA hX;have HTW:Hid (w.heap.size≤wr.heap.size):=hbr.out.size;have HRT:Hid (wr.heap.size≠R):=by have h1:=HRW.out;have h2:=HTW.out;show _≠_;omega
  generalize wr.heap.size=T at hT HTW HRT⊢;replace hbr:=bstep hbr.out hbT;replace hkB:=hkB.out.below hbT hkB.out.lt;replace hkG:=hkG.out.below hbT hkG.out.lt;replace hkD:=hkD.out.below hbT hkD.out.lt;clear hX hbT e1 e2;have hcc:=fun (X:World) (h:Below wt.heap.size wt X)=>show X.cell? ⟨T,0,none⟩=some (.string wi)∧X.cell? ⟨T,1,none⟩=some (.func (Fn.func fi) #[] #[])∧X.cell? ⟨G,0,none⟩=some (.string wd)∧X.cell? ⟨G,1,none⟩=some (.string nm) from⟨(hT.below h hT.lt).cells 0,(hT.below h hT.lt).cells 1,(hkG.below h hkG.lt).cells 0,(hkG.below h hkG.lt).cells 1⟩
  have hk03:(0:Int)<(k:Int)+3:=by omega
  have hk14:(1:Int)<(k:Int)+3:=by omega
  by_cases hix:i=idx
  ·obtain⟨rfl,rfl,hfc⟩:=e4.out hix;have HFC:=zH hfc;clear e3 e4 hix hidx hfc;refine reS (Below wt.heap.size wt) 99 (drewN_below _ _ 1) (fun v hv hS=>?_)
   iterate 6 refine reA ?_
   refine reE ?_;have hl:=hcc _ hS;go_wp2_with fail;refine (HNM.out v (bstep hbr hS)).mono ?_;rintro e w5 ⟨rfl,hb5⟩;replace hS:=bstep hS hb5;have hfc:=HFC.out;clear hl hb5 hv;have hl:=hcc _ hS;cases col
   all_goals simp only[Bool.not_true,Bool.not_false] at hfc
   all_goals as_aux_lemma=>
    go_wp2_with fail;refine (HM.out w5).mono ?_;rintro e w6 ⟨rfl,hw6⟩;rw[hw6];clear hw6 hl hfc;have hk13:(1:Int)≤(k:Int)+3:=by omega
    replace hbr:=bstep hbr hS;replace hkB:=hkB.below hS hkB.lt;replace hkG:=hkG.below hS hkG.lt;replace hT:=hT.below hS hT.lt;clear hS hcc;have hcc:=fun (X:World) (h:Blk X T 192 [.string wi,.func (Fn.func fi) #[] #[]])=>h.cells
    go_upto_region 9 with fail
    refine reS (fun X=>Blk X T 192 [.string wi,.func (Fn.func fi) #[] #[]]) 99 hT.drew (fun v7 hv7 hS=>?_)
    iterate 6 refine reA ?_
    refine reC 6 (HR.out v7 G (bstep hbr hv7) (hkG.below hv7 hkG.lt)) ?_;rintro e w8 ⟨rfl,hpx,hfr⟩;refine⟨_,rfl,hfr.keep T _ hS HRT.out (fun cs t fr e=>by injection e with _ e2 _;subst e2;decide),fun hS=>?_⟩;refine reE ?_;have HK8:Hid (Blk w8 B 4 [.bool false]):=hfr.keep B _ (hkB.below hv7 hkB.lt) (by have h1:=HRW.out;have h2:=HBB.out;omega) (fun cs t fr e=>by injection e with _ e2 _;subst e2;decide);have HFR:Hid (FR R w w8):=FR.trans (FR.below (bstep hbr hv7)) hfr;have HPX:=zH hpx;clear hpx hfr hcc;have hk8:=HK8.out.cells;have hf8:=HK8.out.froz;go_wp2;refine leaves_cons (f:=117) (args:=#[.pointer (some ⟨B,0,none⟩)]) (by simp) (by simp[go_sem]) ?_;refine (lcatch_idle B _).mono ?_;rintro e u' w9 ⟨rfl,rfl,hb9⟩;have hKS:=(HK8.out.set 0 (.bool true)).below hb9 (HK8.out.set 0 (.bool true)).lt;have hc9:w9.cell? ⟨B,0,none⟩=some (.bool true):=hKS.cells 0;simp[Leaves,settle,results,Tryz.results51,go_sem,hc9];exact⟨(HPX.out.setB HK8.out (Nat.le_trans HW0.out HBB.out) _).below hb9,fr_line HFR.out HBB.out hb9⟩
  ·have hne:=e3.out hix;have HLT:Hid (i+1≤idx):=by have h1:=hidx.out;show i+1≤idx;omega
   clear e3 e4 hix hidx;refine reS (Below wt.heap.size wt) 99 (drewN_below _ _ 1) (fun v hv hS=>?_)
   iterate 6 refine reA ?_
   refine reE ?_;have H1:=zH (bstep hbr hS);have H2:=zH (hkB.below hS hkB.lt);have H3:=zH (hkG.below hS hkG.lt);have H4:=zH (hkD.below hS hkD.lt);clear hcc hbr hkB hkG hkD hT;go_wp2
   go_roundg (2-i)
   case measure=>omega
   case rel=>exact⟨i+1,by omega,by go_num,HLT,H1,H2,H3,H4⟩
theorem info_decl:(Tryz.prog.info? 53).map (fun i=>(i.zero,i.size,i.bytes))=some (some (.agg #[.string ⟨#[]⟩,.bool false,.int .i64 0,.int .i64 0]),4,40):=by kernel_rfl
theorem uFact_any (w0 w:World) (R g c:Nat) (l:Lw) (ss:List (Sc × Hd)) (ps:List (Pv × Hd)) (fv sv pv:Value) (nm s rest:ByteArray) (t:Ty) (h:PT w0 w R l ss ps fv sv pv) (hL:LaidK w) (ht:tyIn t=true) (hs:s=tyText t) (hn:l.facts.length≤1000) (hg:∃cs,Blk w g 9 cs∧cs[1]?=some (.string nm)∧cs[2]?=some (.string s)):
  Calls Tryz.prog 189 #[.pointer (some ⟨R,0,none⟩),.slice (some ⟨g,1,none⟩) 2 c,.string rest] w fun e w'=>e=.returned (.tuple #[])∧(∃v',PT w0 w' R ⟨l.facts++[⟨nm,t⟩],l.schs,l.provs⟩ ss ps v' sv pv)∧FR R w w':=by
 obtain⟨cs,hg0,hg1,hg2⟩:=hg;have HT:=zH (fun W (hb:Below w.heap.size w W)=>hs ▸ uTypeOf_any t W (hL.below hb) ht);have HPT:=zH h;have HSS:Hid (∀W,Below w.heap.size w W→W.cell? ⟨g,1,none⟩=some (.string nm)∧W.cell? ⟨g,2,none⟩=some (.string s)):=fun W hb=>⟨((hg0.below hb hg0.lt).cells 1).trans hg1,((hg0.below hb hg0.lt).cells 2).trans hg2⟩
 have HGR:Hid (∀W W',Below w.heap.size w W→TF 53 W W'→W'.cell? ⟨g,1,none⟩=some (.string nm)∧W'.cell? ⟨g,2,none⟩=some (.string s)):=fun W W' hb ht=>⟨((ht.blk (hg0.below hb hg0.lt) (by decide)).cells 1).trans hg1,((ht.blk (hg0.below hb hg0.lt) (by decide)).cells 2).trans hg2⟩
 have HM:=zH (must_yes w)
 have HRG:Hid (R≠g):=by
  rintro rfl;have e1:(Obj.cells _ _ _:Obj)=Obj.cells _ _ _:=Option.some.inj (h.blk.symm.trans hg0);injection e1 with _ e2 _;exact absurd e2 (by decide)
 obtain⟨tt,tm,td⟩:=t;unfold Ty.v at HT;simp only at HT;clear h hL ht hs hg0 hg1 hg2;go_enter Tryz.func189,Tryz.ntmps189;go_wp2_with fail;refine HM.out.mono ?_;rintro e w1 ⟨rfl,hw1⟩;have hw2:=hw1.symm;clear hw1;subst hw2
 go_upto_region 1 with fail
 refine wp_region_noPanic ?_;refine wp_region_held_drew (S:=(fun w'=>w'.cell? ⟨g,1,none⟩=some (.string nm)∧w'.cell? ⟨g,2,none⟩=some (.string s))) (by kernel_rfl) (HSS.out _ (Below.drew (Below.refl _ w))) (fun hHeld=>?_);refine tkZ 0 ?_;refine tkZ 1 ?_;refine tkZ 2 ?_;refine tkZ 3 ?_;refine tkZ 5 ?_;refine tkZ 6 ?_;refine tkZ 8 ?_;refine tkZ 9 ?_;refine tkZ 10 ?_;refine tkZ 7 ?_;refine tkR2 4 11 (fun K hK=>?_) fun K hK=>?_
 ·have hc4:(w).cell? ⟨R,0,none⟩=some fv:=(HPT.out.blk.cells 0)
  go_simp;go_wp2_with fail;refine tkK hK (HSS.out _ (drewN_below w.heap.size w 1)) fun hHeld=>?_
  clear hK K;refine tkR 11 fun K hK=>?_
  go_simp;refine (HT.out _ (drewN_below w.heap.size w 1)).mono ?_;rintro e w10 ⟨rfl,hb10⟩;have HB10:=zH (bstep (drewN_below w.heap.size w 1) hb10);go_wp2_with fail;refine tkK hK (HSS.out _ HB10.out) fun hHeld=>?_
  clear hK K;refine tkZ 12 ?_;refine tkR 13 fun K hK=>?_
  go_simp;go_wp2_with fail;refine tkK hK (HSS.out _ (HB10.out.alloc HB10.out.size _)) fun hHeld=>?_
  clear hK K;refine tkR 14 fun K hK=>?_
  have HP:=zH (HPT.out.below HB10.out);refine step_push_at w10 #[.string nm,.bool tt,.int .i64 tm,.int .i64 td] (by rfl) _ _ 26 (by rfl) (R+1) 53 (.agg #[.string ⟨#[]⟩,.bool false,.int .i64 0,.int .i64 0]) 4 40 1 Tryz.underlying26 info_decl rfl (by decide) fv l.facts.length (l.facts.flatMap Dc.cells) (by rfl) HP.out.f (by rfl) rfl ?_ ?_ ?_ ?_ ?_
  any_goals first|(unfold maxLen;omega)|omega
  ·intro u hu;simp only[List.mem_cons,List.not_mem_nil,or_false] at hu;rcases hu with rfl|rfl|rfl|rfl<;>rfl
  ·have h1:=HP.out.bl.size;have h2:=HP.out.blk.lt;omega
  intro v' w11 hown hgr _;obtain⟨Av,cv,rfl,_⟩:=own_rd hown;have HQ:=zH (HP.out.pushF ⟨nm,⟨tt,tm,td⟩⟩ hown hgr);have HK:=zH ((TF.grown HP.out.f hgr).blk HP.out.blk (by decide));have HG2:Hid (w11.cell? ⟨g,1,none⟩=some (.string nm)∧w11.cell? ⟨g,2,none⟩=some (.string s)):=HGR.out _ _ HB10.out (TF.grown HP.out.f hgr);have HFR:Hid (FR R w _):=FR.grown (i:=0) (u:=.slice Av (l.facts.length+1) cv) HB10.out HP.out.f (.inl rfl) hgr;clear hown hgr;refine tkK hK (HG2.out) fun hHeld=>?_
  clear hK K;refine tkZ 15 ?_;refine tkZ 16 ?_;refine tkR 17 fun K hK=>?_
  have hkc:=HK.out.cells;have hkf:=HK.out.froz;go_simp;go_wp2_with fail;refine tkK hK (⟨by rw[World.cell?_setCell_other _ _ _ _ (by simp[HRG.out])];exact HG2.out.1,by rw[World.cell?_setCell_other _ _ _ _ (by simp[HRG.out])];exact HG2.out.2⟩) fun hHeld=>?_
  clear hK K;refine wpAnyH_done (by kernel_rfl) ?_ _;refine NoPanic.normal ?_;go_wp2;go_end0;exact⟨rfl,⟨_,HQ.out⟩,HFR.out⟩
 ·go_simp;refine (HT.out _ (drewN_below w.heap.size w 1)).mono ?_;rintro e w10 ⟨rfl,hb10⟩;have HB10:=zH (bstep (drewN_below w.heap.size w 1) hb10);go_wp2_with fail;refine tkK hK (HSS.out _ HB10.out) fun hHeld=>?_
  clear hK K;refine tkZ 12 ?_;refine tkR2 4 13 (fun K hK=>?_) fun K hK=>?_
  ·have hc4:(w10).cell? ⟨R,0,none⟩=some fv:=((HPT.out.below HB10.out).blk.cells 0)
   go_simp;go_wp2_with fail;refine tkK hK (HSS.out _ HB10.out) fun hHeld=>?_
   clear hK K;refine tkR 13 fun K hK=>?_
   go_simp;go_wp2_with fail;refine tkK hK (HSS.out _ (HB10.out.alloc HB10.out.size _)) fun hHeld=>?_
   clear hK K;refine tkR 14 fun K hK=>?_
   have HP:=zH (HPT.out.below HB10.out);refine step_push_at w10 #[.string nm,.bool tt,.int .i64 tm,.int .i64 td] (by rfl) _ _ 26 (by rfl) (R+1) 53 (.agg #[.string ⟨#[]⟩,.bool false,.int .i64 0,.int .i64 0]) 4 40 1 Tryz.underlying26 info_decl rfl (by decide) fv l.facts.length (l.facts.flatMap Dc.cells) (by rfl) HP.out.f (by rfl) rfl ?_ ?_ ?_ ?_ ?_
   any_goals first|(unfold maxLen;omega)|omega
   ·intro u hu;simp only[List.mem_cons,List.not_mem_nil,or_false] at hu;rcases hu with rfl|rfl|rfl|rfl<;>rfl
   ·have h1:=HP.out.bl.size;have h2:=HP.out.blk.lt;omega
   intro v' w11 hown hgr _;obtain⟨Av,cv,rfl,_⟩:=own_rd hown;have HQ:=zH (HP.out.pushF ⟨nm,⟨tt,tm,td⟩⟩ hown hgr);have HK:=zH ((TF.grown HP.out.f hgr).blk HP.out.blk (by decide));have HG2:Hid (w11.cell? ⟨g,1,none⟩=some (.string nm)∧w11.cell? ⟨g,2,none⟩=some (.string s)):=HGR.out _ _ HB10.out (TF.grown HP.out.f hgr);have HFR:Hid (FR R w _):=FR.grown (i:=0) (u:=.slice Av (l.facts.length+1) cv) HB10.out HP.out.f (.inl rfl) hgr;clear hown hgr;refine tkK hK (HG2.out) fun hHeld=>?_
   clear hK K;refine tkZ 15 ?_;refine tkZ 16 ?_;refine tkR 17 fun K hK=>?_
   have hkc:=HK.out.cells;have hkf:=HK.out.froz;go_simp;go_wp2_with fail;refine tkK hK (⟨by rw[World.cell?_setCell_other _ _ _ _ (by simp[HRG.out])];exact HG2.out.1,by rw[World.cell?_setCell_other _ _ _ _ (by simp[HRG.out])];exact HG2.out.2⟩) fun hHeld=>?_
   clear hK K;refine wpAnyH_done (by kernel_rfl) ?_ _;refine NoPanic.normal ?_;go_wp2;go_end0;exact⟨rfl,⟨_,HQ.out⟩,HFR.out⟩
  ·go_simp;go_wp2_with fail;refine tkK hK (HSS.out _ (HB10.out.alloc HB10.out.size _)) fun hHeld=>?_
   clear hK K;refine tkR 4 fun K hK=>?_
   have hc4:(w10.alloc (.cells #[.string nm,.bool tt,.int .i64 tm,.int .i64 td] 53)).cell? ⟨R,0,none⟩=some fv:=((HPT.out.below (HB10.out.alloc HB10.out.size (.cells #[.string nm,.bool tt,.int .i64 tm,.int .i64 td] 53))).blk.cells 0)
   go_simp;go_wp2_with fail;refine tkK hK (HSS.out _ (HB10.out.alloc HB10.out.size _)) fun hHeld=>?_
   clear hK K;refine tkR 14 fun K hK=>?_
   have HP:=zH (HPT.out.below HB10.out);refine step_push_at w10 #[.string nm,.bool tt,.int .i64 tm,.int .i64 td] (by rfl) _ _ 26 (by rfl) (R+1) 53 (.agg #[.string ⟨#[]⟩,.bool false,.int .i64 0,.int .i64 0]) 4 40 1 Tryz.underlying26 info_decl rfl (by decide) fv l.facts.length (l.facts.flatMap Dc.cells) (by rfl) HP.out.f (by rfl) rfl ?_ ?_ ?_ ?_ ?_
   any_goals first|(unfold maxLen;omega)|omega
   ·intro u hu;simp only[List.mem_cons,List.not_mem_nil,or_false] at hu;rcases hu with rfl|rfl|rfl|rfl<;>rfl
   ·have h1:=HP.out.bl.size;have h2:=HP.out.blk.lt;omega
   intro v' w11 hown hgr _;obtain⟨Av,cv,rfl,_⟩:=own_rd hown;have HQ:=zH (HP.out.pushF ⟨nm,⟨tt,tm,td⟩⟩ hown hgr);have HK:=zH ((TF.grown HP.out.f hgr).blk HP.out.blk (by decide));have HG2:Hid (w11.cell? ⟨g,1,none⟩=some (.string nm)∧w11.cell? ⟨g,2,none⟩=some (.string s)):=HGR.out _ _ HB10.out (TF.grown HP.out.f hgr);have HFR:Hid (FR R w _):=FR.grown (i:=0) (u:=.slice Av (l.facts.length+1) cv) HB10.out HP.out.f (.inl rfl) hgr;clear hown hgr;refine tkK hK (HG2.out) fun hHeld=>?_
   clear hK K;refine tkZ 15 ?_;refine tkZ 16 ?_;refine tkR 17 fun K hK=>?_
   have hkc:=HK.out.cells;have hkf:=HK.out.froz;go_simp;go_wp2_with fail;refine tkK hK (⟨by rw[World.cell?_setCell_other _ _ _ _ (by simp[HRG.out])];exact HG2.out.1,by rw[World.cell?_setCell_other _ _ _ _ (by simp[HRG.out])];exact HG2.out.2⟩) fun hHeld=>?_
   clear hK K;refine wpAnyH_done (by kernel_rfl) ?_ _;refine NoPanic.normal ?_;go_wp2;go_end0;exact⟨rfl,⟨_,HQ.out⟩,HFR.out⟩
def SV (w0:World) (R:Nat) (fv sv pv:Value) (X:World):Prop:=Blk X R 30 [fv,sv,pv]∧Below w0.heap.size w0 X
section
variable {w0 X X':World} {R:Nat} {l:Lw} {ss:List (Sc × Hd)} {ps:List (Pv × Hd)} {fv sv pv v:Value} {e:TypeId} {s n:Nat} {xs:List Value}
theorem PT.svd (h:PT w0 X R l ss ps fv sv pv):SV w0 R fv sv pv X.drew:=⟨h.blk.drew,h.bl.drew⟩
theorem PT.hR (h:PT w0 X R l ss ps fv sv pv):R+1≤X.heap.size:=h.blk.lt
theorem PT.grow (h:PT w0 X R l ss ps fv sv pv) (ho:X.ownsRow (R+1) e s v n xs) (he:30≠e) (hg:X.grownBy X' v.ownBlock):SV w0 R fv sv pv X':=
 ⟨(TF.grown ho hg).blk h.blk he,h.bl.grown hg h.bl.size (fun k hk=>by have h1:=(ho.lt k hk).1;have h2:=h.r;omega)⟩
end
theorem SV.alloc {w0 X:World} {R:Nat} {fv sv pv:Value} (h:SV w0 R fv sv pv X) (o:Obj):SV w0 R fv sv pv (X.alloc o):=⟨h.1.alloc o,h.2.alloc h.2.size o⟩
structure IS (W X:World) (t:TypeId) (cs:List Value) (e:TypeId) (s:Nat) (v:Value) (n:Nat) (xs:List Value):Prop where
 bl:Below W.heap.size W X
 b:Blk X W.heap.size t cs
 o:X.ownsRow (W.heap.size+1) e s v n xs
section
variable {W X X':World} {t:TypeId} {cs:List Value} {e:TypeId} {s n:Nat} {v v':Value} {xs ys:List Value}
theorem IS.below (h:IS W X t cs e s v n xs) (hb:Below X.heap.size X X'):IS W X' t cs e s v n xs:=⟨bstep h.bl hb,h.b.below hb h.b.lt,own_below h.o hb⟩
theorem IS.hW (h:IS W X t cs e s v n xs):W.heap.size+1≤X.heap.size:=h.b.lt
theorem IS.blk (h:IS W X t cs e s v n xs) (he:t≠e) (hg:X.grownBy X' v.ownBlock):Blk X' W.heap.size t cs:=(TF.grown h.o hg).blk h.b he
theorem IS.blg (h:IS W X t cs e s v n xs) (hg:X.grownBy X' v.ownBlock):Below W.heap.size W X':=h.bl.grown hg h.bl.size (fun k hk=>by have h1:=(h.o.lt k hk).1;omega)
theorem IS.push (h:IS W X t cs e s v n xs) (he:t≠e) (hg:X.grownBy X' v.ownBlock) (ho:X'.ownsRow (W.heap.size+1) e s v' (n+1) ys) (i:Nat):IS W (X'.setCell ⟨W.heap.size,i,none⟩ v') t (cs.set i v') e s v' (n+1) ys:=
 ⟨(h.blg hg).setCell (p:=⟨W.heap.size,i,none⟩) (Nat.le_refl _) _,(h.blk he hg).set i v',own_set ho i v'⟩
theorem IS.put (h:IS W X t cs e s v n xs) (i:Nat) (u:Value):IS W (X.setCell ⟨W.heap.size,i,none⟩ u) t (cs.set i u) e s v n xs:=
 ⟨h.bl.setCell (p:=⟨W.heap.size,i,none⟩) (Nat.le_refl _) _,h.b.set i u,own_set h.o i u⟩
end
theorem blk_gr {w w':World} {b:Nat} {t:TypeId} {cs:List Value} {v:Option Nat} (hb:Blk w b t cs) (hg:w.grownBy w' v) (hl:∀k,v=some k→k<b):Blk w' b t cs:=hb.of_block (hg.block b hb.lt (fun e=>Nat.lt_irrefl _ (hl b e.symm)))
theorem info_brk:(Tryz.prog.info? 118).map (fun i=>(i.zero,i.size,i.bytes))=some (some (.agg #[.bool false,.string ⟨#[]⟩,.string ⟨#[]⟩,.bool false,.string ⟨#[]⟩,.string ⟨#[]⟩]),6,80):=by kernel_rfl
theorem info_sch:(Tryz.prog.info? 56).map (fun i=>(i.zero,i.size,i.bytes))=some (some (.agg #[.string ⟨#[]⟩,.int .i64 0,.int .i64 0,.slice none 0 0]),4,56):=by kernel_rfl
def PieceB (p:ByteArray) (b:Bk):Prop:=p.size≤1000000∧∃x y:List UInt8,Lib.cut p.data.toList [32]=(x,y,true)∧x.length≤1000000∧y.length≤1000000∧ratParse ⟨x.toArray⟩=(b.fr,true)∧ratParse ⟨y.toArray⟩=(b.rt,true)
def piecesB (rest:ByteArray):List ByteArray:=Lib.splitB ⟨#[44,32]⟩ 0 (Lib.countB rest ⟨#[44,32]⟩) rest
structure RestB (rest:ByteArray) (brs:List Bk):Prop where
 size:rest.size≤1000000
 n:Lib.countB rest ⟨#[44,32]⟩+1=brs.length
 len:(piecesB rest).length=brs.length
 max:brs.length≤1000
 ok:∀i (h:i<brs.length) (h':i<(piecesB rest).length),PieceB (piecesB rest)[i] brs[i]
theorem uSched_any (w0 w:World) (R g c:Nat) (l:Lw) (ss:List (Sc × Hd)) (ps:List (Pv × Hd)) (fv sv pv:Value) (nm s rest:ByteArray) (tm td:Int) (brs:List Bk) (h:PT w0 w R l ss ps fv sv pv) (hL:LaidK w) (ht:tyIn ⟨false,tm,td⟩=true) (hs:s=tyText ⟨false,tm,td⟩) (hn:ss.length≤1000) (hr:RestB rest brs) (hg:∃cs,Blk w g 9 cs∧cs[1]?=some (.string nm)∧cs[2]?=some (.string s)):
  Calls Tryz.prog 191 #[.pointer (some ⟨R,0,none⟩),.slice (some ⟨g,1,none⟩) 2 c,.string rest] w fun e w'=>e=.returned (.tuple #[])∧(∃v' hd,PT w0 w' R ⟨l.facts,l.schs++[⟨nm,tm,td,brs⟩],l.provs⟩ (ss++[(⟨nm,tm,td,brs⟩,hd)]) ps fv v' pv)∧FR R w w':=by
 obtain⟨cs,hg0,hg1,hg2⟩:=hg;have HT:=zH (fun W (hb:Below w.heap.size w W)=>hs ▸ uTypeOf_any ⟨false,tm,td⟩ W (hL.below hb) ht);have HLK:Hid (∀W,Below w.heap.size w W→LaidK W):=fun W hb=>hL.below hb
 have HRB:=zH hr;have HM:=zH must_yes;have hcg:=fun (X:World) (hb:Below w.heap.size w X)=>show X.cell? ⟨g,1,none⟩=some (.string nm)∧X.cell? ⟨g,2,none⟩=some (.string s) from⟨((hg0.below hb hg0.lt).cells 1).trans hg1,((hg0.below hb hg0.lt).cells 2).trans hg2⟩
 unfold Ty.v at HT;simp only at HT;have hl:=hcg w (Below.refl _ _);clear hL ht hs hg0 hg1 hg2 hr;go_enter Tryz.func191,Tryz.ntmps191;go_wp2_with fail;refine (HM.out w).mono ?_;rintro e w1 ⟨rfl,hw1⟩;rw[hw1];clear hw1;go_wp2_with fail;refine (HT.out w (Below.refl _ _)).mono ?_;rintro e w2 ⟨rfl,hb⟩;clear hl HT
 go_upto_region 2 with fail
 generalize hX:World.alloc w2 _=W1;obtain⟨hT,hb2⟩:=zA hX;replace hb:=bstep hb hb2;clear hX hb2;have hl:=hT.cells;go_wp2_with fail;refine (HM.out W1).mono ?_;rintro e w3 ⟨rfl,hw1⟩;rw[hw1];clear hw1 hl;have hcc:=fun (X:World) (h:Below W1.heap.size W1 X)=>And.intro (hcg X (bstep hb h)) (hT.below h hT.lt).cells
 go_upto_region 3 with fail
 refine reS (Below W1.heap.size W1) 99 (drewN_below _ _ 1) (fun v hv hS=>?_)
 iterate 6 refine reA ?_
 refine reV 6 (fun _=>hS.alloc hS.size _) (fun _=>?_);refine reW 7 (fun _=>hS.alloc hS.size _) (fun _=>?_);refine reE ?_;replace hb:=bstep hb hv;replace h:=h.below hb;clear hcc hcg hS hv hT
 go_upto_region 4 with fail
 generalize hX:World.alloc v _=W3;have k:IS v W3 56 [.string nm,.int .i64 tm,.int .i64 td,.slice none 0 0] 118 6 (.slice none 0 0) 0 (([]:List Bk).flatMap Bk.cells):=by rw[←hX];exact⟨zB _ _,Blk.new _ _ _,World.ownsRow_nil _ _ _ _⟩
 have hGN:W3.heap.size≠v.heap.size:=by have:=k.hW;omega
 clear hX;have HBV:Hid (Below w.heap.size w v):=hb;obtain⟨m,hm⟩:=(HLK.out _ (bstep hb k.bl)).e.base.cut.2;have HSP:=zH (Tryz.strings_Split rest ⟨#[44,32]⟩ m W3 (by have:=HRB.out.size;omega) hm (by decide));rw[show Lib.splitB ⟨#[44,32]⟩ 0 (Lib.countB rest ⟨#[44,32]⟩) rest=piecesB rest from rfl,HRB.out.n] at HSP;have hcap:=HRB.out.max;clear hm hb HM;go_wp2_with fail;refine HSP.out.mono ?_;rintro e w4 ⟨rfl,hw4⟩;have hG:Blk w4 W3.heap.size 9 (strs (piecesB rest)):=by rw[hw4,strs_map];exact Blk.new W3 _ _
 replace k:=k.below (X':=w4) (by rw[hw4];exact zB _ _);have HGN:Hid (W3.heap.size≠v.heap.size):=hGN;generalize W3.heap.size=G at hG HGN⊢;clear hw4 HSP hGN;go_wp2_with fail
 go_loopg [34] brs.length (fun q iv X=>∃(i:Nat) (bv:Value),i+q=brs.length∧iv=.int .i64 i∧IS v X 56 [.string nm,.int .i64 tm,.int .i64 td,bv] 118 6 bv i ((brs.take i).flatMap Bk.cells)∧Blk X G 9 (strs (piecesB rest)))
 case atStart=>exact⟨0,_,by omega,rfl,k,hG⟩
 case round=>
  clear k hG;obtain⟨i,bv,hi,rfl,k,hG⟩:=hrel;by_cases hlt:i<brs.length
  ·have hlp:i<(piecesB rest).length:=by rw[HRB.out.len];exact hlt
   have hc:=strs_get hG hlp;have hTK:(brs.take (i+1)).flatMap Bk.cells=(brs.take i).flatMap Bk.cells++brs[i].cells:=by rw[List.take_succ_eq_append_getElem hlt,List.flatMap_append];simp
   obtain⟨hps,x,y,hcut,hx1,hy1,hrx,hry⟩:=HRB.out.ok i hlt hlp;generalize (piecesB rest)[i]=p at*;generalize brs[i]=bk at*;obtain⟨⟨f1,f2,f3⟩,⟨r1,r2,r3⟩⟩:=bk;have HTK:=zH hTK;obtain⟨m,hm⟩:=(HLK.out _ (bstep HBV.out k.bl)).e.base.cut.2;have HCT:=zH (Tryz.strings_Cut p ⟨#[32]⟩ m _ (by omega) hm);rw[show (⟨#[32]⟩:ByteArray).data.toList=[32] from rfl,hcut] at HCT;simp only at HCT hrx hry
   have HNX:Hid (∀W,Laid W→Calls Tryz.prog 192 #[.string ⟨x.toArray⟩] W fun e w'=>e=.returned (.agg #[.bool f1,.string f2,.string f3])∧Below W.heap.size W w'):=fun W hL=>by
    have k:=uNumber_any ⟨x.toArray⟩ W hL (by show x.toArray.size≤_;simp;omega) (by rw[hrx]);rw[hrx] at k;exact k
   have HNY:Hid (∀W,Laid W→Calls Tryz.prog 192 #[.string ⟨y.toArray⟩] W fun e w'=>e=.returned (.agg #[.bool r1,.string r2,.string r3])∧Below W.heap.size W w'):=fun W hL=>by
    have k:=uNumber_any ⟨y.toArray⟩ W hL (by show y.toArray.size≤_;simp;omega) (by rw[hry]);rw[hry] at k;exact k
   clear hTK hps hcut hm hx1 hy1 hrx hry;generalize (⟨x.toArray⟩:ByteArray)=xb at*;generalize (⟨y.toArray⟩:ByteArray)=yb at*;go_wp2_with fail;refine HCT.out.mono ?_;rintro e w5 ⟨rfl,nd,hw5⟩;replace k:=k.below (X':=w5) (by rw[hw5];exact drewN_below _ _ _);replace hG:=hG.below (w':=w5) (by rw[hw5];exact drewN_below _ _ _) hG.lt;clear hc hw5 HCT;go_wp2_with fail;refine (must_yes w5).mono ?_;rintro e w6 ⟨rfl,hw1⟩;rw[hw1];clear hw1;have hcx:=fun Y (h:Blk Y v.heap.size 56 [.string nm,.int .i64 tm,.int .i64 td,bv]∧Blk Y G 9 (strs (piecesB rest)))=>h.1.cells
   go_upto_region 9 with fail
   refine reS (fun Y=>Blk Y v.heap.size 56 [.string nm,.int .i64 tm,.int .i64 td,bv]∧Blk Y G 9 (strs (piecesB rest))) 10 ⟨k.b.drew,hG.drew⟩ (fun w7 h7 hS=>?_);replace k:=k.below h7
   iterate 3 refine reA ?_
   refine reZ 4 ?_;refine reC 3 (HNX.out w7 (HLK.out _ (bstep HBV.out k.bl)).e.base) ?_;rintro e w8 ⟨rfl,hb8⟩;refine⟨_,rfl,⟨hS.1.below hb8 hS.1.lt,hS.2.below hb8 hS.2.lt⟩,fun hS=>?_⟩;replace k:=k.below hb8;refine reC 5 (HNY.out w8 (HLK.out _ (bstep HBV.out k.bl)).e.base) ?_;rintro e w9 ⟨rfl,hb9⟩;refine⟨_,rfl,⟨hS.1.below hb9 hS.1.lt,hS.2.below hb9 hS.2.lt⟩,fun hS=>?_⟩;replace k:=k.below hb9;refine reA ?_;refine reV 7 (fun _=>⟨hS.1.alloc _,hS.2.alloc _⟩) (fun _=>?_);refine reP 8 info_brk Tryz.underlying54 k.o (by omega) k.hW (fun v' w10 ho hg _ _=>⟨⟨k.blk (by decide) hg,(TF.grown k.o hg).blk hS.2 (by decide)⟩,fun hS=>?_⟩);obtain⟨A9,c9,rfl,_⟩:=own_rd ho;have fL:=hS.1.froz;refine reA ?_;refine reW 10 (fun h=>absurd rfl h) (fun _=>?_);refine reE ?_;have k2:=k.push (ys:=(brs.take (i+1)).flatMap Bk.cells) (by decide) hg (by rw[HTK.out];exact ho) 3;have hG2:=hS.2.other (p:=⟨v.heap.size,3,none⟩) HGN.out (.slice A9 (i+1) c9);clear hcx hS fL ho hg k hG hb8 hb9 h7;go_wp2
   go_roundg (brs.length-(i+1))
   case measure=>omega
   case rel=>exact⟨i+1,_,by omega,by go_num,k2,hG2⟩
  ·obtain rfl:i=brs.length:=by omega
   rw[List.take_of_length_le (Nat.le_refl _)] at k;have h5:=h.below k.bl;obtain⟨A9,c9,rfl,_⟩:=own_rd k.o;have hcx:=fun Y (q:SV w0 R fv sv pv Y∧Blk Y v.heap.size 56 [.string nm,.int .i64 tm,.int .i64 td,.slice A9 brs.length c9])=>And.intro q.1.1.cells q.2.cells
   clear HRB HLK hcap hG
   go_upto_region 11 with fail
   refine reS (fun Y=>SV w0 R fv sv pv Y∧Blk Y v.heap.size 56 [.string nm,.int .i64 tm,.int .i64 td,.slice A9 brs.length c9]) 10 ⟨h5.svd,k.b.drew⟩ (fun w7 h7 hS=>?_);replace h5:=h5.below h7;replace k:=k.below h7
   iterate 6 refine reA ?_
   refine reV 6 (fun _=>⟨hS.1.alloc _,hS.2.alloc _⟩) (fun _=>?_);refine reP 7 info_sch Tryz.underlying27 h5.s (by omega) h5.hR (fun v' w8 ho hg _ _=>⟨⟨h5.grow h5.s (by decide) hg,blk_gr hS.2 hg (fun z e=>(h.s.lt z e).2)⟩,fun hS=>?_⟩);obtain⟨A8,c8,rfl,_⟩:=own_rd ho;have fL:=hS.1.1.froz
   iterate 2 refine reA ?_
   refine reW 10 (fun h=>absurd rfl h) (fun _=>?_);refine reE ?_;have hz:=h5.pushS (⟨nm,tm,td,brs⟩,⟨A9,brs.length,c9⟩) ⟨rfl,own_lower k.o (by have:=h.hR;omega)⟩ ho hg;have hF:=FR.grown (R:=R) (i:=1) (u:=.slice A8 (ss.length+1) c8) (bstep HBV.out k.bl) h5.s (.inr (.inl rfl)) hg;clear hcx hS fL ho hg k h5 h;go_wp2;go_end0;exact⟨rfl,⟨_,_,hz⟩,hF⟩
theorem info_prov:(Tryz.prog.info? 46).map (fun i=>(i.zero,i.size,i.bytes))=some (some (.agg #[.string ⟨#[]⟩,.bool false,.int .i64 0,.int .i64 0,.slice none 0 0,.bool false,.bool false,.string ⟨#[]⟩,.string ⟨#[]⟩,.bool false,.string ⟨#[]⟩,.string ⟨#[]⟩]),12,152):=by kernel_rfl
def sCharge:ByteArray:=⟨#[99,104,97,114,103,101]⟩
def sStep:ByteArray:=⟨#[115,116,101,112]⟩
def sCap1:ByteArray:=⟨#[99,97,112]⟩
def provTl (ch sp:Bool) (x y:ByteArray):List ByteArray:=(if ch then [sCharge] else [])++(if sp then [sStep,x,sCap1,y] else [])
theorem uProv_any (w0 w:World) (R g:Nat) (l:Lw) (ss:List (Sc × Hd)) (ps:List (Pv × Hd)) (fv sv pv:Value) (wd nm s rest x y:ByteArray) (t:Ty) (ch sp:Bool) (st cp:Ra) (body:List Nd) (h:PT w0 w R l ss ps fv sv pv) (hL:LaidK w) (ht:tyIn t=true) (hs:s=tyText t) (hn:ps.length≤1000)
  (hr:rest.data.toList.length≤1048576) (hb:parseE rest.data.toList=(body,0)) (hx:sp=true→x.size≤1048576∧y.size≤1048576∧ratParse x=(st,true)∧ratParse y=(cp,true)) (hz:sp=false→st=zR∧cp=zR) (m:Nat) (hm:m=(provTl ch sp x y).length) (hg:Blk w g 9 (strs (wd::nm::s::provTl ch sp x y))):
  Calls Tryz.prog 193 #[.pointer (some ⟨R,0,none⟩),.slice (some ⟨g,1,none⟩) (m+2:Nat) (m+2:Nat),.string rest] w fun e w'=>e=.returned (.tuple #[])∧(∃v' hd,PT w0 w' R ⟨l.facts,l.schs,l.provs++[⟨nm,t,ch,st,cp,body⟩]⟩ ss (ps++[(⟨nm,t,ch,st,cp,body⟩,hd)]) fv sv v')∧FR R w w':=by
 have HT:=zH (fun W (hb:Below w.heap.size w W)=>hs ▸ uTypeOf_any t W (hL.below hb) ht);have HPT:=zH h;have HLK:Hid (∀W,Below w.heap.size w W→LaidK W):=fun W hb=>hL.below hb
 have HG:Hid (∀W,Below w.heap.size w W→Blk W g 9 (strs (wd::nm::s::provTl ch sp x y))):=fun W hb=>hg.below hb hg.lt
 have HSS:Hid (∀W,Below w.heap.size w W→W.cell? ⟨g,1,none⟩=some (.string nm)∧W.cell? ⟨g,2,none⟩=some (.string s)):=fun W hb=>⟨(HG.out W hb).cells 1,(HG.out W hb).cells 2⟩
 have HX:=zH hx
 have HPA:Hid (∀W,Below w.heap.size w W→Calls Tryz.prog 194 #[.string rest] W (RetEsF (body,0) W)):=fun W hb'=>by
  have k:=eParse_new rest.data.toList body W (hL.below hb').e hr hb;exact k
 have HM:=zH must_yes;obtain⟨tt,tm,td⟩:=t;obtain⟨p1,p2,p3⟩:=st;obtain⟨q1,q2,q3⟩:=cp;have HZ:=zH hz;have HMM:=zH hm;unfold Ty.v at HT;simp only at HT;have hm0:(0:Int)<(m:Int)+2:=by omega
 have hm1:(1:Int)<(m:Int)+2:=by omega
 have hm2d:decide ((2:Int)≤(m:Int)+2)=true:=decide_eq_true (by omega);clear h hL ht hs hg hx hr hb hz hm;go_enter Tryz.func193,Tryz.ntmps193;go_wp2_with fail;refine (HM.out w).mono ?_;rintro e w1 ⟨rfl,hw1⟩;have hw2:=hw1.symm;clear hw1;subst hw2;have hcg:=fun (X:World) (h:Below w.heap.size w X)=>HSS.out X h
 go_upto_region 1 with fail
 go_cut [6] from 13 to 20 (fun u X=>∃W,u=.pointer (some ⟨W.heap.size,0,none⟩)∧Below w.heap.size w W∧IS W X 46 [.string nm,.bool tt,.int .i64 tm,.int .i64 td,.slice none 0 0,.bool false,.bool false,.string ⟨#[]⟩,.string ⟨#[]⟩,.bool false,.string ⟨#[]⟩,.string ⟨#[]⟩] 59 5 (.slice none 0 0) 0 (nds []))
 case first=>
  refine reS (Below w.heap.size w) 9 (drewN_below _ _ 1) (fun v hv hS=>?_)
  iterate 6 refine reA ?_
  have hS0:=hS;refine reTwo 6 8 (opC (HT.out v hS) ?_) (opV (fun _=>hS.alloc hS.size _) (fun hS=>?_))
  ·rintro e v1 ⟨rfl,hb1⟩;refine⟨_,rfl,bstep hS hb1,fun hS=>?_⟩;refine reZ 7 ?_;refine reV 8 (fun _=>hS.alloc hS.size _) (fun _=>?_);refine reW 9 (fun h=>absurd rfl h) (fun _=>?_);refine reE ?_;go_wp2
   go_meet
   case rel=>exact⟨v1,rfl,hS,zB _ _,Blk.new _ _ _,World.ownsRow_nil _ _ _ _⟩
  ·refine reC 6 (HT.out _ hS) ?_;rintro e v1 ⟨rfl,hb1⟩;refine⟨_,rfl,bstep hS hb1,fun hS2=>?_⟩;refine reZ 7 ?_;have k:IS v v1 46 [.string ⟨#[]⟩,.bool false,.int .i64 0,.int .i64 0,.slice none 0 0,.bool false,.bool false,.string ⟨#[]⟩,.string ⟨#[]⟩,.bool false,.string ⟨#[]⟩,.string ⟨#[]⟩] 59 5 (.slice none 0 0) 0 (nds []):=⟨bstep (zB _ _) hb1,(Blk.new _ _ _).below hb1 (Blk.new _ _ _).lt,World.ownsRow_nil _ _ _ _⟩
   have hkc:=k.b.cells;have hkf:=k.b.froz;refine reW 9 (fun h=>absurd rfl h) (fun _=>?_);refine reE ?_;have k2:=(((((((((((k.put 0 (.string nm)).put 1 (.bool tt)).put 2 (.int .i64 tm)).put 3 (.int .i64 td)).put 4 (.slice none 0 0)).put 5 (.bool false)).put 6 (.bool false)).put 7 (.string ⟨#[]⟩)).put 8 (.string ⟨#[]⟩)).put 9 (.bool false)).put 10 (.string ⟨#[]⟩)).put 11 (.string ⟨#[]⟩);clear hkc hkf k;go_wp2
   go_meet
   case rel=>exact⟨v,rfl,hS0,k2⟩
 case rest=>
  obtain⟨V,rfl,hV,k⟩:=hcut;have HV:=zH hV;clear hcg hV
  go_upto_region 2 with fail
  go_cut [1] from 21 to 22 (fun v w'=>∃A2,v=.slice A2 (m:Nat) (m:Nat)∧Hid (m≠0→A2=some ⟨g,3,none⟩)∧w'=wc)
  case first=>
   rcases Nat.eq_zero_or_pos m with h0|h0
   ·subst h0;go_wp2
    go_meet
    case rel=>exact⟨_,rfl,fun h=>absurd rfl h,rfl⟩
   ·obtain⟨k,rfl⟩:∃k,m=k+1:=⟨m-1,by omega⟩
    go_wp2
    go_meet
    case rel=>exact⟨_,rfl,fun h=>rfl,rfl⟩
  case rest=>
   obtain⟨A2,rfl,HA2,rfl⟩:=hcut
   go_upto_region 3 with fail
   go_cut [31] from 23 to 31 (fun v w'=>v=.bool ch∧w'=wc)
   case first=>
    have h3:=(HG.out _ (bstep HV.out k.bl)).cells 3;cases ch<;>cases sp
    ·obtain rfl:m=0:=HMM.out;go_wp2
     go_meet
     case rel=>exact⟨rfl,rfl⟩
    ·obtain rfl:m=4:=HMM.out;obtain rfl:=HA2.out (by decide);replace h3:wc.cell? ⟨g,3,none⟩=some (.string ⟨#[115,116,101,112]⟩):=h3;go_wp2
     go_meet
     case rel=>exact⟨rfl,rfl⟩
    ·obtain rfl:m=1:=HMM.out;obtain rfl:=HA2.out (by decide);replace h3:wc.cell? ⟨g,3,none⟩=some (.string ⟨#[99,104,97,114,103,101]⟩):=h3;go_wp2
     go_meet
     case rel=>exact⟨rfl,rfl⟩
    ·obtain rfl:m=5:=HMM.out;obtain rfl:=HA2.out (by decide);replace h3:wc.cell? ⟨g,3,none⟩=some (.string ⟨#[99,104,97,114,103,101]⟩):=h3;go_wp2
     go_meet
     case rel=>exact⟨rfl,rfl⟩
   case rest=>
    obtain⟨rfl,rfl⟩:=hcut
    go_upto_if 31 with fail
    go_cut [1] from 32 to 34 (fun v w'=>∃(A3:Option Addr) (q o3:Nat),v=.slice A3 q q∧Hid (q=if sp then 4 else 0)∧Hid (o3=if ch then 4 else 3)∧Hid (sp=true→A3=some ⟨g,o3,none⟩)∧IS V w' 46 [.string nm,.bool tt,.int .i64 tm,.int .i64 td,.slice none 0 0,.bool ch,.bool false,.string ⟨#[]⟩,.string ⟨#[]⟩,.bool false,.string ⟨#[]⟩,.string ⟨#[]⟩] 59 5 (.slice none 0 0) 0 (nds []))
    case first=>
     cases ch
     ·go_wp2
      go_meet
      case rel=>
       refine⟨A2,m,3,rfl,?_,rfl,fun h=>HA2.out ?_,k⟩
       ·show _=_;rw[HMM.out];cases sp<;>rfl
       ·subst h;rw[HMM.out];show (4:Nat)≠0;decide
     ·have hkc:=k.b.cells;have hkf:=k.b.froz;cases sp
      ·obtain rfl:m=1:=HMM.out;obtain rfl:=HA2.out (by decide)
       go_upto_region 4 with fail
       go_region;go_wp2
       go_meet
       case rel=>exact⟨_,0,4,rfl,rfl,rfl,(fun h=>by cases h),(k.put 5 (.bool true)).below (drewN_below _ _ 1)⟩
      ·obtain rfl:m=5:=HMM.out;obtain rfl:=HA2.out (by decide)
       go_upto_region 4 with fail
       go_region;go_wp2
       go_meet
       case rel=>exact⟨_,4,4,rfl,rfl,rfl,(fun _=>rfl),(k.put 5 (.bool true)).below (drewN_below _ _ 1)⟩
    case rest=>
     clear k;obtain⟨A3,q,o3,rfl,HQ4,HO3,HA3,k⟩:=hcut;clear HMM HA2
     go_upto_if 37 with fail
     go_cut [] from 38 to 63 (fun X=>IS V X 46 [.string nm,.bool tt,.int .i64 tm,.int .i64 td,.slice none 0 0,.bool ch,.bool p1,.string p2,.string p3,.bool q1,.string q2,.string q3] 59 5 (.slice none 0 0) 0 (nds []))
     case first=>
      cases sp
      ·obtain rfl:q=0:=HQ4.out;obtain⟨e1,e2⟩:=HZ.out rfl;injection e1 with e1 e3 e4;injection e2 with e2 e5 e6;subst e1 e2 e3 e4 e5 e6;go_wp2
       go_meet
       case rel=>exact k
      ·obtain rfl:q=4:=HQ4.out;obtain rfl:=HA3.out rfl;obtain⟨hx1,hy1,hrx,hry⟩:=HX.out rfl
       have hcg:=fun (W:World) (hb:Below w.heap.size w W)=>show W.cell? ⟨g,o3,none⟩=some (.string ⟨#[115,116,101,112]⟩)∧W.cell? ⟨g,o3+1,none⟩=some (.string x)∧W.cell? ⟨g,o3+2,none⟩=some (.string ⟨#[99,97,112]⟩)∧W.cell? ⟨g,o3+3,none⟩=some (.string y) from by
        have k:=(HG.out W hb).cells;cases ch
        ·obtain rfl:o3=3:=HO3.out;exact⟨k 3,k 4,k 5,k 6⟩
        ·obtain rfl:o3=4:=HO3.out;exact⟨k 4,k 5,k 6,k 7⟩
       have HNX:Hid (∀W,Laid W→Calls Tryz.prog 192 #[.string x] W fun e w'=>e=.returned (.agg #[.bool p1,.string p2,.string p3])∧Below W.heap.size W w'):=fun W hL=>by
        have k:=uNumber_any x W hL hx1 (by rw[hrx]);rw[hrx] at k;exact k
       have HNY:Hid (∀W,Laid W→Calls Tryz.prog 192 #[.string y] W fun e w'=>e=.returned (.agg #[.bool q1,.string q2,.string q3])∧Below W.heap.size W w'):=fun W hL=>by
        have k:=uNumber_any y W hL hy1 (by rw[hry]);rw[hry] at k;exact k
       clear hx1 hy1 hrx hry;have hl:=hcg _ (bstep HV.out k.bl);go_wp2_with fail;refine (HM.out _).mono ?_;rintro e w5 ⟨rfl,hw5⟩;rw[hw5];clear hw5 hl
       go_upto_region 7 with fail
       refine reS (Below w.heap.size w) 11 (bstep HV.out k.bl).drew (fun v hv hS=>?_);replace k:=k.below hv
       iterate 3 refine reA ?_
       refine reZ 4 ?_;refine reZ 5 ?_;refine reZ 6 ?_;refine reC 3 (HNX.out v (HLK.out _ hS).e.base) ?_;rintro e v1 ⟨rfl,hb1⟩;refine⟨_,rfl,bstep hS hb1,fun hS=>?_⟩;replace k:=k.below hb1;refine reZ 8 ?_;refine reC 7 (HNY.out v1 (HLK.out _ hS).e.base) ?_;rintro e v2 ⟨rfl,hb2⟩;refine⟨_,rfl,bstep hS hb2,fun hS=>?_⟩;replace k:=k.below hb2;have hkc:=k.b.cells;have hkf:=k.b.froz;refine reW 9 (fun _=>bstep HV.out (((k.put 6 _).put 7 _).put 8 _).bl) (fun hS=>?_);replace hS:=hS (by decide);replace k:=((k.put 6 (.bool p1)).put 7 (.string p2)).put 8 (.string p3);simp only[List.set] at k;clear hkc hkf;generalize World.setCell (World.setCell (World.setCell v2 _ _) _ _) _ _=v3 at k hS⊢;have hkc:=k.b.cells;have hkf:=k.b.froz;refine reZ 10 ?_;refine reW 11 (fun h=>absurd rfl h) (fun _=>?_);refine reE ?_;replace k:=((k.put 9 (.bool q1)).put 10 (.string q2)).put 11 (.string q3);simp only[List.set] at k;clear hkc hkf;go_wp2
       go_meet
       case rel=>exact k
     case rest=>
      clear k HX HZ HQ4 HO3 HA3;have k:=hcut;clear hcut;go_wp2_with fail;refine (HPA.out _ (bstep HV.out k.bl)).mono ?_;rintro e w7 ⟨Ab,nb,cb,rfl,hes,hb7,hown7⟩;obtain rfl:nb=body.length:=hes.len;have hW7:=k.hW;replace k:=k.below hb7;have HO7:Hid (w7.ownsRow (V.heap.size+1) 59 5 (.slice Ab body.length cb) body.length (nds body)):=own_lower hown7 hW7;clear hes hown7 hW7;simp only
      go_wp2_with fail;refine (HM.out w7).mono ?_;rintro e w8 ⟨rfl,hw8⟩;rw[hw8];clear hw8;have hkc:=k.b.cells;have hkf:=k.b.froz
      go_upto_region 11 with fail
      have k2:IS V (w7.setCell ⟨V.heap.size,4,none⟩ (.slice Ab body.length cb)) 46 [.string nm,.bool tt,.int .i64 tm,.int .i64 td,.slice Ab body.length cb,.bool ch,.bool p1,.string p2,.string p3,.bool q1,.string q2,.string q3] 59 5 (.slice Ab body.length cb) body.length (nds body):=⟨(k.put 4 _).bl,(k.put 4 _).b,own_set HO7.out 4 _⟩
      clear hkc hkf k hb7 HO7;generalize World.setCell w7 _ _=X at k2⊢;have h5:=HPT.out.below (bstep HV.out k2.bl);have hcx:=fun Y (q:SV w0 R fv sv pv Y∧Blk Y V.heap.size 46 [.string nm,.bool tt,.int .i64 tm,.int .i64 td,.slice Ab body.length cb,.bool ch,.bool p1,.string p2,.string p3,.bool q1,.string q2,.string q3])=>And.intro q.1.1.cells q.2.cells
      refine reS (fun Y=>SV w0 R fv sv pv Y∧Blk Y V.heap.size 46 [.string nm,.bool tt,.int .i64 tm,.int .i64 td,.slice Ab body.length cb,.bool ch,.bool p1,.string p2,.string p3,.bool q1,.string q2,.string q3]) 10 ⟨h5.svd,k2.b.drew⟩ (fun w9 h9 hS=>?_);replace h5:=h5.below h9;replace k2:=k2.below h9
      iterate 6 refine reA ?_
      refine reV 6 (fun _=>⟨hS.1.alloc _,hS.2.alloc _⟩) (fun _=>?_);refine reP 7 info_prov Tryz.underlying28 h5.p (by omega) h5.hR (fun v' w10 ho hg _ _=>⟨⟨h5.grow h5.p (by decide) hg,blk_gr hS.2 hg (fun z e=>((HPT.out.below HV.out).p.lt z e).2)⟩,fun hS=>?_⟩);obtain⟨A8,c8,rfl,_⟩:=own_rd ho;have fL:=hS.1.1.froz
      iterate 2 refine reA ?_
      refine reW 10 (fun h=>absurd rfl h) (fun _=>?_);refine reE ?_;have hz:=h5.pushP (⟨nm,⟨tt,tm,td⟩,ch,⟨p1,p2,p3⟩,⟨q1,q2,q3⟩,body⟩,⟨Ab,body.length,cb⟩) ⟨rfl,own_lower k2.o (by have:=(HPT.out.below HV.out).hR;omega)⟩ ho hg;have hF:=FR.grown (R:=R) (i:=2) (u:=.slice A8 (ps.length+1) c8) (bstep HV.out k2.bl) h5.p (.inr (.inr rfl)) hg;clear hcx hS fL ho hg k2 h5;go_wp2;go_end0;exact⟨rfl,⟨_,_,hz⟩,hF⟩
inductive Ln
 |f (d:Dc)
 |s (x:Sc)
 |p (x:Pv)
def Lw.add (l:Lw):Ln→Lw
 |.f d=>⟨l.facts++[d],l.schs,l.provs⟩
 |.s x=>⟨l.facts,l.schs++[x],l.provs⟩
 |.p x=>⟨l.facts,l.schs,l.provs++[x]⟩
def kFact:ByteArray:=⟨#[102,97,99,116]⟩
def kSched:ByteArray:=⟨#[115,99,104,101,100,117,108,101]⟩
def kProv:ByteArray:=⟨#[112,114,111,118,105,115,105,111,110]⟩
def LineOk (s:ByteArray):Ln→Prop
 |.f d=>∃rest,LineW s [kFact,d.name,tyText d.ty] rest false∧nameOk d.name=true∧tyIn d.ty=true
 |.s x=>∃rest,LineW s [kSched,x.name,tyText ⟨false,x.money,x.days⟩] rest true∧nameOk x.name=true∧tyIn ⟨false,x.money,x.days⟩=true∧RestB rest x.brs
 |.p x=>∃(rest:ByteArray) (sp:Bool) (a b:ByteArray),LineW s (kProv::x.name::tyText x.ty::provTl x.charge sp a b) rest true∧nameOk x.name=true∧tyIn x.ty=true∧rest.data.toList.length≤1048576∧parseE rest.data.toList=(x.body,0)∧
   (sp=true→a.size≤1048576∧b.size≤1048576∧ratParse a=(x.step,true)∧ratParse b=(x.cap,true))∧(sp=false→x.step=zR∧x.cap=zR)
theorem line_any (w0 w:World) (R:Nat) (l:Lw) (s:ByteArray) (ln:Ln) (h:PX w0 w R l) (hL:LaidK w) (hf:l.facts.length≤1000) (hs:l.schs.length≤1000) (hp:l.provs.length≤1000) (ho:LineOk s ln):
  Calls Tryz.prog 51 #[.pointer (some ⟨R,0,none⟩),.string s] w fun e w'=>e=.returned (.bool true)∧PX w0 w' R (l.add ln)∧FR R w w':=by
 have hpx:=h;obtain⟨ss,ps,fv,sv,pv,hPT⟩:=h;have hsn:ss.length=l.schs.length:=by rw[←hPT.sl,List.length_map]
 have hpn:ps.length=l.provs.length:=by rw[←hPT.pl,List.length_map]
 cases ln with
 |f d=>
  obtain⟨rest,hw,hn,ht⟩:=ho;obtain⟨nm,t⟩:=d;refine line_core w0 w R l _ s rest kFact nm [tyText t] 0 false hpx hL hw rfl hn 0 _ (.inl ⟨rfl,rfl,rfl,rfl⟩) (fun W G hb hG=>?_);refine (uFact_any w0 W R G 2 l ss ps fv sv pv nm (tyText t) rest t (hPT.below hb) (hL.below hb) ht rfl hf ⟨_,hG,rfl,rfl⟩).mono ?_;rintro e w' ⟨h1,⟨v',h2⟩,h3⟩;exact⟨h1,⟨_,_,_,_,_,h2⟩,h3⟩
 |s x=>
  obtain⟨rest,hw,hn,ht,hr⟩:=ho;obtain⟨nm,tm,td,brs⟩:=x;refine line_core w0 w R l _ s rest kSched nm [tyText ⟨false,tm,td⟩] 0 true hpx hL hw rfl hn 1 _ (.inr (.inl ⟨rfl,rfl,rfl,rfl⟩)) (fun W G hb hG=>?_);refine (uSched_any w0 W R G 2 l ss ps fv sv pv nm (tyText ⟨false,tm,td⟩) rest tm td brs (hPT.below hb) (hL.below hb) ht rfl (by omega) hr ⟨_,hG,rfl,rfl⟩).mono ?_;rintro e w' ⟨h1,⟨v',hd,h2⟩,h3⟩;exact⟨h1,⟨_,_,_,_,_,h2⟩,h3⟩
 |p x=>
  obtain⟨rest,sp,a,b,hw,hn,ht,hr,hb',hx,hz⟩:=ho;obtain⟨nm,t,ch,st,cp,body⟩:=x;refine line_core w0 w R l _ s rest kProv nm (tyText t::provTl ch sp a b) (provTl ch sp a b).length true hpx hL hw rfl hn 2 _ (.inr (.inr ⟨rfl,rfl,rfl,rfl⟩)) (fun W G hb hG=>?_);refine (uProv_any w0 W R G l ss ps fv sv pv kProv nm (tyText t) rest a b t ch sp st cp body (hPT.below hb) (hL.below hb) ht rfl (by omega) hr hb' hx hz _ rfl hG).mono ?_;rintro e w' ⟨h1,⟨v',hd,h2⟩,h3⟩;exact⟨h1,⟨_,_,_,_,_,h2⟩,h3⟩
end Go.Proofs.YtkgiaegmkncljaaGreatDoor
