/- Part: Uk Um Us Ul Th Uo Up Uu Uy Qe Qf. -/
import Derived.Test.YtjpbmbgincdjaaaGreatDoorK34
set_option linter.all false
set_option maxRecDepth 100000
set_option maxHeartbeats 0
namespace Go.Proofs.YtjpbmbgincdjaaaGreatDoor
open Go.RowKit List World Tryz
structure TF (t:TypeId) (w w':World):Prop where
 size:w.heap.size<=w'.heap.size
 keep:∀(k:Nat) (cs:Array Value) (t':TypeId) (fr:Nat × Nat),w.heap[k]?=some (Obj.cells cs t' fr)->t'≠t->w'.heap[k]?=some (Obj.cells cs t' fr)
theorem TF.own {t e:TypeId} {w w':World} {B s n:Nat} {v:Value} {xs:List Value} (h:TF t w w') (ho:w.ownsRow B e s v n xs) (he:e≠t):w'.ownsRow B e s v n xs:=by
 refine⟨ho.1,ho.2.imp id ?_⟩;rintro⟨g,cap,cur,h1,h2,h3,h4⟩;exact⟨g,cap,cur,h1,h2,h.keep g _ _ _ h3 he,h4⟩
theorem TF.blk {t e:TypeId} {w w':World} {b:Nat} {cs:List Value} (h:TF t w w') (hb:aj w b e cs) (he:e≠t):aj w' b e cs:=h.keep b _ _ _ hb he
theorem TF.grown {t:TypeId} {w w':World} {B s n:Nat} {v:Value} {xs:List Value} (ho:w.ownsRow B t s v n xs) (hg:w.grownBy w' v.ownBlock):TF t w w':=by
 refine⟨hg.size,fun k cs t' fr hk ht=>(hg.block k (lt_of_some hk) ?_).trans hk⟩;intro he;rcases ho.2 with⟨rfl,_⟩|⟨g,cap,cur,rfl,_,h3,_⟩
 ·cases he
 ·injection he with he;subst he;rw[h3] at hk;injection hk with hk;injection hk with _ h5 _;exact ht h5.symm
theorem TF.set {t e:TypeId} {w:World} {R:Nat} {cs:List Value} (hb:aj w R t cs) (i:Nat) (u:Value):TF t w (w.setCell ⟨R,i,none⟩ u):=by
 refine⟨by simp[World.setCell],fun k cs' t' fr hk ht=>(Below.heap_setCell w _ u k ?_).trans hk⟩;show k≠R;rintro rfl;have h:w.heap[k]?=_:=hb;rw[h] at hk;injection hk with hk;injection hk with _ h5 _;exact ht h5.symm
structure FR (R:Nat) (w w':World):Prop where
 size:w.heap.size<=w'.heap.size
 keep:∀(k:Nat) (o:Obj),w.heap[k]?=some o->k≠R->(∀cs t fr,o=Obj.cells cs t fr->t≠53/\t≠71/\t≠59)->w'.heap[k]?=some o
theorem FR.below {R:Nat} {w w':World} (h:Below w.heap.size w w'):FR R w w':=⟨h.size,fun k o hk _ _=>(h.block k (lt_of_some hk)).trans hk⟩
theorem FR.trans {R:Nat} {a b c:World} (h:FR R a b) (k:FR R b c):FR R a c:=⟨Nat.le_trans h.size k.size,fun i o hi hr ho=>k.keep i o (h.keep i o hi hr ho) hr ho⟩
theorem FR.grown {R i:Nat} {w w1 w2:World} {B e s n:Nat} {v u:Value} {xs:List Value} (hb:Below w.heap.size w w1) (ho:w1.ownsRow B e s v n xs) (he:e=53∨e=71∨e=59) (hg:w1.grownBy w2 v.ownBlock):FR R w (w2.setCell ⟨R,i,none⟩ u):=by
 refine⟨Nat.le_trans hb.size (Nat.le_trans hg.size (by simp[World.setCell])),fun k o hk hR ht=>?_⟩;have h1:w1.heap[k]?=some o:=(hb.block k (lt_of_some hk)).trans hk;refine (Below.heap_setCell w2 _ u k hR).trans ((hg.block k (lt_of_some h1) ?_).trans h1);intro hq;rcases ho.2 with⟨rfl,_⟩|⟨g,cap,cur,rfl,_,h3,_⟩
 ·cases hq
 ·injection hq with hq;subst hq;rw[h3] at h1;injection h1 with h1;obtain⟨k1,k2,k3⟩:=ht _ _ _ h1.symm;rcases he with h|h|h
  ·exact k1 h
  ·exact k2 h
  ·exact k3 h
structure PT (w0 w:World) (R:Nat) (l:Lw) (ss:List (Sc × Hd)) (ps:List (Pv × Hd)) (fv sv pv:Value):Prop where
 r:w0.heap.size<=R
 bl:Below w0.heap.size w0 w
 blk:aj w R 29 [fv,sv,pv]
 f:w.ownsRow (R+1) 53 4 fv l.facts.length (l.facts.flatMap Dc.cells)
 s:w.ownsRow (R+1) 71 4 sv ss.length (ss.flatMap kG)
 p:w.ownsRow (R+1) 59 12 pv ps.length (ps.flatMap cO)
 sl:ss.map Prod.fst=l.aH
 pl:ps.map Prod.fst=l.ay
 sb:∀x∈ss,x.2.n=x.1.bJ.length/\w.ownsRow (R+1) 132 6 (.slice x.2.a x.2.n x.2.c) x.2.n (x.1.bJ.flatMap Bk.cells)
 pb:∀x∈ps,x.2.n=x.1.body.length/\w.ownsRow (R+1) 104 5 (.slice x.2.a x.2.n x.2.c) x.2.n (mW x.1.body)
theorem PT.below {w0 w w':World} {R:Nat} {l:Lw} {ss:List (Sc × Hd)} {ps:List (Pv × Hd)} {fv sv pv:Value} (h:PT w0 w R l ss ps fv sv pv) (hb:Below w.heap.size w w'):PT w0 w' R l ss ps fv sv pv:=
 ⟨h.r,ah h.bl hb,h.blk.below hb h.blk.lt,own_below h.f hb,own_below h.s hb,own_below h.p hb,h.sl,h.pl,fun x hx=>⟨(h.sb x hx).1,own_below (h.sb x hx).2 hb⟩,fun x hx=>⟨(h.pb x hx).1,own_below (h.pb x hx).2 hb⟩⟩
theorem Zg {w:World} {B e s n:Nat} {A:Option Addr} {m c:Nat} {xs:List Value} (h:w.ownsRow B e s (.slice A m c) n xs):m=n/\n<=c/\c<=maxLen/\Rd w A xs:=by
 obtain⟨A',c',hv,h1,h2,h3,_⟩:=dK h;injection hv with e1 e2 e3;exact⟨e2,by omega,by omega,by rw[e1];exact h3⟩
theorem PT.law {w0 w:World} {R:Nat} {l:Lw} {ss:List (Sc × Hd)} {ps:List (Pv × Hd)} {fv sv pv:Value} (h:PT w0 w R l ss ps fv sv pv):∃f s p:Hd,fv=.slice f.a f.n f.c/\sv=.slice s.a s.n s.c/\pv=.slice p.a p.n p.c/\iQ w l ss ps f s p:=by
 obtain⟨f,rfl,_,hf⟩:=dB.BO h.f rfl;obtain⟨s,rfl,_,hs⟩:=dB.BO h.s rfl;obtain⟨p,rfl,_,hp⟩:=dB.BO h.p rfl;refine⟨f,s,p,rfl,rfl,rfl,hf,hs,hp,h.sl,h.pl,fun x hx=>?_,fun x hx=>?_⟩
 ·obtain⟨h1,h2⟩:=h.sb x hx;obtain⟨_,h3,h4,h5⟩:=Zg h2;exact⟨h1,h3,h4,h5⟩
 ·obtain⟨h1,h2⟩:=h.pb x hx;obtain⟨_,h3,h4,h5⟩:=Zg h2;exact⟨h1,h3,h4,h5⟩
theorem PT.bl2 {w0 W w':World} {R:Nat} {l:Lw} {ss:List (Sc × Hd)} {ps:List (Pv × Hd)} {fv sv pv v u:Value} {i n s:Nat} {e:TypeId} {xs:List Value} (h:PT w0 W R l ss ps fv sv pv) (ho:W.ownsRow (R+1) e s v n xs) (hg:W.grownBy w' v.ownBlock):Below w0.heap.size w0 (w'.setCell ⟨R,i,none⟩ u):=
 (h.bl.grown hg (by have:=h.bl.size;omega) (fun k hk=>by have h1:=(ho.lt k hk).1;have h2:=h.r;omega)).setCell (p:=⟨R,i,none⟩) h.r _
theorem PT.Wh {w0 W w':World} {R:Nat} {l:Lw} {ss:List (Sc × Hd)} {ps:List (Pv × Hd)} {fv sv pv v':Value} (h:PT w0 W R l ss ps fv sv pv) (d:Dc) (ho:w'.ownsRow (R+1) 53 4 v' (l.facts.length+1) (l.facts.flatMap Dc.cells++d.cells)) (hg:W.grownBy w' fv.ownBlock):
  PT w0 (w'.setCell ⟨R,0,none⟩ v') R ⟨l.facts++[d],l.aH,l.ay⟩ ss ps v' sv pv:=by
 have ht:=TF.grown h.f hg;refine⟨h.r,h.bl2 h.f hg,((ht.blk h.blk (by decide)).set 0 v'),?_,fJ (ht.own h.s (by decide)) 0 _,fJ (ht.own h.p (by decide)) 0 _,h.sl,h.pl,fun x hx=>⟨(h.sb x hx).1,fJ (ht.own (h.sb x hx).2 (by decide)) 0 _⟩,fun x hx=>⟨(h.pb x hx).1,fJ (ht.own (h.pb x hx).2 (by decide)) 0 _⟩⟩;have k:=fJ ho 0 v';simpa [length_append,flatMap_append] using k
theorem PT.aiQ {w0 W w':World} {R:Nat} {l:Lw} {ss:List (Sc × Hd)} {ps:List (Pv × Hd)} {fv sv pv v':Value} (h:PT w0 W R l ss ps fv sv pv) (x:Sc × Hd) (hx:x.2.n=x.1.bJ.length/\W.ownsRow (R+1) 132 6 (.slice x.2.a x.2.n x.2.c) x.2.n (x.1.bJ.flatMap Bk.cells)) (ho:w'.ownsRow (R+1) 71 4 v' (ss.length+1) (ss.flatMap kG++kG x)) (hg:W.grownBy w' sv.ownBlock):
  PT w0 (w'.setCell ⟨R,1,none⟩ v') R ⟨l.facts,l.aH++[x.1],l.ay⟩ (ss++[x]) ps fv v' pv:=by
 have ht:=TF.grown h.s hg;refine⟨h.r,h.bl2 h.s hg,((ht.blk h.blk (by decide)).set 1 v'),fJ (ht.own h.f (by decide)) 1 _,?_,fJ (ht.own h.p (by decide)) 1 _,by rw[map_append,h.sl];rfl,h.pl,fun y hy=>?_,fun x hx=>⟨(h.pb x hx).1,fJ (ht.own (h.pb x hx).2 (by decide)) 1 _⟩⟩
 ·have k:=fJ ho 1 v';simpa [length_append,flatMap_append] using k
 ·rcases mem_append.1 hy with hy|hy
  ·exact⟨(h.sb y hy).1,fJ (ht.own (h.sb y hy).2 (by decide)) 1 _⟩
  ·rw[mem_singleton.1 hy];exact⟨hx.1,fJ (ht.own hx.2 (by decide)) 1 _⟩
theorem PT.pushP {w0 W w':World} {R:Nat} {l:Lw} {ss:List (Sc × Hd)} {ps:List (Pv × Hd)} {fv sv pv v':Value} (h:PT w0 W R l ss ps fv sv pv) (x:Pv × Hd) (hx:x.2.n=x.1.body.length/\W.ownsRow (R+1) 104 5 (.slice x.2.a x.2.n x.2.c) x.2.n (mW x.1.body)) (ho:w'.ownsRow (R+1) 59 12 v' (ps.length+1) (ps.flatMap cO++cO x)) (hg:W.grownBy w' pv.ownBlock):
  PT w0 (w'.setCell ⟨R,2,none⟩ v') R ⟨l.facts,l.aH,l.ay++[x.1]⟩ ss (ps++[x]) fv sv v':=by
 have ht:=TF.grown h.p hg;refine⟨h.r,h.bl2 h.p hg,((ht.blk h.blk (by decide)).set 2 v'),fJ (ht.own h.f (by decide)) 2 _,fJ (ht.own h.s (by decide)) 2 _,?_,h.sl,by rw[map_append,h.pl];rfl,fun x hx=>⟨(h.sb x hx).1,fJ (ht.own (h.sb x hx).2 (by decide)) 2 _⟩,fun y hy=>?_⟩
 ·have k:=fJ ho 2 v';simpa [length_append,flatMap_append] using k
 ·rcases mem_append.1 hy with hy|hy
  ·exact⟨(h.pb y hy).1,fJ (ht.own (h.pb y hy).2 (by decide)) 2 _⟩
  ·rw[mem_singleton.1 hy];exact⟨hx.1,fJ (ht.own hx.2 (by decide)) 2 _⟩
def Wi:List Value:=[.string ⟨#[102,97,99,116]⟩,.func (Fn.func 142) #[] #[],.string ⟨#[115,99,104,101,100,117,108,101]⟩,.func (Fn.func 144) #[] #[],.string ⟨#[112,114,111,118,105,115,105,111,110]⟩,.func (Fn.func 146) #[] #[]]
theorem QS (w:World):Calls prog 90 #[] w fun e w'=>e=.returned (.slice (some ⟨w.heap.size,0,none⟩) 3 3)/\aj w' w.heap.size 155 Wi/\Below w.heap.size w w':=by
 obtain⟨W,hW⟩:=zE (w.alloc (.cells Wi.toArray 155));obtain⟨B,hB⟩:=zE w.heap.size;have HK:Hid (aj W B 155 Wi):=by show aj _ _ _ _;rw[hW,hB];exact aj.new w _ _
 have bZ:Hid (Below w.heap.size w W):=by show Below _ _ _;rw[hW];exact zB _ _
 go_enter func90,ntmps90;go_wp2;go_ret;refine⟨rfl,?_,?_⟩
 ·have h:=HK.out;rw[hW,hB] at h;exact h
 ·have h:=bZ.out;rw[hW] at h;exact h
theorem ahH (w:World):(Instr.typeAssert .nilIface 20 147 true).run prog w=.ok (.tuple #[.agg #[],.bool false]) w:=by
 kernel_rfl
theorem QT (a:Nat) (w:World):
  CallsD prog 87 #[.pointer (some ⟨a,0,none⟩)] .returning w fun e u' w'=>e=.returned (.tuple #[])/\u'=.returning/\Below w.heap.size w w':=by
 refine callsD_of_wpS func87 rfl fun c₀ cs hu=>?_
 apply wpS_seq;apply wpS_region;simp[wpOpsS,go_sem,recoverD,hu,ntmps87,Exit.thenS,ahH];refine wpS_of_wp ?_;go_wp2;cases c₀
 simp_all [bodyPostS,results,results87]
 exact zB _ _
theorem PT.tf {w0 w w':World} {R:Nat} {l:Lw} {ss:List (Sc × Hd)} {ps:List (Pv × Hd)} {fv sv pv:Value} {t:TypeId} (h:PT w0 w R l ss ps fv sv pv) (ht:TF t w w') (hb:Below w0.heap.size w0 w') (h1:29≠t) (h2:53≠t) (h3:71≠t) (h4:59≠t) (h5:132≠t) (h6:104≠t):PT w0 w' R l ss ps fv sv pv:=
 ⟨h.r,hb,ht.blk h.blk h1,ht.own h.f h2,ht.own h.s h3,ht.own h.p h4,h.sl,h.pl,fun x hx=>⟨(h.sb x hx).1,ht.own (h.sb x hx).2 h5⟩,fun x hx=>⟨(h.pb x hx).1,ht.own (h.pb x hx).2 h6⟩⟩
def PX (w0 w:World) (R:Nat) (l:Lw):Prop:=∃ss ps fv sv pv,PT w0 w R l ss ps fv sv pv
theorem PX.below {w0 w w':World} {R:Nat} {l:Lw} (h:PX w0 w R l) (hb:Below w.heap.size w w'):PX w0 w' R l:=by
 obtain⟨ss,ps,fv,sv,pv,h⟩:=h;exact⟨ss,ps,fv,sv,pv,h.below hb⟩
theorem PX.setB {w0 w:World} {R B:Nat} {l:Lw} {cs:List Value} (h:PX w0 w R l) (hB:aj w B 4 cs) (h0:w0.heap.size<=B) (u:Value):PX w0 (w.setCell ⟨B,0,none⟩ u) R l:=by
 obtain⟨ss,ps,fv,sv,pv,h⟩:=h;exact⟨ss,ps,fv,sv,pv,h.tf (TF.set (e:=4) hB 0 u) (h.bl.setCell (p:=⟨B,0,none⟩) h0 u) (by decide) (by decide) (by decide) (by decide) (by decide) (by decide)⟩
structure LP (s:ByteArray) (ws:List ByteArray) (rest:ByteArray) (col:Bool):Prop where
 size:s.size<=1000000
 hd:∃h:List UInt8,Lib.cut s.data.toList [58,32]=(h,rest.data.toList,col)/\h.length<=1000000/\Lib.countB ⟨h.toArray⟩ ⟨#[32]⟩+1=ws.length/\Lib.splitB ⟨#[32]⟩ 0 (Lib.countB ⟨h.toArray⟩ ⟨#[32]⟩) ⟨h.toArray⟩=ws
theorem aeE {R B:Nat} {w w8 w9:World} {u:Value} (h:FR R w w8) (hB:w.heap.size<=B) (hb:Below (w8.setCell ⟨B,0,none⟩ u).heap.size (w8.setCell ⟨B,0,none⟩ u) w9):FR R w w9:=by
 refine FR.trans (b:=w8.setCell ⟨B,0,none⟩ u) ⟨by have:=h.size;simpa [World.setCell] using this,fun k o hk hr ht=>(Below.heap_setCell w8 _ u k (fun e=>?_)).trans (h.keep k o hk hr ht)⟩ (FR.below hb);have h1:=lt_of_some hk;have h2:k=B:=e;omega
theorem CB (w0 w:World) (R:Nat) (l l':Lw) (s rest wd nm:ByteArray) (more:List ByteArray) (k:Nat) (col:Bool) (h:PX w0 w R l) (hL:bT w) (hw:LP s (wd::nm::more) rest col) (hk:more.length=k+1) (hnm:bY nm=true) (idx fn:Nat)
  (hid:(idx=0/\wd=⟨#[102,97,99,116]⟩/\fn=142/\col=false)∨(idx=1/\wd=⟨#[115,99,104,101,100,117,108,101]⟩/\fn=144/\col=true)∨(idx=2/\wd=⟨#[112,114,111,118,105,115,105,111,110]⟩/\fn=146/\col=true))
  (hR:∀W G,Below w.heap.size w W->aj W G 9 (strs (wd::nm::more))->Calls prog fn #[.pointer (some ⟨R,0,none⟩),.slice (some ⟨G,1,none⟩) (k+2:Nat) (k+2:Nat),.string rest] W fun e w'=>e=.returned (.tuple #[])/\PX w0 w' R l'/\FR R W w'):
  Calls prog 35 #[.pointer (some ⟨R,0,none⟩),.string s] w fun e w'=>e=.returned (.bool true)/\PX w0 w' R l'/\FR R w w':=by
 have hmf:∀(fn:Fn) (first cap:Array Value) (w:World),(Instr.makeFunc fn first cap).run prog w=.ok (.func fn first cap) w:=fun _ _ _ _=>rfl
 have hsf:=su;obtain⟨hsz,hd,hcut,hhl,hcnt,ahI⟩:=hw;obtain⟨ss0,ps0,fv0,sv0,pv0,wM⟩:=h;have HW0:Hid (w0.heap.size<=w.heap.size):=wM.bl.size;have HRW:Hid (R<w.heap.size):=wM.blk.lt;obtain⟨W1,hW1⟩:=zE (w.alloc (.cells #[.bool false] 4));obtain⟨B,hB⟩:=zE w.heap.size;have HKB:Hid (aj W1 B 4 [.bool false]):=by show aj _ _ _ _;rw[hW1,hB];exact aj.new w _ _
 have HB1:Hid (Below w.heap.size w W1):=by show Below _ _ _;rw[hW1];exact zB _ _
 have kR:Hid (w.heap.size<=B):=Nat.le_of_eq hB.symm;have jR:Hid (∀W,Below w.heap.size w W->bT W):=fun W hb=>hL.below hb
 obtain⟨m,hm⟩:=(jR.out _ HB1.out).e.base.cut.2;have Ei:=zH (Tryz.strings_Cut s ⟨#[58,32]⟩ m W1 (by omega) hm);rw[show (⟨#[58,32]⟩:ByteArray).data.toList=[58,32] from rfl,hcut] at Ei;simp only at Ei;have hrest:(⟨rest.data.toList.toArray⟩:ByteArray)=rest:=by cases rest;rfl
 rw[hrest] at Ei
 have F6:Hid (∀W,Below w.heap.size w W->Calls prog 89 #[.string ⟨hd.toArray⟩,.string ⟨#[32]⟩] W fun e w'=>e=.returned (.slice (some ⟨W.heap.size,0,none⟩) (k+3:Nat) (k+3:Nat))/\w'=W.alloc (.cells ((wd::nm::more).map Value.string).toArray 9)):=fun W hb=>by
  obtain⟨m',hm'⟩:=(jR.out _ hb).e.base.cut.2;have k':=Tryz.strings_Split ⟨hd.toArray⟩ ⟨#[32]⟩ m' W (by show hd.toArray.size<_;simp;omega) hm' (by decide);rw[ahI,hcnt] at k';simp only[length_cons,hk] at k';exact k'
 have HNM:Hid (∀W,Below w.heap.size w W->Calls prog 21 #[.string nm] W fun e w'=>e=.returned (.bool true)/\Below W.heap.size W w'):=fun W hb=>by
  have k':=xA nm W (jR.out _ hb).e;rw[hnm] at k';exact k'
 have HR:=zH hR;have Zh:=zH hid;have HM:=zH sG;have Ad:=zH QS;have HMR:Hid (more.length=k+1):=hk;have ao6:Hid (R<w.heap.size):=HRW.out;clear hL hm hrest hsz hcut hhl hcnt ahI hR hnm hid wM hk;generalize (⟨hd.toArray⟩:ByteArray)=hb at*
 go_enter_defers func35,ntmps35
 go_wp2_with fail;simp only[<-hW1,<-hB]
 clear hW1 hB;refine Ei.out.mono ?_;rintro e w2 ⟨rfl,nd,hw2⟩;obtain⟨W2,hW2⟩:=zE (W1.drewN nd);rw[<-hW2] at hw2;subst hw2;have HA2:Below W1.heap.size W1 w2:=by rw[hW2];exact aI _ _ _
 have HB2:=zH (ah HB1.out HA2);have HKB2:Hid (aj w2 B 4 [.bool false]):=HKB.out.below HA2 HKB.out.lt;clear hW2 HA2 HKB Ei HB1;go_wp2_with fail;refine (F6.out _ HB2.out).mono ?_;rintro e w3 ⟨rfl,hw3⟩;obtain⟨G,hG⟩:=zE w2.heap.size;have HG:Hid (aj w3 G 9 (strs (wd::nm::more))):=by show aj _ _ _ _;rw[hw3,hG,E5];exact aj.new w2 _ _
 have TP:Below w2.heap.size w2 w3:=by rw[hw3];exact zB _ _
 have HB3:=zH (ah HB2.out TP);have HKB3:Hid (aj w3 B 4 [.bool false]):=HKB2.out.below TP HKB2.out.lt;simp only[<-hG]
 clear hG hw3 TP HKB2 HB2 F6;go_wp2_with fail;refine (Ad.out w3).mono ?_;rintro e w4 ⟨rfl,hk4,hb4⟩;obtain⟨D,hD⟩:=zE w3.heap.size;rw[<-hD] at hk4;have HD:=zH hk4;have HB4:=zH (ah HB3.out hb4);have HKB4:Hid (aj w4 B 4 [.bool false]):=HKB3.out.below hb4 HKB3.out.lt;have HG4:Hid (aj w4 G 9 (strs (wd::nm::more))):=HG.out.below hb4 HG.out.lt;simp only[<-hD]
 clear hD hk4 hb4 HKB3 HB3 HG Ad;go_wp2_with fail
 go_loopg [22] 3 (fun q iv wr=>∃i:Nat,i+q=3/\iv=.int .i64 i/\Hid (i<=idx)/\Hid (Below w.heap.size w wr)/\Hid (aj wr B 4 [.bool false])/\Hid (aj wr G 9 (strs (wd::nm::more)))/\Hid (aj wr D 155 Wi))
 case atStart=>exact⟨0,by omega,rfl,Nat.zero_le _,HB4,HKB4,HG4,HD⟩
 case round=>
  obtain⟨i,hi,rfl,hidx,hbr,hkB,wO,Pq⟩:=hrel;clear HB4 HKB4 HG4 HD
  obtain⟨wi,fi,e5,e1,e2,e3,e4⟩:∃(wi:ByteArray) (fi:Nat),(∀(a:Array Value) (w:World),Sem.run prog (callFunc fi a) w=Result.ok (Next.enter fi a) w)/\wr.cell? ⟨D,i*2,none⟩=some (.string wi)/\wr.cell? ⟨D,i*2+1,none⟩=some (.func (Fn.func fi) #[] #[])/\Hid (i≠idx->(wi.toList==wd.toList)=false)/\Hid (i=idx->wi=wd/\fi=fn/\(wd.toList==[102,97,99,116])= !col):=by
   have hc:=Pq.out.cells;have hI:i=0∨i=1∨i=2:=by have h1:=hidx.out;have h2:idx<=2:=by {rcases Zh.out with h|h|h<;>omega};omega
   rcases hI with rfl|rfl|rfl
   ·refine⟨_,_,fun a w=>by (first|rfl|simp[go_sem]),hc 0,hc 1,fun h=>?_,fun h=>?_⟩
    all_goals rcases Zh.out with⟨h1,rfl,rfl,rfl⟩|⟨h1,rfl,rfl,rfl⟩|⟨h1,rfl,rfl,rfl⟩<;>first|(exfalso;omega)|exact⟨rfl,rfl,by simp only[ByteArray.toList_eq];decide⟩|(simp only[ByteArray.toList_eq];decide)
   ·refine⟨_,_,fun a w=>by (first|rfl|simp[go_sem]),hc 2,hc 3,fun h=>?_,fun h=>?_⟩
    all_goals rcases Zh.out with⟨h1,rfl,rfl,rfl⟩|⟨h1,rfl,rfl,rfl⟩|⟨h1,rfl,rfl,rfl⟩<;>first|(exfalso;omega)|exact⟨rfl,rfl,by simp only[ByteArray.toList_eq];decide⟩|(simp only[ByteArray.toList_eq];decide)
   ·refine⟨_,_,fun a w=>by (first|rfl|simp[go_sem]),hc 4,hc 5,fun h=>?_,fun h=>?_⟩
    all_goals rcases Zh.out with⟨h1,rfl,rfl,rfl⟩|⟨h1,rfl,rfl,rfl⟩|⟨h1,rfl,rfl,rfl⟩<;>first|(exfalso;omega)|exact⟨rfl,rfl,by simp only[ByteArray.toList_eq];decide⟩|(simp only[ByteArray.toList_eq];decide)
  have i0:(0:Int)<=(i:Int):=by omega
  have i1:(i:Int)<3:=by have h1:=hidx.out;have h2:idx<=2:=by {rcases Zh.out with h|h|h<;>omega};omega
  have i2:i<3:=by omega
  go_upto_region 7 with fail
  generalize hX:World.alloc wr _=wt;obtain⟨hT,Zi⟩:=zA hX;have HTW:Hid (w.heap.size<=wr.heap.size):=hbr.out.size;have rQ:Hid (wr.heap.size≠R):=by have h1:=HRW.out;have h2:=HTW.out;show _≠_;omega
  generalize wr.heap.size=T at hT HTW rQ⊢;replace hbr:=ah hbr.out Zi;replace hkB:=hkB.out.below Zi hkB.out.lt;replace wO:=wO.out.below Zi wO.out.lt;replace Pq:=Pq.out.below Zi Pq.out.lt;clear hX Zi e1 e2;have hcc:=fun (X:World) (h:Below wt.heap.size wt X)=>show X.cell? ⟨T,0,none⟩=some (.string wi)/\X.cell? ⟨T,1,none⟩=some (.func (Fn.func fi) #[] #[])/\X.cell? ⟨G,0,none⟩=some (.string wd)/\X.cell? ⟨G,1,none⟩=some (.string nm) from⟨(hT.below h hT.lt).cells 0,(hT.below h hT.lt).cells 1,(wO.below h wO.lt).cells 0,(wO.below h wO.lt).cells 1⟩
  have ao7:(0:Int)<(k:Int)+3:=by omega
  have ao8:(1:Int)<(k:Int)+3:=by omega
  by_cases hix:i=idx
  ·obtain⟨rfl,rfl,hfc⟩:=e4.out hix;have HFC:=zH hfc;clear e3 e4 hix hidx hfc;refine jL (Below wt.heap.size wt) 99 (aI _ _ 1) (fun v hv hS=>?_)
   iterate 6 refine dR ?_
   refine iW ?_;have hl:=hcc _ hS;go_wp2_with fail;refine (HNM.out v (ah hbr hS)).mono ?_;rintro e w5 ⟨rfl,hb5⟩;replace hS:=ah hS hb5;have hfc:=HFC.out;clear hl hb5 hv;have hl:=hcc _ hS;cases col
   all_goals simp only[Bool.not_true,Bool.not_false] at hfc
   all_goals as_aux_lemma=>
    go_wp2_with fail;refine (HM.out w5).mono ?_;rintro e w6 ⟨rfl,hw6⟩;rw[hw6];clear hw6 hl hfc;have ao9:(1:Int)<=(k:Int)+3:=by omega
    replace hbr:=ah hbr hS;replace hkB:=hkB.below hS hkB.lt;replace wO:=wO.below hS wO.lt;replace hT:=hT.below hS hT.lt;clear hS hcc;have hcc:=fun (X:World) (h:aj X T 155 [.string wi,.func (Fn.func fi) #[] #[]])=>h.cells
    go_upto_region 9 with fail
    refine jL (fun X=>aj X T 155 [.string wi,.func (Fn.func fi) #[] #[]]) 99 hT.drew (fun v7 hv7 hS=>?_)
    iterate 6 refine dR ?_
    refine mg 6 (HR.out v7 G (ah hbr hv7) (wO.below hv7 wO.lt)) ?_;rintro e w8 ⟨rfl,hpx,hfr⟩;refine⟨_,rfl,hfr.keep T _ hS rQ.out (fun cs t fr e=>by injection e with _ e2 _;subst e2;decide),fun hS=>?_⟩;refine iW ?_;have Zj:Hid (aj w8 B 4 [.bool false]):=hfr.keep B _ (hkB.below hv7 hkB.lt) (by have h1:=HRW.out;have h2:=kR.out;omega) (fun cs t fr e=>by injection e with _ e2 _;subst e2;decide);have BM:Hid (FR R w w8):=FR.trans (FR.below (ah hbr hv7)) hfr;have HPX:=zH hpx;clear hpx hfr hcc;have hk8:=Zj.out.cells;have hf8:=Zj.out.bH;go_wp2;refine leaves_cons (f:=87) (args:=#[.pointer (some ⟨B,0,none⟩)]) (by simp) (by simp[go_sem]) ?_;refine (QT B _).mono ?_;rintro e u' w9 ⟨rfl,rfl,fP⟩;have hKS:=(Zj.out.set 0 (.bool true)).below fP (Zj.out.set 0 (.bool true)).lt;have hc9:w9.cell? ⟨B,0,none⟩=some (.bool true):=hKS.cells 0;simp[Leaves,settle,results,results35,go_sem,hc9];exact⟨(HPX.out.setB Zj.out (Nat.le_trans HW0.out kR.out) _).below fP,aeE BM.out kR.out fP⟩
  ·have hne:=e3.out hix;have HLT:Hid (i+1<=idx):=by have h1:=hidx.out;show i+1<=idx;omega
   clear e3 e4 hix hidx;refine jL (Below wt.heap.size wt) 99 (aI _ _ 1) (fun v hv hS=>?_)
   iterate 6 refine dR ?_
   refine iW ?_;have H1:=zH (ah hbr hS);have H2:=zH (hkB.below hS hkB.lt);have H3:=zH (wO.below hS wO.lt);have H4:=zH (Pq.below hS Pq.lt);clear hcc hbr hkB wO Pq hT;go_wp2
   go_roundg (2-i)
   case measure=>omega
   case rel=>exact⟨i+1,by omega,by go_num,HLT,H1,H2,H3,H4⟩
theorem CG:(prog.info? 53).map (fun i=>(i.zero,i.size,i.bytes))=some (some (.agg #[.string ⟨#[]⟩,.bool false,.int .i64 0,.int .i64 0]),4,40):=by kernel_rfl
theorem Zk (w0 w:World) (R g c:Nat) (l:Lw) (ss:List (Sc × Hd)) (ps:List (Pv × Hd)) (fv sv pv:Value) (nm s rest:ByteArray) (t:Ty) (h:PT w0 w R l ss ps fv sv pv) (hL:bT w) (ht:Cm t=true) (hs:s=bC t) (hn:l.facts.length<=1000) (hg:∃cs,aj w g 9 cs/\cs[1]?=some (.string nm)/\cs[2]?=some (.string s)):
  Calls prog 142 #[.pointer (some ⟨R,0,none⟩),.slice (some ⟨g,1,none⟩) 2 c,.string rest] w fun e w'=>e=.returned (.tuple #[])/\(∃v',PT w0 w' R ⟨l.facts++[⟨nm,t⟩],l.aH,l.ay⟩ ss ps v' sv pv)/\FR R w w':=by
 obtain⟨cs,hg0,hg1,hg2⟩:=hg;have HT:=zH (fun W (hb:Below w.heap.size w W)=>hs ▸ xX t W (hL.below hb) ht);have uJ:=zH h;have oL:Hid (∀W,Below w.heap.size w W->W.cell? ⟨g,1,none⟩=some (.string nm)/\W.cell? ⟨g,2,none⟩=some (.string s)):=fun W hb=>⟨((hg0.below hb hg0.lt).cells 1).trans hg1,((hg0.below hb hg0.lt).cells 2).trans hg2⟩
 have Hu:Hid (∀W W',Below w.heap.size w W->TF 53 W W'->W'.cell? ⟨g,1,none⟩=some (.string nm)/\W'.cell? ⟨g,2,none⟩=some (.string s)):=fun W W' hb ht=>⟨((ht.blk (hg0.below hb hg0.lt) (by decide)).cells 1).trans hg1,((ht.blk (hg0.below hb hg0.lt) (by decide)).cells 2).trans hg2⟩
 have HM:=zH (sG w)
 have TQ:Hid (R≠g):=by
  rintro rfl;have e1:(Obj.cells _ _ _:Obj)=Obj.cells _ _ _:=Option.some.inj (h.blk.symm.trans hg0);injection e1 with _ e2 _;exact absurd e2 (by decide)
 obtain⟨tt,tm,td⟩:=t;unfold Ty.v at HT;simp only at HT;clear h hL ht hs hg0 hg1 hg2;go_enter func142,ntmps142;go_wp2_with fail;refine HM.out.mono ?_;rintro e w1 ⟨rfl,hw1⟩;have hw2:=hw1.symm;clear hw1;subst hw2
 go_upto_region 1 with fail
 refine wp_region_noPanic ?_;refine wp_region_held_drew (S:=(fun w'=>w'.cell? ⟨g,1,none⟩=some (.string nm)/\w'.cell? ⟨g,2,none⟩=some (.string s))) (by kernel_rfl) (oL.out _ (Below.drew (Below.refl _ w))) (fun hHeld=>?_);refine dN 0 ?_;refine dN 1 ?_;refine dN 2 ?_;refine dN 3 ?_;refine dN 5 ?_;refine dN 6 ?_;refine dN 8 ?_;refine dN 9 ?_;refine dN 10 ?_;refine dN 7 ?_;refine ZX 4 11 (fun K hK=>?_) fun K hK=>?_
 ·have hc4:(w).cell? ⟨R,0,none⟩=some fv:=(uJ.out.blk.cells 0)
  go_simp;go_wp2_with fail;refine mZ hK (oL.out _ (aI w.heap.size w 1)) fun hHeld=>?_
  clear hK K;refine qG 11 fun K hK=>?_
  go_simp;refine (HT.out _ (aI w.heap.size w 1)).mono ?_;rintro e w10 ⟨rfl,BN⟩;have jV:=zH (ah (aI w.heap.size w 1) BN);go_wp2_with fail;refine mZ hK (oL.out _ jV.out) fun hHeld=>?_
  clear hK K;refine dN 12 ?_;refine qG 13 fun K hK=>?_
  go_simp;go_wp2_with fail;refine mZ hK (oL.out _ (jV.out.alloc jV.out.size _)) fun hHeld=>?_
  clear hK K;refine qG 14 fun K hK=>?_
  have HP:=zH (uJ.out.below jV.out);refine rF w10 #[.string nm,.bool tt,.int .i64 tm,.int .i64 td] (by rfl) _ _ 25 (by rfl) (R+1) 53 (.agg #[.string ⟨#[]⟩,.bool false,.int .i64 0,.int .i64 0]) 4 40 1 underlying25 CG rfl (by decide) fv l.facts.length (l.facts.flatMap Dc.cells) (by rfl) HP.out.f (by rfl) rfl ?_ ?_ ?_ ?_ ?_
  any_goals first|(unfold maxLen;omega)|omega
  ·intro u hu;simp only[mem_cons,not_mem_nil,or_false] at hu;rcases hu with rfl|rfl|rfl|rfl<;>rfl
  ·have h1:=HP.out.bl.size;have h2:=HP.out.blk.lt;omega
  intro v' KR hown hgr _;obtain⟨Av,cv,rfl,_⟩:=dK hown;have HQ:=zH (HP.out.Wh ⟨nm,⟨tt,tm,td⟩⟩ hown hgr);have HK:=zH ((TF.grown HP.out.f hgr).blk HP.out.blk (by decide));have HG2:Hid (KR.cell? ⟨g,1,none⟩=some (.string nm)/\KR.cell? ⟨g,2,none⟩=some (.string s)):=Hu.out _ _ jV.out (TF.grown HP.out.f hgr);have BM:Hid (FR R w _):=FR.grown (i:=0) (u:=.slice Av (l.facts.length+1) cv) jV.out HP.out.f (.inl rfl) hgr;clear hown hgr;refine mZ hK (HG2.out) fun hHeld=>?_
  clear hK K;refine dN 15 ?_;refine dN 16 ?_;refine qG 17 fun K hK=>?_
  have hkc:=HK.out.cells;have uG:=HK.out.bH;go_simp;go_wp2_with fail;refine mZ hK (⟨by rw[cell?_setCell_other _ _ _ _ (by simp[TQ.out])];exact HG2.out.1,by rw[cell?_setCell_other _ _ _ _ (by simp[TQ.out])];exact HG2.out.2⟩) fun hHeld=>?_
  clear hK K;refine wpAnyH_done (by kernel_rfl) ?_ _;refine NoPanic.normal ?_;go_wp2;go_end0;exact⟨rfl,⟨_,HQ.out⟩,BM.out⟩
 ·go_simp;refine (HT.out _ (aI w.heap.size w 1)).mono ?_;rintro e w10 ⟨rfl,BN⟩;have jV:=zH (ah (aI w.heap.size w 1) BN);go_wp2_with fail;refine mZ hK (oL.out _ jV.out) fun hHeld=>?_
  clear hK K;refine dN 12 ?_;refine ZX 4 13 (fun K hK=>?_) fun K hK=>?_
  ·have hc4:(w10).cell? ⟨R,0,none⟩=some fv:=((uJ.out.below jV.out).blk.cells 0)
   go_simp;go_wp2_with fail;refine mZ hK (oL.out _ jV.out) fun hHeld=>?_
   clear hK K;refine qG 13 fun K hK=>?_
   go_simp;go_wp2_with fail;refine mZ hK (oL.out _ (jV.out.alloc jV.out.size _)) fun hHeld=>?_
   clear hK K;refine qG 14 fun K hK=>?_
   have HP:=zH (uJ.out.below jV.out);refine rF w10 #[.string nm,.bool tt,.int .i64 tm,.int .i64 td] (by rfl) _ _ 25 (by rfl) (R+1) 53 (.agg #[.string ⟨#[]⟩,.bool false,.int .i64 0,.int .i64 0]) 4 40 1 underlying25 CG rfl (by decide) fv l.facts.length (l.facts.flatMap Dc.cells) (by rfl) HP.out.f (by rfl) rfl ?_ ?_ ?_ ?_ ?_
   any_goals first|(unfold maxLen;omega)|omega
   ·intro u hu;simp only[mem_cons,not_mem_nil,or_false] at hu;rcases hu with rfl|rfl|rfl|rfl<;>rfl
   ·have h1:=HP.out.bl.size;have h2:=HP.out.blk.lt;omega
   intro v' KR hown hgr _;obtain⟨Av,cv,rfl,_⟩:=dK hown;have HQ:=zH (HP.out.Wh ⟨nm,⟨tt,tm,td⟩⟩ hown hgr);have HK:=zH ((TF.grown HP.out.f hgr).blk HP.out.blk (by decide));have HG2:Hid (KR.cell? ⟨g,1,none⟩=some (.string nm)/\KR.cell? ⟨g,2,none⟩=some (.string s)):=Hu.out _ _ jV.out (TF.grown HP.out.f hgr);have BM:Hid (FR R w _):=FR.grown (i:=0) (u:=.slice Av (l.facts.length+1) cv) jV.out HP.out.f (.inl rfl) hgr;clear hown hgr;refine mZ hK (HG2.out) fun hHeld=>?_
   clear hK K;refine dN 15 ?_;refine dN 16 ?_;refine qG 17 fun K hK=>?_
   have hkc:=HK.out.cells;have uG:=HK.out.bH;go_simp;go_wp2_with fail;refine mZ hK (⟨by rw[cell?_setCell_other _ _ _ _ (by simp[TQ.out])];exact HG2.out.1,by rw[cell?_setCell_other _ _ _ _ (by simp[TQ.out])];exact HG2.out.2⟩) fun hHeld=>?_
   clear hK K;refine wpAnyH_done (by kernel_rfl) ?_ _;refine NoPanic.normal ?_;go_wp2;go_end0;exact⟨rfl,⟨_,HQ.out⟩,BM.out⟩
  ·go_simp;go_wp2_with fail;refine mZ hK (oL.out _ (jV.out.alloc jV.out.size _)) fun hHeld=>?_
   clear hK K;refine qG 4 fun K hK=>?_
   have hc4:(w10.alloc (.cells #[.string nm,.bool tt,.int .i64 tm,.int .i64 td] 53)).cell? ⟨R,0,none⟩=some fv:=((uJ.out.below (jV.out.alloc jV.out.size (.cells #[.string nm,.bool tt,.int .i64 tm,.int .i64 td] 53))).blk.cells 0)
   go_simp;go_wp2_with fail;refine mZ hK (oL.out _ (jV.out.alloc jV.out.size _)) fun hHeld=>?_
   clear hK K;refine qG 14 fun K hK=>?_
   have HP:=zH (uJ.out.below jV.out);refine rF w10 #[.string nm,.bool tt,.int .i64 tm,.int .i64 td] (by rfl) _ _ 25 (by rfl) (R+1) 53 (.agg #[.string ⟨#[]⟩,.bool false,.int .i64 0,.int .i64 0]) 4 40 1 underlying25 CG rfl (by decide) fv l.facts.length (l.facts.flatMap Dc.cells) (by rfl) HP.out.f (by rfl) rfl ?_ ?_ ?_ ?_ ?_
   any_goals first|(unfold maxLen;omega)|omega
   ·intro u hu;simp only[mem_cons,not_mem_nil,or_false] at hu;rcases hu with rfl|rfl|rfl|rfl<;>rfl
   ·have h1:=HP.out.bl.size;have h2:=HP.out.blk.lt;omega
   intro v' KR hown hgr _;obtain⟨Av,cv,rfl,_⟩:=dK hown;have HQ:=zH (HP.out.Wh ⟨nm,⟨tt,tm,td⟩⟩ hown hgr);have HK:=zH ((TF.grown HP.out.f hgr).blk HP.out.blk (by decide));have HG2:Hid (KR.cell? ⟨g,1,none⟩=some (.string nm)/\KR.cell? ⟨g,2,none⟩=some (.string s)):=Hu.out _ _ jV.out (TF.grown HP.out.f hgr);have BM:Hid (FR R w _):=FR.grown (i:=0) (u:=.slice Av (l.facts.length+1) cv) jV.out HP.out.f (.inl rfl) hgr;clear hown hgr;refine mZ hK (HG2.out) fun hHeld=>?_
   clear hK K;refine dN 15 ?_;refine dN 16 ?_;refine qG 17 fun K hK=>?_
   have hkc:=HK.out.cells;have uG:=HK.out.bH;go_simp;go_wp2_with fail;refine mZ hK (⟨by rw[cell?_setCell_other _ _ _ _ (by simp[TQ.out])];exact HG2.out.1,by rw[cell?_setCell_other _ _ _ _ (by simp[TQ.out])];exact HG2.out.2⟩) fun hHeld=>?_
   clear hK K;refine wpAnyH_done (by kernel_rfl) ?_ _;refine NoPanic.normal ?_;go_wp2;go_end0;exact⟨rfl,⟨_,HQ.out⟩,BM.out⟩
def SV (w0:World) (R:Nat) (fv sv pv:Value) (X:World):Prop:=aj X R 29 [fv,sv,pv]/\Below w0.heap.size w0 X
section
variable {w0 X X':World} {R:Nat} {l:Lw} {ss:List (Sc × Hd)} {ps:List (Pv × Hd)} {fv sv pv v:Value} {e:TypeId} {s n:Nat} {xs:List Value}
theorem PT.svd (h:PT w0 X R l ss ps fv sv pv):SV w0 R fv sv pv X.drew:=⟨h.blk.drew,h.bl.drew⟩
theorem PT.hR (h:PT w0 X R l ss ps fv sv pv):R+1<=X.heap.size:=h.blk.lt
theorem PT.grow (h:PT w0 X R l ss ps fv sv pv) (ho:X.ownsRow (R+1) e s v n xs) (he:29≠e) (hg:X.grownBy X' v.ownBlock):SV w0 R fv sv pv X':=
 ⟨(TF.grown ho hg).blk h.blk he,h.bl.grown hg h.bl.size (fun k hk=>by have h1:=(ho.lt k hk).1;have h2:=h.r;omega)⟩
end
theorem SV.alloc {w0 X:World} {R:Nat} {fv sv pv:Value} (h:SV w0 R fv sv pv X) (o:Obj):SV w0 R fv sv pv (X.alloc o):=⟨h.1.alloc o,h.2.alloc h.2.size o⟩
structure IS (W X:World) (t:TypeId) (cs:List Value) (e:TypeId) (s:Nat) (v:Value) (n:Nat) (xs:List Value):Prop where
 bl:Below W.heap.size W X
 b:aj X W.heap.size t cs
 o:X.ownsRow (W.heap.size+1) e s v n xs
section
variable {W X X':World} {t:TypeId} {cs:List Value} {e:TypeId} {s n:Nat} {v v':Value} {xs ys:List Value}
theorem IS.below (h:IS W X t cs e s v n xs) (hb:Below X.heap.size X X'):IS W X' t cs e s v n xs:=⟨ah h.bl hb,h.b.below hb h.b.lt,own_below h.o hb⟩
theorem IS.hW (h:IS W X t cs e s v n xs):W.heap.size+1<=X.heap.size:=h.b.lt
theorem IS.blk (h:IS W X t cs e s v n xs) (he:t≠e) (hg:X.grownBy X' v.ownBlock):aj X' W.heap.size t cs:=(TF.grown h.o hg).blk h.b he
theorem IS.blg (h:IS W X t cs e s v n xs) (hg:X.grownBy X' v.ownBlock):Below W.heap.size W X':=h.bl.grown hg h.bl.size (fun k hk=>by have h1:=(h.o.lt k hk).1;omega)
theorem IS.push (h:IS W X t cs e s v n xs) (he:t≠e) (hg:X.grownBy X' v.ownBlock) (ho:X'.ownsRow (W.heap.size+1) e s v' (n+1) ys) (i:Nat):IS W (X'.setCell ⟨W.heap.size,i,none⟩ v') t (cs.set i v') e s v' (n+1) ys:=
 ⟨(h.blg hg).setCell (p:=⟨W.heap.size,i,none⟩) (Nat.le_refl _) _,(h.blk he hg).set i v',fJ ho i v'⟩
theorem IS.put (h:IS W X t cs e s v n xs) (i:Nat) (u:Value):IS W (X.setCell ⟨W.heap.size,i,none⟩ u) t (cs.set i u) e s v n xs:=
 ⟨h.bl.setCell (p:=⟨W.heap.size,i,none⟩) (Nat.le_refl _) _,h.b.set i u,fJ h.o i u⟩
end
theorem Zl {w w':World} {b:Nat} {t:TypeId} {cs:List Value} {v:Option Nat} (hb:aj w b t cs) (hg:w.grownBy w' v) (hl:∀k,v=some k->k<b):aj w' b t cs:=hb.of_block (hg.block b hb.lt (fun e=>Nat.lt_irrefl _ (hl b e.symm)))
theorem abD:(prog.info? 132).map (fun i=>(i.zero,i.size,i.bytes))=some (some (.agg #[.bool false,.string ⟨#[]⟩,.string ⟨#[]⟩,.bool false,.string ⟨#[]⟩,.string ⟨#[]⟩]),6,80):=by kernel_rfl
theorem abE:(prog.info? 71).map (fun i=>(i.zero,i.size,i.bytes))=some (some (.agg #[.string ⟨#[]⟩,.int .i64 0,.int .i64 0,.slice none 0 0]),4,56):=by kernel_rfl
def Ie (p:ByteArray) (b:Bk):Prop:=p.size<=1000000/\∃x y:List UInt8,Lib.cut p.data.toList [32]=(x,y,true)/\x.length<=1000000/\y.length<=1000000/\fG ⟨x.toArray⟩=(b.fr,true)/\fG ⟨y.toArray⟩=(b.rt,true)
def mY (rest:ByteArray):List ByteArray:=Lib.splitB ⟨#[44,32]⟩ 0 (Lib.countB rest ⟨#[44,32]⟩) rest
structure Ig (rest:ByteArray) (bJ:List Bk):Prop where
 size:rest.size<=1000000
 n:Lib.countB rest ⟨#[44,32]⟩+1=bJ.length
 len:(mY rest).length=bJ.length
 max:bJ.length<=1000
 ok:∀i (h:i<bJ.length) (h':i<(mY rest).length),Ie (mY rest)[i] bJ[i]
theorem Wj (w0 w:World) (R g c:Nat) (l:Lw) (ss:List (Sc × Hd)) (ps:List (Pv × Hd)) (fv sv pv:Value) (nm s rest:ByteArray) (tm td:Int) (bJ:List Bk) (h:PT w0 w R l ss ps fv sv pv) (hL:bT w) (ht:Cm ⟨false,tm,td⟩=true) (hs:s=bC ⟨false,tm,td⟩) (hn:ss.length<=1000) (hr:Ig rest bJ) (hg:∃cs,aj w g 9 cs/\cs[1]?=some (.string nm)/\cs[2]?=some (.string s)):
  Calls prog 144 #[.pointer (some ⟨R,0,none⟩),.slice (some ⟨g,1,none⟩) 2 c,.string rest] w fun e w'=>e=.returned (.tuple #[])/\(∃v' hd,PT w0 w' R ⟨l.facts,l.aH++[⟨nm,tm,td,bJ⟩],l.ay⟩ (ss++[(⟨nm,tm,td,bJ⟩,hd)]) ps fv v' pv)/\FR R w w':=by
 obtain⟨cs,hg0,hg1,hg2⟩:=hg;have HT:=zH (fun W (hb:Below w.heap.size w W)=>hs ▸ xX ⟨false,tm,td⟩ W (hL.below hb) ht);have jR:Hid (∀W,Below w.heap.size w W->bT W):=fun W hb=>hL.below hb
 have Ed:=zH hr;have HM:=zH sG;have hcg:=fun (X:World) (hb:Below w.heap.size w X)=>show X.cell? ⟨g,1,none⟩=some (.string nm)/\X.cell? ⟨g,2,none⟩=some (.string s) from⟨((hg0.below hb hg0.lt).cells 1).trans hg1,((hg0.below hb hg0.lt).cells 2).trans hg2⟩
 unfold Ty.v at HT;simp only at HT;have hl:=hcg w (Below.refl _ _);clear hL ht hs hg0 hg1 hg2 hr;go_enter func144,ntmps144;go_wp2_with fail;refine (HM.out w).mono ?_;rintro e w1 ⟨rfl,hw1⟩;rw[hw1];clear hw1;go_wp2_with fail;refine (HT.out w (Below.refl _ _)).mono ?_;rintro e w2 ⟨rfl,hb⟩;clear hl HT
 go_upto_region 2 with fail
 generalize hX:World.alloc w2 _=W1;obtain⟨hT,hb2⟩:=zA hX;replace hb:=ah hb hb2;clear hX hb2;have hl:=hT.cells;go_wp2_with fail;refine (HM.out W1).mono ?_;rintro e w3 ⟨rfl,hw1⟩;rw[hw1];clear hw1 hl;have hcc:=fun (X:World) (h:Below W1.heap.size W1 X)=>And.intro (hcg X (ah hb h)) (hT.below h hT.lt).cells
 go_upto_region 3 with fail
 refine jL (Below W1.heap.size W1) 99 (aI _ _ 1) (fun v hv hS=>?_)
 iterate 6 refine dR ?_
 refine ng 6 (fun _=>hS.alloc hS.size _) (fun _=>?_);refine nZ 7 (fun _=>hS.alloc hS.size _) (fun _=>?_);refine iW ?_;replace hb:=ah hb hv;replace h:=h.below hb;clear hcc hcg hS hv hT
 go_upto_region 4 with fail
 generalize hX:World.alloc v _=W3;have k:IS v W3 71 [.string nm,.int .i64 tm,.int .i64 td,.slice none 0 0] 132 6 (.slice none 0 0) 0 (([]:List Bk).flatMap Bk.cells):=by rw[<-hX];exact⟨zB _ _,aj.new _ _ _,ownsRow_nil _ _ _ _⟩
 have hGN:W3.heap.size≠v.heap.size:=by have:=k.hW;omega
 clear hX;have HBV:Hid (Below w.heap.size w v):=hb;obtain⟨m,hm⟩:=(jR.out _ (ah hb k.bl)).e.base.cut.2;have F6:=zH (Tryz.strings_Split rest ⟨#[44,32]⟩ m W3 (by have:=Ed.out.size;omega) hm (by decide));rw[show Lib.splitB ⟨#[44,32]⟩ 0 (Lib.countB rest ⟨#[44,32]⟩) rest=mY rest from rfl,Ed.out.n] at F6;have hcap:=Ed.out.max;clear hm hb HM;go_wp2_with fail;refine F6.out.mono ?_;rintro e w4 ⟨rfl,hw4⟩;have hG:aj w4 W3.heap.size 9 (strs (mY rest)):=by rw[hw4,E5];exact aj.new W3 _ _
 replace k:=k.below (X':=w4) (by rw[hw4];exact zB _ _);have HGN:Hid (W3.heap.size≠v.heap.size):=hGN;generalize W3.heap.size=G at hG HGN⊢;clear hw4 F6 hGN;go_wp2_with fail
 go_loopg [34] bJ.length (fun q iv X=>∃(i:Nat) (bv:Value),i+q=bJ.length/\iv=.int .i64 i/\IS v X 71 [.string nm,.int .i64 tm,.int .i64 td,bv] 132 6 bv i ((bJ.take i).flatMap Bk.cells)/\aj X G 9 (strs (mY rest)))
 case atStart=>exact⟨0,_,by omega,rfl,k,hG⟩
 case round=>
  clear k hG;obtain⟨i,bv,hi,rfl,k,hG⟩:=hrel;by_cases hlt:i<bJ.length
  ·have hlp:i<(mY rest).length:=by rw[Ed.out.len];exact hlt
   have hc:=strs_get hG hlp;have hTK:(bJ.take (i+1)).flatMap Bk.cells=(bJ.take i).flatMap Bk.cells++bJ[i].cells:=by rw[take_succ_eq_append_getElem hlt,flatMap_append];simp
   obtain⟨hps,x,y,hcut,hx1,hy1,hrx,F5⟩:=Ed.out.ok i hlt hlp;generalize (mY rest)[i]=p at*;generalize bJ[i]=bk at*;obtain⟨⟨f1,f2,f3⟩,⟨r1,r2,r3⟩⟩:=bk;have O7:=zH hTK;obtain⟨m,hm⟩:=(jR.out _ (ah HBV.out k.bl)).e.base.cut.2;have Ei:=zH (Tryz.strings_Cut p ⟨#[32]⟩ m _ (by omega) hm);rw[show (⟨#[32]⟩:ByteArray).data.toList=[32] from rfl,hcut] at Ei;simp only at Ei hrx F5
   have Y1:Hid (∀W,Laid W->Calls prog 145 #[.string ⟨x.toArray⟩] W fun e w'=>e=.returned (.agg #[.bool f1,.string f2,.string f3])/\Below W.heap.size W w'):=fun W hL=>by
    have k:=tq ⟨x.toArray⟩ W hL (by show x.toArray.size<=_;simp;omega) (by rw[hrx]);rw[hrx] at k;exact k
   have HNY:Hid (∀W,Laid W->Calls prog 145 #[.string ⟨y.toArray⟩] W fun e w'=>e=.returned (.agg #[.bool r1,.string r2,.string r3])/\Below W.heap.size W w'):=fun W hL=>by
    have k:=tq ⟨y.toArray⟩ W hL (by show y.toArray.size<=_;simp;omega) (by rw[F5]);rw[F5] at k;exact k
   clear hTK hps hcut hm hx1 hy1 hrx F5;generalize (⟨x.toArray⟩:ByteArray)=xb at*;generalize (⟨y.toArray⟩:ByteArray)=yb at*;go_wp2_with fail;refine Ei.out.mono ?_;rintro e w5 ⟨rfl,nd,hw5⟩;replace k:=k.below (X':=w5) (by rw[hw5];exact aI _ _ _);replace hG:=hG.below (w':=w5) (by rw[hw5];exact aI _ _ _) hG.lt;clear hc hw5 Ei;go_wp2_with fail;refine (sG w5).mono ?_;rintro e w6 ⟨rfl,hw1⟩;rw[hw1];clear hw1;have hcx:=fun Y (h:aj Y v.heap.size 71 [.string nm,.int .i64 tm,.int .i64 td,bv]/\aj Y G 9 (strs (mY rest)))=>h.1.cells
   go_upto_region 9 with fail
   refine jL (fun Y=>aj Y v.heap.size 71 [.string nm,.int .i64 tm,.int .i64 td,bv]/\aj Y G 9 (strs (mY rest))) 10 ⟨k.b.drew,hG.drew⟩ (fun w7 h7 hS=>?_);replace k:=k.below h7
   iterate 3 refine dR ?_
   refine iM 4 ?_;refine mg 3 (Y1.out w7 (jR.out _ (ah HBV.out k.bl)).e.base) ?_;rintro e w8 ⟨rfl,hb8⟩;refine⟨_,rfl,⟨hS.1.below hb8 hS.1.lt,hS.2.below hb8 hS.2.lt⟩,fun hS=>?_⟩;replace k:=k.below hb8;refine mg 5 (HNY.out w8 (jR.out _ (ah HBV.out k.bl)).e.base) ?_;rintro e w9 ⟨rfl,fP⟩;refine⟨_,rfl,⟨hS.1.below fP hS.1.lt,hS.2.below fP hS.2.lt⟩,fun hS=>?_⟩;replace k:=k.below fP;refine dR ?_;refine ng 7 (fun _=>⟨hS.1.alloc _,hS.2.alloc _⟩) (fun _=>?_);refine OI 8 abD underlying69 k.o (by omega) k.hW (fun v' w10 ho hg _ _=>⟨⟨k.blk (by decide) hg,(TF.grown k.o hg).blk hS.2 (by decide)⟩,fun hS=>?_⟩);obtain⟨A9,c9,rfl,_⟩:=dK ho;have fL:=hS.1.bH;refine dR ?_;refine nZ 10 (fun h=>absurd rfl h) (fun _=>?_);refine iW ?_;have k2:=k.push (ys:=(bJ.take (i+1)).flatMap Bk.cells) (by decide) hg (by rw[O7.out];exact ho) 3;have hG2:=hS.2.other (p:=⟨v.heap.size,3,none⟩) HGN.out (.slice A9 (i+1) c9);clear hcx hS fL ho hg k hG hb8 fP h7;go_wp2
   go_roundg (bJ.length-(i+1))
   case measure=>omega
   case rel=>exact⟨i+1,_,by omega,by go_num,k2,hG2⟩
  ·obtain rfl:i=bJ.length:=by omega
   rw[take_of_length_le (Nat.le_refl _)] at k;have h5:=h.below k.bl;obtain⟨A9,c9,rfl,_⟩:=dK k.o;have hcx:=fun Y (q:SV w0 R fv sv pv Y/\aj Y v.heap.size 71 [.string nm,.int .i64 tm,.int .i64 td,.slice A9 bJ.length c9])=>And.intro q.1.1.cells q.2.cells
   clear Ed jR hcap hG
   go_upto_region 11 with fail
   refine jL (fun Y=>SV w0 R fv sv pv Y/\aj Y v.heap.size 71 [.string nm,.int .i64 tm,.int .i64 td,.slice A9 bJ.length c9]) 10 ⟨h5.svd,k.b.drew⟩ (fun w7 h7 hS=>?_);replace h5:=h5.below h7;replace k:=k.below h7
   iterate 6 refine dR ?_
   refine ng 6 (fun _=>⟨hS.1.alloc _,hS.2.alloc _⟩) (fun _=>?_);refine OI 7 abE underlying26 h5.s (by omega) h5.hR (fun v' w8 ho hg _ _=>⟨⟨h5.grow h5.s (by decide) hg,Zl hS.2 hg (fun z e=>(h.s.lt z e).2)⟩,fun hS=>?_⟩);obtain⟨A8,c8,rfl,_⟩:=dK ho;have fL:=hS.1.1.bH
   iterate 2 refine dR ?_
   refine nZ 10 (fun h=>absurd rfl h) (fun _=>?_);refine iW ?_;have hz:=h5.aiQ (⟨nm,tm,td,bJ⟩,⟨A9,bJ.length,c9⟩) ⟨rfl,xu k.o (by have:=h.hR;omega)⟩ ho hg;have hF:=FR.grown (R:=R) (i:=1) (u:=.slice A8 (ss.length+1) c8) (ah HBV.out k.bl) h5.s (.inr (.inl rfl)) hg;clear hcx hS fL ho hg k h5 h;go_wp2;go_end0;exact⟨rfl,⟨_,_,hz⟩,hF⟩
theorem Zm:(prog.info? 59).map (fun i=>(i.zero,i.size,i.bytes))=some (some (.agg #[.string ⟨#[]⟩,.bool false,.int .i64 0,.int .i64 0,.slice none 0 0,.bool false,.bool false,.string ⟨#[]⟩,.string ⟨#[]⟩,.bool false,.string ⟨#[]⟩,.string ⟨#[]⟩]),12,152):=by kernel_rfl
def aeF:ByteArray:=⟨#[99,104,97,114,103,101]⟩
def aiR:ByteArray:=⟨#[115,116,101,112]⟩
def aiS:ByteArray:=⟨#[99,97,112]⟩
def yJ (ch sp:Bool) (x y:ByteArray):List ByteArray:=(if ch then [aeF] else [])++(if sp then [aiR,x,aiS,y] else [])
theorem Zn (w0 w:World) (R g:Nat) (l:Lw) (ss:List (Sc × Hd)) (ps:List (Pv × Hd)) (fv sv pv:Value) (wd nm s rest x y:ByteArray) (t:Ty) (ch sp:Bool) (st cp:Ra) (body:List Nd) (h:PT w0 w R l ss ps fv sv pv) (hL:bT w) (ht:Cm t=true) (hs:s=bC t) (hn:ps.length<=1000)
  (hr:rest.data.toList.length<=1048576) (hb:G6 rest.data.toList=(body,0)) (hx:sp=true->x.size<=1048576/\y.size<=1048576/\fG x=(st,true)/\fG y=(cp,true)) (hz:sp=false->st=zR/\cp=zR) (m:Nat) (hm:m=(yJ ch sp x y).length) (hg:aj w g 9 (strs (wd::nm::s::yJ ch sp x y))):
  Calls prog 146 #[.pointer (some ⟨R,0,none⟩),.slice (some ⟨g,1,none⟩) (m+2:Nat) (m+2:Nat),.string rest] w fun e w'=>e=.returned (.tuple #[])/\(∃v' hd,PT w0 w' R ⟨l.facts,l.aH,l.ay++[⟨nm,t,ch,st,cp,body⟩]⟩ ss (ps++[(⟨nm,t,ch,st,cp,body⟩,hd)]) fv sv v')/\FR R w w':=by
 have HT:=zH (fun W (hb:Below w.heap.size w W)=>hs ▸ xX t W (hL.below hb) ht);have uJ:=zH h;have jR:Hid (∀W,Below w.heap.size w W->bT W):=fun W hb=>hL.below hb
 have HG:Hid (∀W,Below w.heap.size w W->aj W g 9 (strs (wd::nm::s::yJ ch sp x y))):=fun W hb=>hg.below hb hg.lt
 have oL:Hid (∀W,Below w.heap.size w W->W.cell? ⟨g,1,none⟩=some (.string nm)/\W.cell? ⟨g,2,none⟩=some (.string s)):=fun W hb=>⟨(HG.out W hb).cells 1,(HG.out W hb).cells 2⟩
 have HX:=zH hx
 have HPA:Hid (∀W,Below w.heap.size w W->Calls prog 147 #[.string rest] W (OO (body,0) W)):=fun W hb'=>by
  have k:=VF rest.data.toList body W (hL.below hb').e hr hb;exact k
 have HM:=zH sG;obtain⟨tt,tm,td⟩:=t;obtain⟨p1,p2,p3⟩:=st;obtain⟨q1,q2,q3⟩:=cp;have HZ:=zH hz;have Eh:=zH hm;unfold Ty.v at HT;simp only at HT;have hm0:(0:Int)<(m:Int)+2:=by omega
 have hm1:(1:Int)<(m:Int)+2:=by omega
 have apa:decide ((2:Int)<=(m:Int)+2)=true:=decide_eq_true (by omega);clear h hL ht hs hg hx hr hb hz hm;go_enter func146,ntmps146;go_wp2_with fail;refine (HM.out w).mono ?_;rintro e w1 ⟨rfl,hw1⟩;have hw2:=hw1.symm;clear hw1;subst hw2;have hcg:=fun (X:World) (h:Below w.heap.size w X)=>oL.out X h
 go_upto_region 1 with fail
 go_cut [6] from 13 to 20 (fun u X=>∃W,u=.pointer (some ⟨W.heap.size,0,none⟩)/\Below w.heap.size w W/\IS W X 59 [.string nm,.bool tt,.int .i64 tm,.int .i64 td,.slice none 0 0,.bool false,.bool false,.string ⟨#[]⟩,.string ⟨#[]⟩,.bool false,.string ⟨#[]⟩,.string ⟨#[]⟩] 104 5 (.slice none 0 0) 0 (mW []))
 case first=>
  refine jL (Below w.heap.size w) 9 (aI _ _ 1) (fun v hv hS=>?_)
  iterate 6 refine dR ?_
  have hS0:=hS;refine FP 6 8 (opC (HT.out v hS) ?_) (Js (fun _=>hS.alloc hS.size _) (fun hS=>?_))
  ·rintro e v1 ⟨rfl,hb1⟩;refine⟨_,rfl,ah hS hb1,fun hS=>?_⟩;refine iM 7 ?_;refine ng 8 (fun _=>hS.alloc hS.size _) (fun _=>?_);refine nZ 9 (fun h=>absurd rfl h) (fun _=>?_);refine iW ?_;go_wp2
   go_meet
   case rel=>exact⟨v1,rfl,hS,zB _ _,aj.new _ _ _,ownsRow_nil _ _ _ _⟩
  ·refine mg 6 (HT.out _ hS) ?_;rintro e v1 ⟨rfl,hb1⟩;refine⟨_,rfl,ah hS hb1,fun hS2=>?_⟩;refine iM 7 ?_;have k:IS v v1 59 [.string ⟨#[]⟩,.bool false,.int .i64 0,.int .i64 0,.slice none 0 0,.bool false,.bool false,.string ⟨#[]⟩,.string ⟨#[]⟩,.bool false,.string ⟨#[]⟩,.string ⟨#[]⟩] 104 5 (.slice none 0 0) 0 (mW []):=⟨ah (zB _ _) hb1,(aj.new _ _ _).below hb1 (aj.new _ _ _).lt,ownsRow_nil _ _ _ _⟩
   have hkc:=k.b.cells;have uG:=k.b.bH;refine nZ 9 (fun h=>absurd rfl h) (fun _=>?_);refine iW ?_;have k2:=(((((((((((k.put 0 (.string nm)).put 1 (.bool tt)).put 2 (.int .i64 tm)).put 3 (.int .i64 td)).put 4 (.slice none 0 0)).put 5 (.bool false)).put 6 (.bool false)).put 7 (.string ⟨#[]⟩)).put 8 (.string ⟨#[]⟩)).put 9 (.bool false)).put 10 (.string ⟨#[]⟩)).put 11 (.string ⟨#[]⟩);clear hkc uG k;go_wp2
   go_meet
   case rel=>exact⟨v,rfl,hS0,k2⟩
 case rest=>
  obtain⟨V,rfl,hV,k⟩:=hcut;have HV:=zH hV;clear hcg hV
  go_upto_region 2 with fail
  go_cut [1] from 21 to 22 (fun v w'=>∃A2,v=.slice A2 (m:Nat) (m:Nat)/\Hid (m≠0->A2=some ⟨g,3,none⟩)/\w'=wc)
  case first=>
   rcases Nat.eq_zero_or_pos m with h0|h0
   ·subst h0;go_wp2
    go_meet
    case rel=>exact⟨_,rfl,fun h=>absurd rfl h,rfl⟩
   ·obtain⟨k,rfl⟩:∃k,m=k+1:=⟨m-1,by omega⟩
    go_wp2
    go_meet
    case rel=>exact⟨_,rfl,fun h=>rfl,rfl⟩
  case rest=>
   obtain⟨A2,rfl,HA2,rfl⟩:=hcut
   go_upto_region 3 with fail
   go_cut [31] from 23 to 31 (fun v w'=>v=.bool ch/\w'=wc)
   case first=>
    have h3:=(HG.out _ (ah HV.out k.bl)).cells 3;cases ch<;>cases sp
    ·obtain rfl:m=0:=Eh.out;go_wp2
     go_meet
     case rel=>exact⟨rfl,rfl⟩
    ·obtain rfl:m=4:=Eh.out;obtain rfl:=HA2.out (by decide);replace h3:wc.cell? ⟨g,3,none⟩=some (.string ⟨#[115,116,101,112]⟩):=h3;go_wp2
     go_meet
     case rel=>exact⟨rfl,rfl⟩
    ·obtain rfl:m=1:=Eh.out;obtain rfl:=HA2.out (by decide);replace h3:wc.cell? ⟨g,3,none⟩=some (.string ⟨#[99,104,97,114,103,101]⟩):=h3;go_wp2
     go_meet
     case rel=>exact⟨rfl,rfl⟩
    ·obtain rfl:m=5:=Eh.out;obtain rfl:=HA2.out (by decide);replace h3:wc.cell? ⟨g,3,none⟩=some (.string ⟨#[99,104,97,114,103,101]⟩):=h3;go_wp2
     go_meet
     case rel=>exact⟨rfl,rfl⟩
   case rest=>
    obtain⟨rfl,rfl⟩:=hcut
    go_upto_if 31 with fail
    go_cut [1] from 32 to 34 (fun v w'=>∃(A3:Option Addr) (q o3:Nat),v=.slice A3 q q/\Hid (q=if sp then 4 else 0)/\Hid (o3=if ch then 4 else 3)/\Hid (sp=true->A3=some ⟨g,o3,none⟩)/\IS V w' 59 [.string nm,.bool tt,.int .i64 tm,.int .i64 td,.slice none 0 0,.bool ch,.bool false,.string ⟨#[]⟩,.string ⟨#[]⟩,.bool false,.string ⟨#[]⟩,.string ⟨#[]⟩] 104 5 (.slice none 0 0) 0 (mW []))
    case first=>
     cases ch
     ·go_wp2
      go_meet
      case rel=>
       refine⟨A2,m,3,rfl,?_,rfl,fun h=>HA2.out ?_,k⟩
       ·show _=_;rw[Eh.out];cases sp<;>rfl
       ·subst h;rw[Eh.out];show (4:Nat)≠0;decide
     ·have hkc:=k.b.cells;have uG:=k.b.bH;cases sp
      ·obtain rfl:m=1:=Eh.out;obtain rfl:=HA2.out (by decide)
       go_upto_region 4 with fail
       go_region;go_wp2
       go_meet
       case rel=>exact⟨_,0,4,rfl,rfl,rfl,(fun h=>by cases h),(k.put 5 (.bool true)).below (aI _ _ 1)⟩
      ·obtain rfl:m=5:=Eh.out;obtain rfl:=HA2.out (by decide)
       go_upto_region 4 with fail
       go_region;go_wp2
       go_meet
       case rel=>exact⟨_,4,4,rfl,rfl,rfl,(fun _=>rfl),(k.put 5 (.bool true)).below (aI _ _ 1)⟩
    case rest=>
     clear k;obtain⟨A3,q,o3,rfl,HQ4,HO3,TP,k⟩:=hcut;clear Eh HA2
     go_upto_if 37 with fail
     go_cut [] from 38 to 63 (fun X=>IS V X 59 [.string nm,.bool tt,.int .i64 tm,.int .i64 td,.slice none 0 0,.bool ch,.bool p1,.string p2,.string p3,.bool q1,.string q2,.string q3] 104 5 (.slice none 0 0) 0 (mW []))
     case first=>
      cases sp
      ·obtain rfl:q=0:=HQ4.out;obtain⟨e1,e2⟩:=HZ.out rfl;injection e1 with e1 e3 e4;injection e2 with e2 e5 e6;subst e1 e2 e3 e4 e5 e6;go_wp2
       go_meet
       case rel=>exact k
      ·obtain rfl:q=4:=HQ4.out;obtain rfl:=TP.out rfl;obtain⟨hx1,hy1,hrx,F5⟩:=HX.out rfl
       have hcg:=fun (W:World) (hb:Below w.heap.size w W)=>show W.cell? ⟨g,o3,none⟩=some (.string ⟨#[115,116,101,112]⟩)/\W.cell? ⟨g,o3+1,none⟩=some (.string x)/\W.cell? ⟨g,o3+2,none⟩=some (.string ⟨#[99,97,112]⟩)/\W.cell? ⟨g,o3+3,none⟩=some (.string y) from by
        have k:=(HG.out W hb).cells;cases ch
        ·obtain rfl:o3=3:=HO3.out;exact⟨k 3,k 4,k 5,k 6⟩
        ·obtain rfl:o3=4:=HO3.out;exact⟨k 4,k 5,k 6,k 7⟩
       have Y1:Hid (∀W,Laid W->Calls prog 145 #[.string x] W fun e w'=>e=.returned (.agg #[.bool p1,.string p2,.string p3])/\Below W.heap.size W w'):=fun W hL=>by
        have k:=tq x W hL hx1 (by rw[hrx]);rw[hrx] at k;exact k
       have HNY:Hid (∀W,Laid W->Calls prog 145 #[.string y] W fun e w'=>e=.returned (.agg #[.bool q1,.string q2,.string q3])/\Below W.heap.size W w'):=fun W hL=>by
        have k:=tq y W hL hy1 (by rw[F5]);rw[F5] at k;exact k
       clear hx1 hy1 hrx F5;have hl:=hcg _ (ah HV.out k.bl);go_wp2_with fail;refine (HM.out _).mono ?_;rintro e w5 ⟨rfl,hw5⟩;rw[hw5];clear hw5 hl
       go_upto_region 7 with fail
       refine jL (Below w.heap.size w) 11 (ah HV.out k.bl).drew (fun v hv hS=>?_);replace k:=k.below hv
       iterate 3 refine dR ?_
       refine iM 4 ?_;refine iM 5 ?_;refine iM 6 ?_;refine mg 3 (Y1.out v (jR.out _ hS).e.base) ?_;rintro e v1 ⟨rfl,hb1⟩;refine⟨_,rfl,ah hS hb1,fun hS=>?_⟩;replace k:=k.below hb1;refine iM 8 ?_;refine mg 7 (HNY.out v1 (jR.out _ hS).e.base) ?_;rintro e v2 ⟨rfl,hb2⟩;refine⟨_,rfl,ah hS hb2,fun hS=>?_⟩;replace k:=k.below hb2;have hkc:=k.b.cells;have uG:=k.b.bH;refine nZ 9 (fun _=>ah HV.out (((k.put 6 _).put 7 _).put 8 _).bl) (fun hS=>?_);replace hS:=hS (by decide);replace k:=((k.put 6 (.bool p1)).put 7 (.string p2)).put 8 (.string p3);simp only[List.set] at k;clear hkc uG;generalize World.setCell (World.setCell (World.setCell v2 _ _) _ _) _ _=v3 at k hS⊢;have hkc:=k.b.cells;have uG:=k.b.bH;refine iM 10 ?_;refine nZ 11 (fun h=>absurd rfl h) (fun _=>?_);refine iW ?_;replace k:=((k.put 9 (.bool q1)).put 10 (.string q2)).put 11 (.string q3);simp only[List.set] at k;clear hkc uG;go_wp2
       go_meet
       case rel=>exact k
     case rest=>
      clear k HX HZ HQ4 HO3 TP;have k:=hcut;clear hcut;go_wp2_with fail;refine (HPA.out _ (ah HV.out k.bl)).mono ?_;rintro e w7 ⟨Ab,nb,cb,rfl,hes,hb7,adi⟩;obtain rfl:nb=body.length:=hes.len;have hW7:=k.hW;replace k:=k.below hb7;have Kw:Hid (w7.ownsRow (V.heap.size+1) 104 5 (.slice Ab body.length cb) body.length (mW body)):=xu adi hW7;clear hes adi hW7;simp only
      go_wp2_with fail;refine (HM.out w7).mono ?_;rintro e w8 ⟨rfl,hw8⟩;rw[hw8];clear hw8;have hkc:=k.b.cells;have uG:=k.b.bH
      go_upto_region 11 with fail
      have k2:IS V (w7.setCell ⟨V.heap.size,4,none⟩ (.slice Ab body.length cb)) 59 [.string nm,.bool tt,.int .i64 tm,.int .i64 td,.slice Ab body.length cb,.bool ch,.bool p1,.string p2,.string p3,.bool q1,.string q2,.string q3] 104 5 (.slice Ab body.length cb) body.length (mW body):=⟨(k.put 4 _).bl,(k.put 4 _).b,fJ Kw.out 4 _⟩
      clear hkc uG k hb7 Kw;generalize World.setCell w7 _ _=X at k2⊢;have h5:=uJ.out.below (ah HV.out k2.bl);have hcx:=fun Y (q:SV w0 R fv sv pv Y/\aj Y V.heap.size 59 [.string nm,.bool tt,.int .i64 tm,.int .i64 td,.slice Ab body.length cb,.bool ch,.bool p1,.string p2,.string p3,.bool q1,.string q2,.string q3])=>And.intro q.1.1.cells q.2.cells
      refine jL (fun Y=>SV w0 R fv sv pv Y/\aj Y V.heap.size 59 [.string nm,.bool tt,.int .i64 tm,.int .i64 td,.slice Ab body.length cb,.bool ch,.bool p1,.string p2,.string p3,.bool q1,.string q2,.string q3]) 10 ⟨h5.svd,k2.b.drew⟩ (fun w9 h9 hS=>?_);replace h5:=h5.below h9;replace k2:=k2.below h9
      iterate 6 refine dR ?_
      refine ng 6 (fun _=>⟨hS.1.alloc _,hS.2.alloc _⟩) (fun _=>?_);refine OI 7 Zm underlying27 h5.p (by omega) h5.hR (fun v' w10 ho hg _ _=>⟨⟨h5.grow h5.p (by decide) hg,Zl hS.2 hg (fun z e=>((uJ.out.below HV.out).p.lt z e).2)⟩,fun hS=>?_⟩);obtain⟨A8,c8,rfl,_⟩:=dK ho;have fL:=hS.1.1.bH
      iterate 2 refine dR ?_
      refine nZ 10 (fun h=>absurd rfl h) (fun _=>?_);refine iW ?_;have hz:=h5.pushP (⟨nm,⟨tt,tm,td⟩,ch,⟨p1,p2,p3⟩,⟨q1,q2,q3⟩,body⟩,⟨Ab,body.length,cb⟩) ⟨rfl,xu k2.o (by have:=(uJ.out.below HV.out).hR;omega)⟩ ho hg;have hF:=FR.grown (R:=R) (i:=2) (u:=.slice A8 (ps.length+1) c8) (ah HV.out k2.bl) h5.p (.inr (.inr rfl)) hg;clear hcx hS fL ho hg k2 h5;go_wp2;go_end0;exact⟨rfl,⟨_,_,hz⟩,hF⟩
inductive Ln
 |f (d:Dc)
 |s (x:Sc)
 |p (x:Pv)
def Lw.add (l:Lw):Ln->Lw
 |.f d=>⟨l.facts++[d],l.aH,l.ay⟩
 |.s x=>⟨l.facts,l.aH++[x],l.ay⟩
 |.p x=>⟨l.facts,l.aH,l.ay++[x]⟩
def adk:ByteArray:=⟨#[102,97,99,116]⟩
def Zo:ByteArray:=⟨#[115,99,104,101,100,117,108,101]⟩
def Wn:ByteArray:=⟨#[112,114,111,118,105,115,105,111,110]⟩
def uK (s:ByteArray):Ln->Prop
 |.f d=>∃rest,LP s [adk,d.name,bC d.ty] rest false/\bY d.name=true/\Cm d.ty=true
 |.s x=>∃rest,LP s [Zo,x.name,bC ⟨false,x.aA,x.days⟩] rest true/\bY x.name=true/\Cm ⟨false,x.aA,x.days⟩=true/\Ig rest x.bJ
 |.p x=>∃(rest:ByteArray) (sp:Bool) (a b:ByteArray),LP s (Wn::x.name::bC x.ty::yJ x.fH sp a b) rest true/\bY x.name=true/\Cm x.ty=true/\rest.data.toList.length<=1048576/\G6 rest.data.toList=(x.body,0)/\
   (sp=true->a.size<=1048576/\b.size<=1048576/\fG a=(x.step,true)/\fG b=(x.cap,true))/\(sp=false->x.step=zR/\x.cap=zR)
theorem abG (w0 w:World) (R:Nat) (l:Lw) (s:ByteArray) (ln:Ln) (h:PX w0 w R l) (hL:bT w) (hf:l.facts.length<=1000) (hs:l.aH.length<=1000) (hp:l.ay.length<=1000) (ho:uK s ln):
  Calls prog 35 #[.pointer (some ⟨R,0,none⟩),.string s] w fun e w'=>e=.returned (.bool true)/\PX w0 w' R (l.add ln)/\FR R w w':=by
 have hpx:=h;obtain⟨ss,ps,fv,sv,pv,wM⟩:=h;have hsn:ss.length=l.aH.length:=by rw[<-wM.sl,length_map]
 have hpn:ps.length=l.ay.length:=by rw[<-wM.pl,length_map]
 cases ln with
 |f d=>
  obtain⟨rest,hw,hn,ht⟩:=ho;obtain⟨nm,t⟩:=d;refine CB w0 w R l _ s rest adk nm [bC t] 0 false hpx hL hw rfl hn 0 _ (.inl ⟨rfl,rfl,rfl,rfl⟩) (fun W G hb hG=>?_);refine (Zk w0 W R G 2 l ss ps fv sv pv nm (bC t) rest t (wM.below hb) (hL.below hb) ht rfl hf ⟨_,hG,rfl,rfl⟩).mono ?_;rintro e w' ⟨h1,⟨v',h2⟩,h3⟩;exact⟨h1,⟨_,_,_,_,_,h2⟩,h3⟩
 |s x=>
  obtain⟨rest,hw,hn,ht,hr⟩:=ho;obtain⟨nm,tm,td,bJ⟩:=x;refine CB w0 w R l _ s rest Zo nm [bC ⟨false,tm,td⟩] 0 true hpx hL hw rfl hn 1 _ (.inr (.inl ⟨rfl,rfl,rfl,rfl⟩)) (fun W G hb hG=>?_);refine (Wj w0 W R G 2 l ss ps fv sv pv nm (bC ⟨false,tm,td⟩) rest tm td bJ (wM.below hb) (hL.below hb) ht rfl (by omega) hr ⟨_,hG,rfl,rfl⟩).mono ?_;rintro e w' ⟨h1,⟨v',hd,h2⟩,h3⟩;exact⟨h1,⟨_,_,_,_,_,h2⟩,h3⟩
 |p x=>
  obtain⟨rest,sp,a,b,hw,hn,ht,hr,hb',hx,hz⟩:=ho;obtain⟨nm,t,ch,st,cp,body⟩:=x;refine CB w0 w R l _ s rest Wn nm (bC t::yJ ch sp a b) (yJ ch sp a b).length true hpx hL hw rfl hn 2 _ (.inr (.inr ⟨rfl,rfl,rfl,rfl⟩)) (fun W G hb hG=>?_);refine (Zn w0 W R G l ss ps fv sv pv Wn nm (bC t) rest a b t ch sp st cp body (wM.below hb) (hL.below hb) ht rfl (by omega) hr hb' hx hz _ rfl hG).mono ?_;rintro e w' ⟨h1,⟨v',hd,h2⟩,h3⟩;exact⟨h1,⟨_,_,_,_,_,h2⟩,h3⟩
theorem TV (n:Int) (w:World) (h0:0<=n) (h1:n<=9223372036854775807):Calls prog 18 #[.int .i64 n] w fun e w'=>e=.returned (.agg #[.bool false,.string (aC n.toNat),.string (aC 1)])/\Below w.heap.size w w':=by
 obtain⟨W,hW⟩:=zE (w.alloc (.cells #[.bool false,.string ⟨#[]⟩,.string ⟨#[]⟩] 57));obtain⟨B,hB⟩:=zE w.heap.size;have HK:Hid (aj W B 57 [.bool false,.string ⟨#[]⟩,.string ⟨#[]⟩]):=by show aj _ _ _ _;rw[hW,hB];exact aj.new w _ _
 have bZ:Hid (Below w.heap.size w W):=by show Below _ _ _;rw[hW];exact zB _ _
 have kR:=zH (Nat.le_of_eq hB.symm);have HO:=zH (fun W=>oU n W (by omega) h1);have Yl:=zH (fun W=>oU 1 W (by omega) (by omega));rw[show (1:Int).toNat=1 from rfl] at Yl;have hn:¬n<0:=by omega
 go_enter func18,ntmps18
 go_upto_region 1 with fail
 simp only[<-hW,<-hB]
 clear hW hB;go_wp2_with fail;refine (HO.out W).mono ?_;rintro e w1 ⟨rfl,hb1⟩;go_wp2_with fail;refine (Yl.out w1).mono ?_;rintro e w2 ⟨rfl,hb2⟩;have lM:=ah hb1 hb2;have kN:=zH (HK.out.below lM HK.out.lt);have HB2:=zH (ah bZ.out lM);have hkc:=kN.out.cells;have uG:=kN.out.bH;clear hb1 hb2 lM;go_wp2;have Hw:=((kN.out.set 0 (.bool false)).set 1 (.string (aC n.toNat))).set 2 (.string (aC 1));have hc:=Hw.cells;refine bodyPost_ret (v:=.agg #[.bool false,.string (aC n.toNat),.string (aC 1)]) (by simp[results,results18,go_sem,hc]) rfl ⟨rfl,?_⟩;exact ((HB2.out.setCell (p:=⟨B,0,none⟩) kR.out _).setCell (p:=⟨B,1,none⟩) kR.out _).setCell (p:=⟨B,2,none⟩) kR.out _
def isName (q:ByteArray) (x:Pv × Hd):Bool:=decide (x.1.name=q)
theorem WH (x:Pv × Hd) (q:ByteArray) (b:Nat) (t:TypeId) (w:World) (hb:aj w b t [.string q]):Calls prog 46 #[.agg (cO x).toArray,.pointer (some ⟨b,0,none⟩)] w fun e w'=>e=.returned (.bool (isName q x))/\Below w.heap.size w w':=by
 obtain⟨⟨nm,⟨tt,tm,td⟩,ch,⟨s1,s2,s3⟩,⟨p1,p2,p3⟩,body⟩,⟨ha,hn,hcc⟩⟩:=x;unfold cO isName;simp only
 obtain⟨W,hW⟩:=zE (w.alloc (.cells #[.string nm,.bool tt,.int .i64 tm,.int .i64 td,.slice ha hn hcc,.bool ch,.bool s1,.string s2,.string s3,.bool p1,.string p2,.string p3] 59));obtain⟨B,hB⟩:=zE w.heap.size;have HK:Hid (aj W B 59 [.string nm,.bool tt,.int .i64 tm,.int .i64 td,.slice ha hn hcc,.bool ch,.bool s1,.string s2,.string s3,.bool p1,.string p2,.string p3]):=by show aj _ _ _ _;rw[hW,hB];exact aj.new w _ _
 have bZ:Hid (Below w.heap.size w W):=by show Below _ _ _;rw[hW];exact zB _ _
 have hkc:=HK.out.cells;have hqc:W.cell? ⟨b,0,none⟩=some (.string q):=(hb.below bZ.out hb.lt).cells 0
 have HEQ:Hid ((nm.toList==q.toList)=decide (nm=q)):=by
  show _=_;rw[ByteArray.toList_eq,ByteArray.toList_eq]
  cases nm with|mk d=>cases q with|mk d'=>cases d with|mk l=>cases d' with|mk l'=>
   by_cases h:l=l'
   ·subst h;simp
   ·have h2:¬((⟨⟨l⟩⟩:ByteArray)=⟨⟨l'⟩⟩):=fun e=>h (by injection e with e;injection e)
    rw[decide_eq_false h2];simp[h]
 go_enter func46,ntmps46
 go_upto_region 1 with fail
 simp only[<-hW,<-hB]
 clear hW hB;go_wp2;go_ret;exact⟨by simp[HEQ.out],bZ.out⟩
def adn (q:ByteArray) (xs:List (Pv × Hd)) [Inhabited (Pv × Hd)]:Int:=Lib.idxBy (fun _ y=>isName q y) xs default
theorem abT (xs:List (Pv × Hd)) (h:Hd) (q:ByteArray) (b:Nat) (t:TypeId) (w:World) (hb:aj w b t [.string q]) (hr:dB w cO xs h) (h0:0<xs.length) [amN:Inhabited (Pv × Hd)]:
  Calls prog 45 #[.slice h.a h.n h.c,.func (.func 46) #[] #[.pointer (some ⟨b,0,none⟩)]] w fun e w'=>e=.returned (.int .i64 (adn q xs))/\Below w.heap.size w w':=by
 have hlen:=hr.len;have hmx:=hr.max;have hcp:=hr.cap;obtain⟨g,off,hA,hg,_⟩:=Rd.row cO 12 (fun _=>rfl) (by omega) hr.rd (j:=0) (by omega);have eg:∀args w,(callFunc 46 args).run prog w=.ok (.enter 46 args) w:=enters_of func46 (by kernel_rfl) rfl;have hrd:=hr.rd;rw[hA] at hrd⊢
 have hh:=AnyQ.slices_IndexFunc Tryz.idxP 12 isAgg59 sizeOf59 cO (fun _=>rfl) (isName q) 46 #[.pointer (some ⟨b,0,none⟩)] eg g off h.n h.c xs w
  (fun W x hW=>(WH x q b t W (hb.below hW hb.lt)).mono (fun e w' ⟨h1,h2⟩=>⟨h1,ah hW h2⟩)) (by omega) (by unfold maxLen at hmx;omega) hg (fun j hj i v hv=>by
    obtain⟨b',off',hA',hb',hc'⟩:=Rd.row cO 12 (fun _=>rfl) (by omega) hrd hj;injection hA' with hA';injection hA' with h1 h2;subst h1 h2;refine hc' i v ?_;have e:=getElem!_pos xs j hj;rw[e] at hv;exact hv)
 rw[take_of_length_le (by omega)] at hh;exact hh
theorem ZA (q:ByteArray) (xs:List (Pv × Hd)) (f s p:Hd) (w:World) (hr:dB w cO xs p) (h0:0<xs.length) [amN:Inhabited (Pv × Hd)] (z:Int) (hz:adn q xs=z) (hz0:0<=z):
  Calls prog 20 #[nD f s p,.string q] w fun e w'=>e=.returned (.tuple #[.int .i64 z,.bool true])/\Below w.heap.size w w':=by
 obtain⟨fa,fn,fc⟩:=f;obtain⟨sa,sn,sc⟩:=s;obtain⟨pa,pn,pc⟩:=p;unfold nD;simp only
 obtain⟨W,hW⟩:=zE ((w.alloc (.cells #[.slice fa fn fc,.slice sa sn sc,.slice pa pn pc] 29)).alloc (.cells #[.string q] 9));obtain⟨B,hB⟩:=zE w.heap.size;have HK:Hid (aj W B 29 [.slice fa fn fc,.slice sa sn sc,.slice pa pn pc]):=by show aj _ _ _ _;rw[hW,hB];exact (aj.new w _ _).alloc _
 have HQ:Hid (aj W (B+1) 9 [.string q]):=by
  show aj _ _ _ _;rw[hW,hB];have h:=aj.new (w.alloc (.cells #[.slice fa fn fc,.slice sa sn sc,.slice pa pn pc] 29)) 9 #[.string q];rw[size_alloc] at h;exact h
 have bZ:Hid (Below w.heap.size w W):=by show Below _ _ _;rw[hW];exact (zB _ _).alloc (by simp) _
 have HF:=zH (abT xs ⟨pa,pn,pc⟩ q (B+1) 9 W HQ.out (hr.below bZ.out) h0);rw[hz] at HF;simp only at HF;have hmf:∀(fn:Fn) (first cap:Array Value) (w:World),(Instr.makeFunc fn first cap).run prog w=.ok (.func fn first cap) w:=fun _ _ _ _=>rfl
 have hkc:=HK.out.cells;have hmx:max z 0=z:=by omega
 clear hz hr;go_enter func20,ntmps20
 go_upto_region 1 with fail
 simp only[<-hW,<-hB]
 clear hW hB;go_wp2_with fail;refine HF.out.mono ?_;rintro e w2 ⟨rfl,hb2⟩;have HB2:=zH (ah bZ.out hb2);clear hb2;go_wp2;go_ret2;exact⟨rfl,HB2.out⟩
def nF:List ByteArray:=[⟨#[97,103,101]⟩,⟨#[114,101,110,116]⟩,⟨#[119,97,103,101]⟩]
def nS:List ByteArray:=[⟨#[98,97,115,105,99]⟩,⟨#[101,120,116,114,97]⟩]
def six:List ByteArray:=[⟨#[98,97,115,101]⟩,⟨#[99,114,101,100,105,116]⟩,⟨#[114,101,108,105,101,102]⟩,⟨#[116,97,120]⟩,⟨#[116,104,114,101,115,104,111,108,100]⟩,⟨#[116,111,116,97,108]⟩]
theorem ZF:six.Nodup:=by decide
theorem KY:(nF++(nS++six)).Nodup:=by decide
theorem ZG:∀s∈nF++(nS++six),bY s=true:=by decide
theorem Fp:nF.Pairwise (fun a b=>Op.bytesLess a.toList b.toList=true)/\nS.Pairwise (fun a b=>Op.bytesLess a.toList b.toList=true)/\six.Pairwise (fun a b=>Op.bytesLess a.toList b.toList=true):=by decide+kernel
theorem CO {l:List ByteArray} (h:l.Pairwise (fun a b=>Op.bytesLess a.toList b.toList=true)):sortedB l=true:=
 (sW l).2 fun k hk=>pairwise_iff_getElem.1 h k (k+1) (by omega) hk (by omega)
theorem ZH {l:List ByteArray} (h:l.Nodup) (s:ByteArray):gI s l<=1:=by
 induction l with
 |nil=>exact Nat.zero_le _
 |cons a l ih=>
  obtain⟨h1,h2⟩:=nodup_cons.1 h;show gI s ([a]++l)<=1;rw[sZ,EU];by_cases e:a=s
  ·have h0:gI s l=0:=by
    rcases Nat.eq_zero_or_pos (gI s l) with h0|h0
    ·exact h0
    ·exact absurd (e ▸ EW h0) h1
   rw[if_pos e,h0];decide
  ·rw[if_neg e];have:=ih h2;omega
structure qK (l:Lw):Prop where
 f:(l.facts.map Dc.name).Sublist nF
 s:(l.aH.map Sc.name).Sublist nS
 p:(l.ay.map Pv.name).Sublist six
 tf:∀d∈l.facts,aN d.ty=true
 ts:∀s∈l.aH,s.aA=1/\s.days=0
 tp:∀p∈l.ay,p.ty=aV∨p.ty=aB
 b:∀s∈l.aH,eY s.bJ=0
section
variable {l:Lw}
theorem qK.all (h:qK l):((EY l).flatten).Sublist (nF++(nS++six)):=by
 unfold EY;simp only[flatten_cons,flatten_nil,append_nil]
 exact h.f.append (h.s.append h.p)
theorem qK.named (h:qK l):jF l=0:=by
 unfold jF oP;have hn:=KY.sublist h.all;rw[if_pos (all_eq_true.2 fun s hs=>ZG s (h.all.mem hs)),if_pos,if_neg]
 ·unfold EX;simp only[any_eq_true,decide_eq_true_eq,not_exists,not_and]
  intro s _;have:=ZH hn s;omega
 ·unfold EY;simp only[all_cons,all_nil,Bool.and_true,Bool.and_eq_true]
  exact⟨CO (Fp.1.sublist h.f),CO (Fp.2.1.sublist h.s),CO (Fp.2.2.sublist h.p)⟩
theorem qK.typed (h:qK l):jQ l=true:=by
 unfold jQ;simp only[Bool.and_eq_true,all_eq_true]
 refine⟨h.tf,fun p hp=>?_,fun s hs=>?_⟩
 ·rcases h.tp p hp with e|e<;>rw[e]<;>decide
 ·rw[(h.ts s hs).1,(h.ts s hs).2];decide
theorem qK.len (h:qK l):l.facts.length<=3/\l.aH.length<=2/\l.ay.length<=6:=by
 have a:=h.f.length_le;have b:=h.s.length_le;have c:=h.p.length_le;simp only[length_map] at a b c;exact⟨a,b,c⟩
theorem zT:∀{l:List Int},(∀x∈l,x=0)->dY l=0
 |[],_=>rfl
 |z::r,h=>by rw[nT,if_pos (h z (by simp))];exact zT fun x hx=>h x (by simp[hx])
theorem qK.chk (h:qK l):aT l=dY (l.ay.map (iJ (dO l))):=by
 have hl:=h.len;unfold aT;rw[if_neg (by omega),if_neg (by rw[h.named];simp),if_neg (by rw[h.typed];decide),if_neg];rw[zT]
 ·simp
 ·intro x hx;obtain⟨s,hs,rfl⟩:=mem_map.1 hx;exact h.b s hs
end
structure KZ (sg:List Sg) (p:Pv):Prop where
 b:TE sg p.ty p.body
 n:p.body.length<=60
 c:p.fH=true->p.ty=aV
 s:(dX p||iO p)=true
theorem KZ.zero {sg:List Sg} {p:Pv} (h:KZ sg p):iJ sg p=0:=by
 have k:=h.b.type h.n;unfold iJ;rw[k];simp only[ne_eq,not_true_eq_false,if_false]
 rw[if_neg];have hs:=h.s;intro hc;rcases Bool.or_eq_true _ _ ▸ hc with hc|hc
 ·rw[Bool.and_eq_true,decide_eq_true_eq] at hc;exact hc.2 (h.c hc.1)
 ·rw[Bool.and_eq_true,Bool.not_eq_true',Bool.not_eq_true'] at hc;rw[hc.1,hc.2] at hs;cases hs
theorem aeJ {l:Lw} (h:qK l) (hp:∀p∈l.ay,KZ (dO l) p):aT l=0:=by
 rw[h.chk];refine zT fun x hx=>?_
 obtain⟨p,hp',rfl⟩:=mem_map.1 hx;exact (hp p hp').zero
theorem abV {sg yK:List Sg} (h:∀n t,dZ yK n=some t->dZ sg n=some t) {n:Nd} {l:List Ty} {t:Ty} (hn:lK yK n l=(t,0)):lK sg n l=(t,0):=by
 unfold lK nX at hn⊢;by_cases hb:iK n.op=true
 ·rw[if_pos hb] at hn⊢;cases hs:dZ yK n with
  |none=>rw[hs] at hn;simp at hn
  |some u=>rw[hs] at hn;rw[h n u hs];exact hn
 ·rw[if_neg hb] at hn⊢;exact hn
theorem PU {sg yK:List Sg} (h:∀n t,dZ yK n=some t->dZ sg n=some t):∀(e:List Nd) (st st':List Ty),wH yK e st=some st'->wH sg e st=some st'
 |[],st,st',hs=>hs
 |n::r,st,st',hs=>by
  rw[wH] at hs⊢;split at hs
  ·next h0=>
   have k:=abV h (n:=n) (l:=(st.take (aG n.op).ops).reverse) (t:=(lK yK n (st.take (aG n.op).ops).reverse).1) (Prod.ext rfl h0);rw[k];exact PU h r _ _ hs
  ·cases hs
theorem TE.mono {sg yK:List Sg} (h:∀n t,dZ yK n=some t->dZ sg n=some t) {t:Ty} {e:List Nd} (he:TE yK t e):TE sg t e:=⟨he.c,fun st=>PU h e st _ (he.s st)⟩
def zU (sg:List Sg):Prop:=sg.Pairwise fun a b=>¬(a.op=b.op/\a.name=b.name)
theorem key_eq:∀{sg:List Sg},zU sg->∀{a b:Sg},a∈sg->b∈sg->a.op=b.op->a.name=b.name->a=b
 |[],_,a,_,h,_,_,_=>by cases h
 |x::r,hk,a,b,ha,hb,h1,h2=>by
  obtain⟨k1,k2⟩:=pairwise_cons.1 hk;rcases mem_cons.1 ha with ea|ha'
  ·rcases mem_cons.1 hb with eb|hb'
   ·rw[ea,eb]
   ·rw[ea] at h1 h2;exact absurd ⟨h1,h2⟩ (k1 b hb')
  ·rcases mem_cons.1 hb with eb|hb'
   ·rw[eb] at h1 h2;exact absurd ⟨h1.symm,h2.symm⟩ (k1 a ha')
   ·exact key_eq k2 ha' hb' h1 h2
theorem TY {n:Nd} {s:Sg} (h:jD n s=true):s.op=n.op/\s.name=n.name:=by
 unfold jD at h;simp only[Bool.and_eq_true,decide_eq_true_eq] at h;exact⟨h.1,h.2.1⟩
theorem Jg {sg:List Sg} (hk:zU sg) {n:Nd} {s:Sg} (hs:s∈sg) (hf:jD n s=true):dZ sg n=some s.ty:=by
 unfold dZ;cases hq:sg.find? (jD n) with
 |none=>exact absurd hf (by simpa using find?_eq_none.1 hq s hs)
 |some x=>
  have k1:=TY (find?_some hq);have k2:=TY hf;rw[key_eq hk (mem_of_find?_eq_some hq) hs (k1.1.trans k2.1.symm) (k1.2.trans k2.2.symm)];rfl
theorem abW {sg:List Sg} {n:Nd} {t:Ty} (h:dZ sg n=some t):∃s∈sg,jD n s=true/\s.ty=t:=by
 unfold dZ at h;cases hq:sg.find? (jD n) with
 |none=>rw[hq] at h;cases h
 |some x=>rw[hq] at h;exact⟨x,mem_of_find?_eq_some hq,find?_some hq,Option.some.inj h⟩
theorem aeK {sg yK:List Sg} (hk:zU sg) (hs:yK.Sublist sg) (n:Nd) (t:Ty) (h:dZ yK n=some t):dZ sg n=some t:=by
 obtain⟨s,h1,h2,rfl⟩:=abW h;exact Jg hk (hs.mem h1) h2
theorem Dz {a b:List Sg} (ha:zU a) (hb:zU b) (h:∀x∈a,∀y∈b,x.op≠y.op):zU (a++b):=
 pairwise_append.2 ⟨ha,hb,fun x hx y hy e=>h x hx y hy e.1⟩
theorem yL {α:Type} (f:α->Sg) (g:α->ByteArray) (hg:∀a,(f a).name=g a) {xs:List α} (h:(xs.map g).Nodup):zU (xs.map f):=by
 unfold zU;rw[pairwise_map];refine (pairwise_map.1 h).imp ?_;intro a b hab e;rw[hg,hg] at e;exact hab e.2
theorem qK.key {l:Lw} (h:qK l):zU (dO l):=by
 have hn:=KY;have n1:(l.facts.map Dc.name).Nodup:=(hn.sublist (sublist_append_left _ _)).sublist h.f;have n2:(l.aH.map Sc.name).Nodup:=(hn.sublist ((sublist_append_left _ _).trans (sublist_append_right _ _))).sublist h.s;have n3:(l.ay.map Pv.name).Nodup:=ZF.sublist h.p;unfold dO;refine Dz (yL oM Dc.name (fun _=>rfl) n1) (Dz (yL (jd 6) Pv.name (fun _=>rfl) n3) (Dz (yL (jd 7) Pv.name (fun _=>rfl) n3) (Dz (yL (jd 8) Pv.name (fun _=>rfl) n3) (yL oN Sc.name (fun _=>rfl) n2) ?_) ?_) ?_) ?_
 all_goals
  intro x hx y hy;obtain⟨a,_,rfl⟩:=mem_map.1 hx;simp only[mem_append,mem_map] at hy
 ·obtain⟨b,_,rfl⟩:=hy;show (8:Int)≠24;decide
 ·rcases hy with⟨b,_,rfl⟩|⟨b,_,rfl⟩
  ·show (7:Int)≠8;decide
  ·show (7:Int)≠24;decide
 ·rcases hy with⟨b,_,rfl⟩|⟨b,_,rfl⟩|⟨b,_,rfl⟩
  ·show (6:Int)≠7;decide
  ·show (6:Int)≠8;decide
  ·show (6:Int)≠24;decide
 ·rcases hy with⟨b,_,rfl⟩|⟨b,_,rfl⟩|⟨b,_,rfl⟩|⟨b,_,rfl⟩
  ·show (5:Int)≠6;decide
  ·show (5:Int)≠7;decide
  ·show (5:Int)≠8;decide
  ·show (5:Int)≠24;decide
end Go.Proofs.YtjpbmbgincdjaaaGreatDoor
