/- Part: Mem FA Dig Bytes. -/
import Derived.WalkSpells
import Derived.WalkLawsBesides
import Derived.Lib.Hide
import Derived.Deep.OwnRows
import Derived.BigQuiet
import Derived.StillTailTactics
import Derived.Deep.RegionHeld3
set_option linter.all false
set_option maxRecDepth 100000
set_option maxHeartbeats 0
namespace Go.Proofs.YtjpbmbgincdjaaaGreatDoor
open Go.RowKit List World
def Rd (w:World) (A:Option Addr) (cs:List Value):Prop:=
 cs=[]∨∃b off,A=some ⟨b,off,none⟩/\b<w.heap.size/\∀i (h:i<cs.length),w.cell? ⟨b,off+i,none⟩=some cs[i]
theorem Rd.nil (w:World) (A:Option Addr):Rd w A []:=.inl rfl
theorem Rd.at_ {w:World} {A:Option Addr} {cs:List Value} (h:Rd w A cs) {k:Nat} (hk:k<cs.length):
  ∃b off,A=some ⟨b,off,none⟩/\b<w.heap.size/\∀i (h:i<cs.length),w.cell? ⟨b,off+i,none⟩=some cs[i]:=by
 rcases h with rfl|h
 ·simp at hk
 ·exact h
theorem Rd.keep {w w':World} {A:Option Addr} {cs:List Value} (h:Rd w A cs) (hs:w.heap.size<=w'.heap.size)
  (hk:∀p:Addr,p.block<w.heap.size->w'.cell? p=w.cell? p):Rd w' A cs:=by
 rcases h with rfl|⟨b,off,rfl,hb,hc⟩
 ·exact .inl rfl
 ·exact .inr ⟨b,off,rfl,by omega,fun i hi=>by rw[hk _ hb];exact hc i hi⟩
theorem Rd.below {w w':World} {A:Option Addr} {cs:List Value} (h:Rd w A cs) (hb:Below w.heap.size w w'):Rd w' A cs:=
 h.keep hb.size fun _ hp=>hb.cell hp
theorem Rd.take {w:World} {A:Option Addr} {cs:List Value} (h:Rd w A cs) (n:Nat):Rd w A (cs.take n):=by
 rcases h with rfl|⟨b,off,rfl,hb,hc⟩
 ·simp[Rd]
 ·refine .inr ⟨b,off,rfl,hb,fun i hi=>?_⟩;rw[length_take] at hi;rw[hc i (by omega),getElem_take]
def U (xs:List Nat):List Value:=xs.map fun n:Nat=>.int .u32 (n:Int)
theorem fV (xs:List Nat):(U xs).length=xs.length:=by simp[U]
theorem uZ (xs:List Nat) (i:Nat) (h:i<(U xs).length):(U xs)[i]=.int .u32 (xs.getD i 0:Nat):=by
 simp only[U,getElem_map]
 rw[getD_eq_getElem?_getD,getElem?_eq_getElem (by simpa [U] using h)];rfl
theorem Fz (xs:List Nat) (n:Nat):(U xs).take n=U (xs.take n):=by simp[U,map_take]
theorem Rd.u {w:World} {A:Option Addr} {xs:List Nat} (h:Rd w A (U xs)) {k:Nat} (hk:k<xs.length):
  ∃b off,A=some ⟨b,off,none⟩/\b<w.heap.size/\w.cell? ⟨b,off+k,none⟩=some (.int .u32 (xs.getD k 0:Nat)):=by
 obtain⟨b,off,e,hb,hc⟩:=h.at_ (k:=k) (by rw[fV];exact hk);refine⟨b,off,e,hb,?_⟩;rw[hc k (by rw[fV];exact hk),uZ]
def aj (w:World) (b:Nat) (t:TypeId) (cs:List Value):Prop:=w.heap[b]?=some (.cells cs.toArray t (0,0))
section
variable {w w':World} {b:Nat} {t:TypeId} {cs:List Value}
theorem aj.lt (h:aj w b t cs):b<w.heap.size:=by
 rcases Nat.lt_or_ge b w.heap.size with hlt|hge
 ·exact hlt
 ·unfold aj at h;rw[Array.getElem?_eq_none hge] at h;cases h
theorem aj.cell (h:aj w b t cs) {i:Nat} (hi:i<cs.length):w.cell? ⟨b,i,none⟩=some cs[i]:=by
 unfold aj at h;simp[World.cell?,h,hi]
theorem aj.frozen (h:aj w b t cs) (i:Nat):w.frozen? ⟨b,i,none⟩=false:=by
 unfold aj at h;simp[World.frozen?,h]
theorem aj.of_block (h:aj w b t cs) (e:w'.heap[b]?=w.heap[b]?):aj w' b t cs:=e.trans h
theorem aj.below {B:Nat} (h:aj w b t cs) (hb:Below B w w') (hg:b<B):aj w' b t cs:=(hb.block b hg).trans h
theorem aj.drew (h:aj w b t cs):aj w.drew b t cs:=h
theorem aj.drewN (h:aj w b t cs) (n:Nat):aj (w.drewN n) b t cs:=h
theorem aj.alloc (h:aj w b t cs) (o:Obj):aj (w.alloc o) b t cs:=(Below.heap_alloc w o b h.lt).trans h
theorem aj.set (h:aj w b t cs) (i:Nat) (u:Value):aj (w.setCell ⟨b,i,none⟩ u) b t (cs.set i u):=by
 unfold aj at h⊢;simp[World.setCell,Array.getElem?_modify,h]
theorem aj.other (h:aj w b t cs) {p:Addr} (hp:b≠p.block) (u:Value):aj (w.setCell p u) b t cs:=(Below.heap_setCell w p u b hp).trans h
theorem aj.new (w:World) (t:TypeId) (cs:Array Value):aj (w.alloc (.cells cs t)) w.heap.size t cs.toList:=by
 unfold aj World.alloc;simp
theorem aj.rd (h:aj w b t cs):Rd w (some ⟨b,0,none⟩) cs:=.inr ⟨b,0,rfl,h.lt,fun i hi=>by rw[Nat.zero_add];exact h.cell hi⟩
end
theorem below_drewN {B:Nat} {a w:World} (h:Below B a w) (n:Nat):Below B a (w.drewN n):=⟨h.os,h.tape,h.output,h.size,h.block⟩
theorem aI (B:Nat) (w:World) (n:Nat):Below B w (w.drewN n):=below_drewN (Below.refl _ _) n
section
variable {P:Program}
theorem dS (w:World) {ops:Array Oper} {rest:List Oper} {o:Oper} {a:Act} {Q:Exit->Act->World->Prop}
  (hg:o.guard=none) (l c:Operand) (t:TypeId) (hop:o.op=Op.makeSlice t l c)
  (e:TypeId) (z:Value) (bytes:Nat) (ht:P.underlying t=some (.slice e)) (hinfo:(P.info? e).map (fun i=>(i.zero,i.size,i.bytes))=some (some z,1,bytes)) (hz1:z.cells=#[z])
  (kl kc:IntKind) (N M:Int) (n:Nat) (hl:a.eval l=.int kl N) (hc:a.eval c=.int kc M) (hN:N=n) (hM:M=n) (hbytes:bytes*n<=281474976710656) (h63:n<=9223372036854775807)
  (hK:∀w',aj w' w.heap.size e (List.replicate n z)->Below w.heap.size w w'->wpList P ops Q rest (a.put o.dst (.slice (some ⟨w.heap.size,0,none⟩) n n)) w'):
  wpList P ops Q (o::rest) a w:=by
 subst hN hM;refine wpList_plain hg fun K hK'=>?_
 have hrun:=run_make_row' (P:=P) t e z bytes ht hinfo hz1 kl kc n hbytes h63 w;unfold Oper.wp;simp[execOp,hop,hl,hc,hrun,Result.andThen];refine hK' _ _ (hK _ ?_ ((Below.refl _ _).alloc (Nat.le_refl _) _));have:=aj.new w e (madeCells #[z] n);rwa[toList_madeCells_one] at this
end
structure bW (G:Nat) (w w':World):Prop where
 os:w'.os=w.os
 tape:w'.tape=w.tape
 output:w'.output=w.output
 size:w.heap.size<=w'.heap.size
 block:∀k,k<w.heap.size->k≠G->w'.heap[k]?=w.heap[k]?
section
variable {G:Nat} {a w w':World}
theorem bW.refl (G:Nat) (w:World):bW G w w:=⟨rfl,rfl,rfl,Nat.le_refl _,fun _ _ _=>rfl⟩
theorem bW.drew (h:bW G a w):bW G a w.drew:=⟨h.os,h.tape,h.output,h.size,h.block⟩
theorem bW.drewN (h:bW G a w) (n:Nat):bW G a (w.drewN n):=⟨h.os,h.tape,h.output,h.size,h.block⟩
theorem bW.set (h:bW G a w) (i:Nat) (u:Value):bW G a (w.setCell ⟨G,i,none⟩ u):=
 ⟨h.os,h.tape,h.output,by simpa [World.setCell] using h.size,fun k hk hne=>(Below.heap_setCell w _ u k hne).trans (h.block k hk hne)⟩
theorem bW.trans {c:World} (h:bW G a w) (k:bW G w c):bW G a c:=
 ⟨k.os.trans h.os,k.tape.trans h.tape,k.output.trans h.output,Nat.le_trans h.size k.size,fun i hi hne=>(k.block i (Nat.lt_of_lt_of_le hi h.size) hne).trans (h.block i hi hne)⟩
theorem bW.of_below (h:Below a.heap.size a w):bW G a w:=⟨h.os,h.tape,h.output,h.size,fun k hk _=>h.block k hk⟩
theorem bW.below {B:Nat} (h:bW G w w') (hG:B<=G) (hB:B<=w.heap.size):Below B w w':=⟨h.os,h.tape,h.output,h.size,fun k hk=>h.block k (by omega) (by omega)⟩
theorem bW.blk {b:Nat} {t:TypeId} {cs:List Value} (h:bW G w w') (hb:aj w b t cs) (hne:b≠G):aj w' b t cs:=hb.of_block (h.block b hb.lt hne)
theorem bW.rd {b off:Nat} {cs:List Value} (h:bW G w w') (hr:Rd w (some ⟨b,off,none⟩) cs) (hne:b≠G):Rd w' (some ⟨b,off,none⟩) cs:=by
 rcases hr with rfl|⟨b',off',e,hb,hc⟩
 ·exact .inl rfl
 ·injection e with e;injection e with e1 e2;subst e1 e2;exact .inr ⟨b,off,rfl,by have:=h.size;omega,fun i hi=>by rw[cell?_of_block (w:=w) (h.block b hb hne)];exact hc i hi⟩
end
section
variable {P:Program}
theorem dW (W:World) (news:Array Value) {ops:Array Oper} {rest:List Oper} {o:Oper} {a:Act} {Q:Exit->Act->World->Prop} (hgd:o.guard=none) (s x:Operand) (t:TypeId)
  (ho:o.op=.call {callee:=.builtin .append,args:=#[s,x],argTypes:=#[t,t]})
  (base:Nat) (e:TypeId) (z:Value) (size bytes m:Nat) (ht:P.underlying t=some (.slice e)) (hinfo:(P.info? e).map (fun i=>(i.zero,i.size,i.bytes))=some (some z,size,bytes)) (hzs:z.cells.size=size) (hsz:0<size)
  (v:Value) (n:Nat) (xs:List Value) (hs:a.eval s=v) (hown:W.ownsRow base e size v n xs)
  (hx:a.eval x=.slice (some ⟨W.heap.size,0,none⟩) m m) (hl:news.size=m*size) (h1:∀u∈news.toList,u.oneCell'=true)
  (h63:n+m<=maxLen) (hbytes:(n+m)*bytes<=140737488355328) (hbase:base<=W.heap.size)
  (h:∀v' w',w'.ownsRow base e size v' (n+m) (xs++news.toList)->Below base W w'->wpList P ops Q rest (a.put o.dst v') w'):
  wpList P ops Q (o::rest) a (W.alloc (.cells news e)):=by
 obtain⟨i,hi,hzz⟩:=Option.map_eq_some_iff.1 hinfo;simp only[Prod.mk.injEq] at hzz;obtain⟨hz,hs1,hb⟩:=hzz;refine wpList_append_own (w:=W.alloc (.cells news e)) hgd s x t ho base e i z size bytes ht hi hz hs1 hb hzs hsz v n xs hs (hown.alloc _) ⟨W.heap.size,0,none⟩ m m news.toList hx (by simpa using hl) ?_ h1 h63 hbytes (by simp;omega) ?_
 ·intro j u hj;have hb:=aj.new W e news;have hj':j<news.toList.length:=(List.getElem?_eq_some_iff.1 hj).1;have:=hb.cell hj';rw[show Addr.add ⟨W.heap.size,0,none⟩ j=⟨W.heap.size,j,none⟩ from by unfold Addr.add;split<;>simp_all,this,<-(List.getElem?_eq_some_iff.1 hj).2]
 ·intro v' w' hown' hg _;refine h v' w' hown' ?_;have hb1:Below base W (W.alloc (.cells news e)):=(Below.refl _ _).alloc hbase _;exact hb1.grown hg (by simp;omega) (fun k hk=>(hown.lt k hk).1)
end
theorem WQ {P:Program} (W:World) (news:Array Value) {ops:Array Oper} {o:Oper} {a:Act} {K:Act->World->Prop} {Q:Exit->Act->World->Prop} {E:Prop} (hgd:o.guard=none) (s x:Operand) (t:TypeId)
  (ho:o.op=.call {callee:=.builtin .append,args:=#[s,x],argTypes:=#[t,t]})
  (base:Nat) (e:TypeId) (z:Value) (size bytes m:Nat) (ht:P.underlying t=some (.slice e)) (hinfo:(P.info? e).map (fun i=>(i.zero,i.size,i.bytes))=some (some z,size,bytes)) (hzs:z.cells.size=size) (hsz:0<size)
  (v:Value) (n:Nat) (xs:List Value) (hs:a.eval s=v) (hown:W.ownsRow base e size v n xs)
  (hx:a.eval x=.slice (some ⟨W.heap.size,0,none⟩) m m) (hl:news.size=m*size) (h1:∀u∈news.toList,u.oneCell'=true)
  (h63:n+m<=maxLen) (hbytes:(n+m)*bytes<=140737488355328) (hbase:base<=W.heap.size)
  (h:∀v' w',w'.ownsRow base e size v' (n+m) (xs++news.toList)->Below base W w'->K (a.put o.dst v') w'):
  if Region.wanted o (yielded ops a.tmps)=true then Oper.wp P o a (W.alloc (.cells news e)) K Q else E:=by
 have hw:Region.wanted o (yielded ops a.tmps)=true:=by simp[Region.wanted,hgd]
 rw[if_pos hw];obtain⟨i,hi,hzz⟩:=Option.map_eq_some_iff.1 hinfo;simp only[Prod.mk.injEq] at hzz;obtain⟨hz,hs1,hb⟩:=hzz;refine wp_append_own (w:=W.alloc (.cells news e)) s x t ho base e i z size bytes ht hi hz hs1 hb hzs hsz v n xs hs (hown.alloc _) ⟨W.heap.size,0,none⟩ m m news.toList hx (by simpa using hl) ?_ h1 h63 hbytes (by simp;omega) ?_
 ·intro j u hj;have hb:=aj.new W e news;have hj':j<news.toList.length:=(List.getElem?_eq_some_iff.1 hj).1;have:=hb.cell hj';rw[show Addr.add ⟨W.heap.size,0,none⟩ j=⟨W.heap.size,j,none⟩ from by unfold Addr.add;split<;>simp_all,this,<-(List.getElem?_eq_some_iff.1 hj).2]
 ·intro v' w' hown' hg _;refine h v' w' hown' ?_;have hb1:Below base W (W.alloc (.cells news e)):=(Below.refl _ _).alloc hbase _;exact hb1.grown hg (by simp;omega) (fun k hk=>(hown.lt k hk).1)
theorem dK {w:World} {base:Nat} {e:TypeId} {size:Nat} {v:Value} {n:Nat} {xs:List Value} (h:w.ownsRow base e size v n xs):
  ∃A cap,v=.slice A n cap/\n<=cap/\cap<=maxLen/\Rd w A xs/\xs.length=n*size:=by
 have h0:=h;rcases h.2 with⟨rfl,rfl⟩|⟨g,cap,cur,rfl,hb,hh,hn,hm,hs,ht⟩
 ·have:xs=[]:=eq_nil_of_length_eq_zero (by simpa using h.1);subst this;exact⟨none,0,rfl,Nat.le_refl _,by unfold maxLen;omega,.inl rfl,by simp⟩
 ·refine⟨some ⟨g,0,none⟩,cap,rfl,hn,hm,?_,h.1⟩;rcases Nat.eq_zero_or_pos xs.length with hx|hx
  ·exact .inl (eq_nil_of_length_eq_zero hx)
  ·refine .inr ⟨g,0,rfl,(h0.lt g rfl).2,fun i hi=>?_⟩;have:=h0.cells (g:=g) rfl i _ (getElem?_eq_getElem hi);rwa[show Addr.add ⟨g,0,none⟩ i=⟨g,0+i,none⟩ from by unfold Addr.add;split<;>simp_all] at this
inductive PV where
 |sc (v:Value)
 |ag (l:List PV)
 |tu (l:List PV)
 |sl (q:Nat) (xs:List PV)
 |pr (p:PV)
def PV.cs:PV->List PV
 |.ag l=>l
 |p=>[p]
def Alw (L:Nat->Option Nat) (b i:Nat):Prop:=∀f,L b=some f->i<f
def Lays (L:Nat->Option Nat) (w:World) (A:Option Addr) (us:List Value):Prop:=
 us=[]∨∃b off,A=some ⟨b,off,none⟩/\b<w.heap.size/\∀i (h:i<us.length),w.cell? ⟨b,off+i,none⟩=some us[i]/\Alw L b (off+i)
inductive RP (L:Nat->Option Nat) (w:World):PV->Value->Prop
 |sc (v:Value):RP L w (.sc v) v
 |ag {l:List PV} {us:List Value} (hl:l.length=us.length) (h1:∀u∈us,u.oneCell'=true) (h:∀(i:Nat) p u,l[i]?=some p->us[i]?=some u->RP L w p u):RP L w (.ag l) (.agg us.toArray)
 |tu {l:List PV} {us:List Value} (hl:l.length=us.length) (h:∀(i:Nat) p u,l[i]?=some p->us[i]?=some u->RP L w p u):RP L w (.tu l) (.tuple us.toArray)
 |sl {q:Nat} {xs:List PV} {us:List Value} {A:Option Addr} {c:Nat} (hq:∀x∈xs,x.cs.length=q) (hc:xs.length<=c) (hm:c<=maxLen) (hl:(xs.flatMap PV.cs).length=us.length) (h1:∀u∈us,u.oneCell'=true)
   (h:∀(i:Nat) p u,(xs.flatMap PV.cs)[i]?=some p->us[i]?=some u->RP L w p u) (hA:Lays L w A us):RP L w (.sl q xs) (.slice A xs.length c)
 |pr {p:PV} {us:List Value} {b off:Nat} (hl:p.cs.length=us.length) (h1:∀u∈us,u.oneCell'=true) (h:∀(i:Nat) q u,p.cs[i]?=some q->us[i]?=some u->RP L w q u) (hb:b<w.heap.size) (hA:Lays L w (some ⟨b,off,none⟩) us):RP L w (.pr p) (.pointer (some ⟨b,off,none⟩))
def RL (L:Nat->Option Nat) (w:World) (l:List PV) (us:List Value):Prop:=l.length=us.length/\∀(i:Nat) p u,l[i]?=some p->us[i]?=some u->RP L w p u
structure Grow (L:Nat->Option Nat) (w:World) (L':Nat->Option Nat) (w':World):Prop where
 size:w.heap.size<=w'.heap.size
 keep:∀b i,b<w.heap.size->Alw L b i->Alw L' b i/\w'.cell? ⟨b,i,none⟩=w.cell? ⟨b,i,none⟩
section
variable {L L' L'':Nat->Option Nat} {w w' w'':World}
theorem Grow.refl:Grow L w L w:=⟨Nat.le_refl _,fun _ _ _ h=>⟨h,rfl⟩⟩
theorem Grow.trans (h:Grow L w L' w') (k:Grow L' w' L'' w''):Grow L w L'' w'':=
 ⟨Nat.le_trans h.size k.size,fun b i hb ha=>have h1:=h.keep b i hb ha;have h2:=k.keep b i (Nat.lt_of_lt_of_le hb h.size) h1.1;⟨h2.1,h2.2.trans h1.2⟩⟩
theorem Lays.grow {A:Option Addr} {us:List Value} (h:Lays L w A us) (g:Grow L w L' w'):Lays L' w' A us:=by
 rcases h with rfl|⟨b,off,rfl,hb,h⟩
 ·exact .inl rfl
 ·exact .inr ⟨b,off,rfl,Nat.lt_of_lt_of_le hb g.size,fun i hi=>have h1:=g.keep b _ hb (h i hi).2;⟨h1.2.trans (h i hi).1,h1.1⟩⟩
theorem RP.grow {p:PV} {u:Value} (h:RP L w p u) (g:Grow L w L' w'):RP L' w' p u:=by
 induction h with
 |sc v=>exact .sc v
 |ag hl h1 _ ih=>exact .ag hl h1 ih
 |tu hl _ ih=>exact .tu hl ih
 |sl hq hc hm hl h1 _ hA ih=>exact .sl hq hc hm hl h1 ih (hA.grow g)
 |pr hl h1 _ hb hA ih=>exact .pr hl h1 ih (Nat.lt_of_lt_of_le hb g.size) (hA.grow g)
theorem RL.grow {l:List PV} {us:List Value} (h:RL L w l us) (g:Grow L w L' w'):RL L' w' l us:=⟨h.1,fun i p u hp hu=>(h.2 i p u hp hu).grow g⟩
theorem Grow.below (hb:Below w.heap.size w w'):Grow L w L w':=⟨hb.size,fun _ _ h ha=>⟨ha,hb.cell h⟩⟩
end
inductive SC where
 |v (p:PV)
 |ow (j n:Nat)
 |ox (j n k:Nat)
inductive bF where
 |sg (cs:List SC)
 |v (p:PV)
 |pt (j off:Nat)
 |ow (j n:Nat)
 |fn (f:Nat) (js:List Nat)
 |ox (j n k:Nat)
 |px (j i c n k:Nat)
 |ex (R:PV->Prop)
 |any
inductive Ob where
 |blk (cs:List bF)
 |row (e m:Nat) (xs:List PV)
 |aW (v e m:Nat) (xs:List PV)
inductive Ky where
 |s (t:Nat)
 |o (j:Nat)
 deriving DecidableEq
inductive En where
 |s (x:bF)
 |o (x:Ob)
def Ky.eq:Ky->Ky->Bool
 |.s a,.s b=>Nat.beq a b
 |.o a,.o b=>Nat.beq a b
 |_,_=>false
theorem Ky.eq_iff {a b:Ky}:a.eq b=true↔a=b:=by
 cases a<;>cases b<;>simp[Ky.eq]
theorem Ky.eq_self (a:Ky):a.eq a=true:=Ky.eq_iff.2 rfl
abbrev Mm:=Ky->Option En
def get (k:Ky):List (Ky × En)->Option En
 |[]=>none
 |(k',e)::r=>bif k.eq k' then some e else get k r
def upd (m:Mm) (l:List (Ky × En)):Mm:=fun k=>match get k l with
 |some e=>some e
 |none=>m k
def mm (l:List (Ky × En)):Mm:=fun k=>get k l
theorem get_append (k:Ky) (a b:List (Ky × En)):get k (a++b)=match get k a with|some e=>some e|none=>get k b:=by
 induction a with
 |nil=>rfl
 |cons x a ih=>
  obtain⟨k',e⟩:=x;simp only[cons_append,get]
  cases k.eq k'<;>simp[ih]
theorem LU (l p:List (Ky × En)):upd (mm l) p=mm (p++l):=by
 funext k;simp only[upd,mm,get_append]
theorem bK (k k':Ky) (e:En) (r:List (Ky × En)):get k ((k',e)::r)=if k=k' then some e else get k r:=by
 show (bif k.eq k' then some e else get k r)=_;by_cases h:k=k'
 ·rw[if_pos h,Ky.eq_iff.2 h];rfl
 ·have:k.eq k'=false:=by cases hh:k.eq k' with|false=>rfl|true=>exact absurd (Ky.eq_iff.1 hh) h
  rw[if_neg h,this];rfl
theorem get_nil (k:Ky):get k []=none:=rfl
def Ob.isRow:Ob->Bool
 |.row ..=>true
 |.aW ..=>true
 |_=>false
section
variable (ρ:Nat->Value) (m:Mm) (L:Nat->Option Nat) (w:World)
def xY (j off:Nat) (u:Value):Prop:=(∃ob,m (.o j)=some (.o ob)/\ob.isRow=false)/\∃b,ρ j=.pointer (some ⟨b,0,none⟩)/\u=.pointer (some ⟨b,off,none⟩)
def SC.R:SC->Value->Prop
 |.v p,u=>RP L w p u
 |.ow j n,u=>∃e q xs,m (.o j)=some (.o (.row e q xs))/\n<=xs.length/\(n=xs.length->u=ρ j)
 |.ox j n k,u=>∃v e q xs,m (.o j)=some (.o (.aW v e q xs))/\k<=v/\(k=v->n<=xs.length/\(n=xs.length->u=ρ j))
def SR:bF->Value->Prop
 |.sg cs,u=>∃us:List Value,u=.agg us.toArray/\cs.length=us.length/\(∀u∈us,u.oneCell'=true)/\∀(i:Nat) c x,cs[i]?=some c->us[i]?=some x->SC.R ρ m L w c x
 |.v p,u=>RP L w p u
 |.pt j off,u=>xY ρ m j off u
 |.ow j n,u=>∃e q xs,m (.o j)=some (.o (.row e q xs))/\n<=xs.length/\(n=xs.length->u=ρ j)
 |.ox j n k,u=>∃v e q xs,m (.o j)=some (.o (.aW v e q xs))/\k<=v/\(k=v->n<=xs.length/\(n=xs.length->u=ρ j))
 |.px j i c n k,u=>∃v e q xs,m (.o j)=some (.o (.aW v e q xs))/\k<=v/\(k=v->n<=xs.length/\(n=xs.length->∃b l cp,ρ j=.slice (some ⟨b,0,none⟩) l cp/\u=.pointer (some ⟨b,i*q+c,none⟩)))
 |.fn f js,u=>∃us:List Value,u=.func (.func f) #[] us.toArray/\js.length=us.length/\∀(i:Nat) j x,js[i]?=some j->us[i]?=some x->xY ρ m j 0 x
 |.ex R,u=>∃p,R p/\RP L w p u
 |.any,_=>True
def gJ:Value->Option Nat
 |.pointer (some a)=>some a.block
 |.slice (some a) _ _=>some a.block
 |_=>none
def OR (base:Nat) (iL:Nat->Prop) (j:Nat):Ob->Prop
 |.blk cs=>∃b e us,ρ j=.pointer (some ⟨b,0,none⟩)/\(base<=b∨iL b)/\aj w b e us/\cs.length=us.length/\(∀u∈us,u.oneCell'=true)/\(∀(i:Nat) x u,cs[i]?=some x->us[i]?=some u->SR ρ m L w x u)/\L b=some 0
 |.row e q xs=>∃us,w.ownsRow base e q (ρ j) xs.length us/\RL L w (xs.flatMap PV.cs) us/\(∀u∈us,u.oneCell'=true)/\(∀b,gJ (ρ j)=some b->L b=some us.length)/\∀x∈xs,x.cs.length=q
 |.aW _ e q xs=>∃us,w.ownsRow base e q (ρ j) xs.length us/\RL L w (xs.flatMap PV.cs) us/\(∀u∈us,u.oneCell'=true)/\(∀b,gJ (ρ j)=some b->L b=some 0)/\∀x∈xs,x.cs.length=q
structure HS (base:Nat) (iL:Nat->Prop):Prop where
 ob:∀j ob,m (.o j)=some (.o ob)->OR ρ m L w base iL j ob
 inj:∀j j' ob ob' b,m (.o j)=some (.o ob)->m (.o j')=some (.o ob')->gJ (ρ j)=some b->gJ (ρ j')=some b->j=j'
 new:∀b,w.heap.size<=b->L b=none
 bo:∀ob,m (.o 900)=some (.o ob)->∃b,ρ 900=.pointer (some ⟨b,0,none⟩)/\iL b
end
def Ob.le (ρ ρ':Nat->Value) (j:Nat):Ob->Ob->Prop
 |.row e q xs,ob'=>∃xs',ob'=.row e q xs'/\xs.length<=xs'.length/\(xs.length=xs'.length->ρ' j=ρ j)
 |.aW v e q xs,ob'=>∃v' xs',ob'=.aW v' e q xs'/\v<=v'/\(v=v'->xs.length<=xs'.length/\(xs.length=xs'.length->ρ' j=ρ j))
 |.blk _,ob'=>ob'.isRow=false/\ρ' j=ρ j
structure Ext (ρ:Nat->Value) (m:Mm) (L:Nat->Option Nat) (w:World) (ρ':Nat->Value) (m':Mm) (L':Nat->Option Nat) (w':World):Prop where
 grow:Grow L w L' w'
 ob:∀j ob,m (.o j)=some (.o ob)->∃ob',m' (.o j)=some (.o ob')/\Ob.le ρ ρ' j ob ob'
section
variable {ρ ρ':Nat->Value} {m m':Mm} {L L':Nat->Option Nat} {w w':World}
theorem xY.ext {j off:Nat} {u:Value} (h:xY ρ m j off u) (g:Ext ρ m L w ρ' m' L' w'):xY ρ' m' j off u:=by
 obtain⟨⟨ob,h1,h2⟩,b,h3,h4⟩:=h;obtain⟨ob',k1,k2⟩:=g.ob j ob h1;have k3:ob'.isRow=false/\ρ' j=ρ j:=by cases ob<;>first|exact k2|cases h2
 exact⟨⟨ob',k1,k3.1⟩,b,k3.2.trans h3,h4⟩
def SC.s:SC->bF
 |.v p=>.v p
 |.ow j n=>.ow j n
 |.ox j n k=>.ox j n k
theorem SC.sr {c:SC} {u:Value}:SC.R ρ m L w c u↔SR ρ m L w c.s u:=by cases c<;>exact Iff.rfl
theorem SR.aeS {x:bF} {u:Value} (h:SR ρ m L w x u) (g:Ext ρ m L w ρ' m' L' w') (hx:∀cs,x≠.sg cs):SR ρ' m' L' w' x u:=by
 cases x with
 |sg cs=>exact absurd rfl (hx cs)
 |v p=>exact RP.grow h g.grow
 |pt j off=>exact xY.ext h g
 |ow j n=>
  obtain⟨e,q,xs,h1,h2,h3⟩:=h;obtain⟨ob',k1,xs',rfl,k2,k3⟩:=g.ob j _ h1;exact⟨e,q,xs',k1,by omega,fun hn=>by rw[h3 (by omega),k3 (by omega)]⟩
 |ox j n k=>
  obtain⟨v,e,q,xs,h1,h2,h3⟩:=h;obtain⟨ob',k1,v',xs',rfl,k2,k3⟩:=g.ob j _ h1;refine⟨v',e,q,xs',k1,Nat.le_trans h2 k2,fun hv=>?_⟩;have e1:k=v:=by omega
  have h4:=h3 e1;have k4:=k3 (e1 ▸ hv);exact⟨by omega,fun hn=>by rw[h4.2 (by omega),k4.2 (by omega)]⟩
 |px j i c n k=>
  obtain⟨v,e,q,xs,h1,h2,h3⟩:=h;obtain⟨ob',k1,v',xs',rfl,k2,k3⟩:=g.ob j _ h1;refine⟨v',e,q,xs',k1,Nat.le_trans h2 k2,fun hv=>?_⟩;have e1:k=v:=by omega
  have h4:=h3 e1;have k4:=k3 (e1 ▸ hv);exact⟨by omega,fun hn=>by rw[k4.2 (by omega)];exact h4.2 (by omega)⟩
 |fn f js=>
  obtain⟨us,h1,h2,h3⟩:=h;exact⟨us,h1,h2,fun i j x hj hx=>(h3 i j x hj hx).ext g⟩
 |ex R=>obtain⟨p,h1,h2⟩:=h;exact⟨p,h1,h2.grow g.grow⟩
 |any=>trivial
theorem SR.ext {x:bF} {u:Value} (h:SR ρ m L w x u) (g:Ext ρ m L w ρ' m' L' w'):SR ρ' m' L' w' x u:=by
 by_cases hx:∃cs,x=.sg cs
 ·obtain⟨cs,rfl⟩:=hx;obtain⟨us,h1,h2,h3,h4⟩:=h;exact⟨us,h1,h2,h3,fun i c x hc hu=>SC.sr.2 ((SC.sr.1 (h4 i c x hc hu)).aeS g fun cs e=>by cases c<;>cases e)⟩
 ·exact h.aeS g fun cs e=>hx ⟨cs,e⟩
end
structure tH (B:Nat) (iL:Nat->Prop) (w w':World):Prop where
 os:w'.os=w.os
 tape:w'.tape=w.tape
 output:w'.output=w.output
 size:w.heap.size<=w'.heap.size
 block:∀k,k<B->¬iL k->w'.heap[k]?=w.heap[k]?
theorem tH.of {B:Nat} {iL:Nat->Prop} {w w':World} (h:Below B w w'):tH B iL w w':=⟨h.os,h.tape,h.output,h.size,fun k hk _=>h.block k hk⟩
theorem tH.trans {B:Nat} {iL:Nat->Prop} {a b c:World} (h:tH B iL a b) (k:tH B iL b c):tH B iL a c:=
 ⟨k.os.trans h.os,k.tape.trans h.tape,k.output.trans h.output,Nat.le_trans h.size k.size,fun i hi hn=>(k.block i hi hn).trans (h.block i hi hn)⟩
theorem tH.out {B:Nat} {w w':World} (h:tH B (fun _=>False) w w'):Below B w w':=⟨h.os,h.tape,h.output,h.size,fun k hk=>h.block k hk id⟩
structure bU where
 p:World->Prop
 st:∀{w w'},Below w.heap.size w w'->p w->p w'
structure Cx (Ld:bU) where
 base:Nat
 iL:Nat->Prop
 w0:World
 L0:Nat->Option Nat
 tJ:∀w,tH base iL w0 w->Ld.p w
structure kJ {Ld:bU} (X:Cx Ld) (N:Nat) (m:Mm) (a:Act) (w:World) (ρ:Nat->Value) (L:Nat->Option Nat):Prop where
 hs:HS ρ m L w X.base X.iL
 sz:a.tmps.size=N
 df:a.defers=[]
 sl:∀t x,m (.s t)=some (.s x)->∃u,a.tmps[t]?=some u/\SR ρ m L w x u
 bl:tH X.base X.iL X.w0 w
 ll:∀b,b<X.base->L b=X.L0 b
 lb:X.base<=w.heap.size
def RS {Ld:bU} (X:Cx Ld) (N:Nat) (m:Mm) (a:Act) (w:World):Prop:=∃ρ L,kJ X N m a w ρ L
end Go.Proofs.YtjpbmbgincdjaaaGreatDoor
namespace Go.Proofs.YtjpbmbgincdjaaaGreatDoor
open List
theorem getD_lt {α:Type} {xs:List α} {n:Nat} {d:α} (h:n<xs.length):xs.getD n d=xs[n]:=by
 rw[getD_eq_getElem?_getD,getElem?_eq_getElem h];rfl
def val (B:Nat):List Nat->Nat
 |[]=>0
 |x::xs=>x+B*val B xs
theorem val_append (B:Nat) (xs ys:List Nat):val B (xs++ys)=val B xs+B ^ xs.length*val B ys:=by
 induction xs with
 |nil=>simp[val]
 |cons x xs ih=>simp only[cons_append,val,ih,length_cons,Nat.pow_succ];grind
theorem pX (B:Nat) (xs:List Nat) (k:Nat) (h:k<xs.length):
  val B (xs.take (k+1))=val B (xs.take k)+B ^ k*xs[k]:=by
 rw[take_succ_eq_append_getElem h,val_append,length_take_of_le (by omega)];simp[val]
theorem iE (B:Nat) (xs:List Nat) (h:∀x∈xs,x<B):val B xs<B ^ xs.length:=by
 induction xs with
 |nil=>simp[val]
 |cons x xs ih=>
  have hx:=h x (by simp);have:=ih (fun y hy=>h y (by simp[hy]));simp only[val,length_cons,Nat.pow_succ]
  have h2:val B xs+1<=B ^ xs.length:=this;have h3:B*(val B xs+1)<=B*B ^ xs.length:=Nat.mul_le_mul_left _ h2;rw[Nat.mul_comm (B ^ xs.length) B];rw[Nat.mul_add] at h3;omega
theorem tK (B n:Nat):val B (List.replicate n 0)=0:=by
 induction n with
 |zero=>rfl
 |succ n ih=>simp[replicate_succ,val,ih]
theorem QZ (B:Nat) (xs:List Nat) (j:Nat) (h:j<xs.length) (y:Nat):
  val B (xs.set j y)+B ^ j*xs[j]=val B xs+B ^ j*y:=by
 induction xs generalizing j with
 |nil=>simp at h
 |cons x xs ih=>
  cases j with
  |zero=>simp[val];omega
  |succ j=>
   have:=ih j (by simpa using h);simp only[set_cons_succ,val,getElem_cons_succ,Nat.pow_succ]
   have hj:j<xs.length:=by simpa using h
   have e:B*(val B (xs.set j y)+B ^ j*xs[j]'hj)=B*(val B xs+B ^ j*y):=by rw[this]
   rw[Nat.mul_add,Nat.mul_add,<-Nat.mul_assoc,<-Nat.mul_assoc] at e;rw[Nat.mul_comm (B ^ j) B];omega
structure Canon (B:Nat) (xs:List Nat):Prop where
 lt:∀x∈xs,x<B
 last:∀h:xs≠[],xs.getLast h≠0
theorem Canon.nil (B:Nat):Canon B []:=⟨by simp,by simp⟩
theorem Canon.ge {B:Nat} {xs:List Nat} (h:Canon B xs) (hn:xs≠[]):B ^ (xs.length-1)<=val B xs:=by
 have e:=dropLast_concat_getLast hn;have h0:=h.last hn;rw[<-e,val_append];simp only[length_dropLast,length_append,length_singleton,val,Nat.mul_zero,Nat.add_zero,Nat.add_sub_cancel]
 have:1<=xs.getLast hn:=by omega
 have:=Nat.mul_le_mul_left (B ^ (xs.length-1)) this;omega
theorem Canon.val_zero {B:Nat} (hB:0<B) {xs:List Nat} (h:Canon B xs):val B xs=0↔xs=[]:=by
 constructor
 ·intro h0;by_cases hn:xs=[]
  ·exact hn
  ·have h1:=h.ge hn;have h2:0<B ^ (xs.length-1):=Nat.pow_pos hB;omega
 ·rintro rfl;rfl
def trimLen (xs:List Nat):Nat->Nat
 |0=>0
 |n+1=>if xs.getD n 0=0 then trimLen xs n else n+1
theorem trimLen_le (xs:List Nat) (n:Nat):trimLen xs n<=n:=by
 induction n with
 |zero=>simp[trimLen]
 |succ n ih=>simp only[trimLen];split<;>omega
def jH (xs:List Nat):List Nat:=xs.take (trimLen xs xs.length)
theorem Lc (B:Nat) (xs:List Nat) (n:Nat) (h:n<=xs.length):val B (xs.take (trimLen xs n))=val B (xs.take n):=by
 induction n with
 |zero=>rfl
 |succ n ih=>
  simp only[trimLen]
  split
  ·next h0=>
   rw[ih (by omega),pX _ _ _ (by omega)];rw[getD_lt (by omega)] at h0;simp[h0]
  ·rfl
theorem qB (B:Nat) (xs:List Nat):val B (jH xs)=val B xs:=by
 unfold jH;rw[Lc _ _ _ (Nat.le_refl _),take_length]
theorem LV (xs:List Nat) (n:Nat) (hn:0<trimLen xs n):xs.getD (trimLen xs n-1) 0≠0:=by
 induction n with
 |zero=>simp[trimLen] at hn
 |succ n ih=>
  simp only[trimLen] at hn⊢;split
  ·next h0=>rw[if_pos h0] at hn;exact ih hn
  ·next h0=>simpa using h0
theorem mG (xs:List Nat):(jH xs).length=trimLen xs xs.length:=by
 unfold jH;rw[length_take_of_le (trimLen_le _ _)]
theorem sQ (B:Nat) (xs:List Nat) (h:∀x∈xs,x<B):Canon B (jH xs):=by
 refine⟨fun x hx=>h x (mem_of_mem_take hx),fun hn=>?_⟩;have hl:=mG xs;have hp:0<trimLen xs xs.length:=by rw[<-hl];exact length_pos_iff.2 hn
 have h1:=LV xs xs.length hp;have hle:=trimLen_le xs xs.length;rw[getLast_eq_getElem]
 have:(jH xs)[(jH xs).length-1]'(by omega)=xs[trimLen xs xs.length-1]'(by omega):=by
  simp only[jH,getElem_take]
  congr 1;rw[length_take_of_le hle]
 rw[this];rwa[getD_lt (by omega)] at h1
theorem WR (B:Nat) (hB:0<B) (xs:List Nat) (h:∀x∈xs,x<B) (j:Nat) (hj:j<xs.length):val B xs / B ^ j % B=xs[j]:=by
 induction xs generalizing j with
 |nil=>simp at hj
 |cons x xs ih=>
  have hx:=h x (by simp);cases j with
  |zero=>simp[val,Nat.add_mul_mod_self_left,Nat.mod_eq_of_lt hx]
  |succ j=>
   have:=ih (fun y hy=>h y (by simp[hy])) j (by simpa using hj);simp only[val,getElem_cons_succ,Nat.pow_succ]
   rw[Nat.mul_comm (B ^ j) B,<-Nat.div_div_eq_div_mul,Nat.add_mul_div_left _ _ hB,Nat.div_eq_of_lt hx,Nat.zero_add,this]
def fM (m n:Nat):List Nat:=(List.range m).map fun j=>n / (2 ^ 32) ^ j % 2 ^ 32
theorem jw (m n:Nat):(fM m n).length=m:=by simp[fM]
theorem Q5 (m n:Nat):∀x∈fM m n,x<2 ^ 32:=by
 intro x hx;simp only[fM,mem_map] at hx;obtain⟨j,_,rfl⟩:=hx;exact Nat.mod_lt _ (by omega)
theorem LW (m n j:Nat) (h:j<m):(fM m n).getD j 0=n / (2 ^ 32) ^ j % 2 ^ 32:=by
 rw[getD_lt (by rw[jw];exact h)];simp[fM]
theorem WT (m:Nat):fM m 0=List.replicate m 0:=by
 apply ext_getElem<;>simp[fM]
theorem LX (m n:Nat):val (2 ^ 32) (fM m n)=n % (2 ^ 32) ^ m:=by
 induction m with
 |zero=>simp[fM,val,Nat.mod_one]
 |succ m ih=>
  have e:fM (m+1) n=fM m n++[n / (2 ^ 32) ^ m % 2 ^ 32]:=by simp[fM,range_succ]
  rw[e,val_append,ih,jw,show (2 ^ 32) ^ (m+1)=(2 ^ 32) ^ m*2 ^ 32 from Nat.pow_succ ..,Nat.mod_mul];simp[val]
theorem yP (j:Nat):(2 ^ 32) ^ j=256 ^ (4*j):=by
 rw[show (2:Nat) ^ 32=256 ^ 4 from rfl,<-Nat.pow_mul]
theorem FB (m N k:Nat) (hN:N<256 ^ k) (hk:k / 4<m):(fM m N).getD (k / 4) 0<256 ^ (k % 4):=by
 rw[LW _ _ _ hk,yP]
 have h:N / 256 ^ (4*(k / 4))<256 ^ (k % 4):=by
  rw[Nat.div_lt_iff_lt_mul (Nat.pow_pos (by omega)),<-Nat.pow_add];rwa[show k % 4+4*(k / 4)=k from by omega]
 exact Nat.lt_of_le_of_lt (Nat.mod_le _ _) h
theorem WU (m N c k:Nat) (hN:N<256 ^ k) (hc:c<256) (hk:k / 4<m):
  fM m (c*256 ^ k+N)=(fM m N).set (k / 4) ((fM m N).getD (k / 4) 0+c*256 ^ (k % 4)):=by
 apply ext_getElem
 ·simp[fM]
 ·intro j h1 h2;rw[jw] at h1;rw[getElem_set];simp only[fM,getElem_map,getElem_range]
  split
  ·next he=>
   subst he;have hb:=FB m N k hN hk;have hg:=LW m N (k / 4) hk;simp only[fM] at hb hg;rw[hg] at hb⊢;rw[yP] at hb⊢;have hk':k=4*(k / 4)+k % 4:=by omega
   have hp:0<256 ^ (4*(k / 4)):=Nat.pow_pos (by omega)
   have h3:N / 256 ^ (4*(k / 4))<256 ^ (k % 4):=by
    rw[Nat.div_lt_iff_lt_mul hp,<-Nat.pow_add];rwa[show k % 4+4*(k / 4)=k from by omega]
   have e:c*256 ^ k+N=N+256 ^ (4*(k / 4))*(c*256 ^ (k % 4)):=by
    conv=>lhs;rw[hk',Nat.pow_add]
    grind
   have hq:256 ^ (k % 4)*256<=2 ^ 32:=by
    have:k % 4=0∨k % 4=1∨k % 4=2∨k % 4=3:=by omega
    rcases this with h|h|h|h<;>rw[h]<;>decide
   have hm:c*256 ^ (k % 4)+256 ^ (k % 4)<=256 ^ (k % 4)*256:=by
    have:=Nat.mul_le_mul_right (256 ^ (k % 4)) (show c+1<=256 by omega)
    grind
   have h5:N / 256 ^ (4*(k / 4))+c*256 ^ (k % 4)<2 ^ 32:=by omega
   have h6:N / 256 ^ (4*(k / 4))<2 ^ 32:=by omega
   rw[e,Nat.add_mul_div_left _ _ hp,Nat.mod_eq_of_lt h5,Nat.mod_eq_of_lt h6]
  ·next he=>
   rw[yP];have hp:0<256 ^ (4*j):=Nat.pow_pos (by omega);rcases Nat.lt_or_ge j (k / 4) with hlt|hge
   ·have e:c*256 ^ k+N=N+256 ^ (4*j)*(2 ^ 32*(c*256 ^ (k-4*(j+1)))):=by
     have:256 ^ k=256 ^ (4*j)*(256 ^ 4*256 ^ (k-4*(j+1))):=by
      rw[<-Nat.pow_add,<-Nat.pow_add];congr 1;omega
     rw[this,show (256:Nat) ^ 4=2 ^ 32 from rfl];grind
    rw[e,Nat.add_mul_div_left _ _ hp,Nat.add_mul_mod_self_left]
   ·have hlt:c*256 ^ k+N<256 ^ (4*j):=by
     have h4:256 ^ (k+1)<=256 ^ (4*j):=Nat.pow_le_pow_right (by omega) (by omega);have:=Nat.mul_le_mul_right (256 ^ k) (show c+1<=256 by omega);rw[Nat.pow_succ] at h4
     grind
    have hN':N<256 ^ (4*j):=by omega
    rw[Nat.div_eq_of_lt hlt,Nat.div_eq_of_lt hN']
theorem qC (x c t:Nat) (h:x<2 ^ t):x|||(c*2 ^ t)=x+c*2 ^ t:=by
 rw[Nat.or_comm,<-Nat.shiftLeft_eq,<-Nat.shiftLeft_add_eq_or_of_lt h,Nat.add_comm]
theorem qE (B:Nat) (xs:List Nat) (k:Nat) (h:k<=xs.length):val B xs=val B (xs.take k)+B ^ k*val B (xs.drop k):=by
 have:=val_append B (xs.take k) (xs.drop k);rwa[take_append_drop,length_take_of_le h] at this
theorem Canon.vJ {B:Nat} (hB:0<B) {xs ys:List Nat} (hx:Canon B xs) (hy:Canon B ys) (h:xs.length<ys.length):val B xs<val B ys:=by
 have h1:=iE B xs hx.lt;have h2:=hy.ge (by intro e;subst e;simp at h);have h3:B ^ xs.length<=B ^ (ys.length-1):=Nat.pow_le_pow_right hB (by omega);omega
theorem qM (B:Nat) (xs ys:List Nat) (hx:∀x∈xs,x<B) (k:Nat) (h1:k<xs.length) (h2:k<ys.length)
  (hd:xs.drop (k+1)=ys.drop (k+1)) (hlt:xs.getD k 0<ys.getD k 0):val B xs<val B ys:=by
 rw[getD_lt h1,getD_lt h2] at hlt;rw[qE B xs (k+1) h1,qE B ys (k+1) h2,hd,pX _ _ _ h1,pX _ _ _ h2];have h3:=iE B (xs.take k) (fun x hx'=>hx x (mem_of_mem_take hx'));rw[length_take_of_le (by omega)] at h3;have h4:B ^ k*(xs[k]+1)<=B ^ k*ys[k]:=Nat.mul_le_mul_left _ hlt;rw[Nat.mul_add] at h4;omega
theorem Aq (xs ys:List Nat) (k:Nat) (h1:k<xs.length) (h2:k<ys.length) (hd:xs.drop (k+1)=ys.drop (k+1)) (he:xs.getD k 0=ys.getD k 0):
  xs.drop k=ys.drop k:=by
 rw[getD_lt h1,getD_lt h2] at he;rw[drop_eq_getElem_cons h1,drop_eq_getElem_cons h2,he,hd]
def fD (n m:Nat):Int:=if n<m then-1 else if n=m then 0 else 1
theorem xZ {n m:Nat} (h:n<m):fD n m= -1:=if_pos h
theorem CU {n m:Nat} (h:m<n):fD n m=1:=by unfold fD;rw[if_neg (by omega),if_neg (by omega)]
theorem Q7 (n:Nat):fD n n=0:=by unfold fD;simp
theorem cZ (B:Nat) (xs:List Nat) (k:Nat):val B (xs.take (k+1))=val B (xs.take k)+B ^ k*xs.getD k 0:=by
 rcases Nat.lt_or_ge k xs.length with h|h
 ·rw[pX _ _ _ h,getD_lt h]
 ·rw[take_of_length_le (by omega),take_of_length_le h,getD_eq_getElem?_getD,getElem?_eq_none h];simp
theorem gy (B:Nat) (os:List Nat) (y:Nat):val B (os++[y])=val B os+B ^ os.length*y:=by
 rw[val_append];simp[val]
theorem aP {xs:List Nat} {b:Nat} (hb:0<b) (h:∀x∈xs,x<b) (k:Nat):xs.getD k 0<b:=by
 rcases Nat.lt_or_ge k xs.length with hk|hk
 ·rw[getD_lt hk];exact h _ (getElem_mem hk)
 ·rw[getD_eq_getElem?_getD,getElem?_eq_none hk];exact hb
theorem gK {os:List Nat} {b y:Nat} (h:∀x∈os,x<b) (hy:y<b):∀x∈os++[y],x<b:=by
 intro x hx;rcases mem_append.1 hx with hx|hx
 ·exact h x hx
 ·obtain rfl:x=y:=by simpa using hx
  exact hy
theorem LY {α:Type} (os:List α) (n k:Nat) (z y:α) (hk:os.length=k) (h:k<n):
  (os++List.replicate (n-k) z).set k y=(os++[y])++List.replicate (n-(k+1)) z:=by
 rw[set_append_right _ _ (by omega),show n-k=(n-(k+1))+1 from by omega,replicate_succ,hk,Nat.sub_self,set_cons_zero];simp
theorem LZ (B k:Nat) (xs ys os:List Nat) (c:Nat) (hB:0<B) (hk:os.length=k)
  (h:val B os+c*B ^ k=val B (xs.take k)+val B (ys.take k)):
  val B (os++[(xs.getD k 0+c+ys.getD k 0) % B])+(xs.getD k 0+c+ys.getD k 0) / B*B ^ (k+1)=val B (xs.take (k+1))+val B (ys.take (k+1)):=by
 rw[gy,hk,cZ,cZ,Nat.pow_succ];generalize xs.getD k 0=x;generalize ys.getD k 0=y;have e:=Nat.div_add_mod (x+c+y) B;generalize (x+c+y) / B=q at*;generalize (x+c+y) % B=r at*
 grind
theorem tN {xs:List Nat} {b y:Nat} (h:∀x∈xs,x<b) (hy:y<b) (k:Nat):∀x∈xs.set k y,x<b:=by
 intro x hx;rcases mem_or_eq_of_mem_set hx with hx|rfl
 ·exact h x hx
 ·exact hy
theorem FC (B i j:Nat) (xs ys out:List Nat) (c:Nat) (hB:0<B) (hp:i+j<out.length)
  (h:val B out+c*B ^ (i+j)=val B (xs.take i)*val B ys+xs.getD i 0*val B (ys.take j)*B ^ i):
  val B (out.set (i+j) ((xs.getD i 0*ys.getD j 0+out.getD (i+j) 0+c) % B))+(xs.getD i 0*ys.getD j 0+out.getD (i+j) 0+c) / B*B ^ (i+(j+1))=
   val B (xs.take i)*val B ys+xs.getD i 0*val B (ys.take (j+1))*B ^ i:=by
 have hs:=QZ B out (i+j) hp ((xs.getD i 0*ys.getD j 0+out.getD (i+j) 0+c) % B);rw[<-getD_lt (d:=0) hp] at hs;rw[cZ,<-Nat.add_assoc,Nat.pow_succ];have hpw:B ^ (i+j)=B ^ i*B ^ j:=Nat.pow_add ..;generalize out.getD (i+j) 0=o at*;generalize xs.getD i 0=x at*;generalize ys.getD j 0=y at*;have e:=Nat.div_add_mod (x*y+o+c) B;generalize (x*y+o+c) / B=q at*;generalize (x*y+o+c) % B=r at*;generalize B ^ (i+j)=E at*
 grind
theorem FD (B i:Nat) (xs ys out:List Nat) (c:Nat) (hp:i+ys.length<out.length) (h0:out.getD (i+ys.length) 0=0)
  (h:val B out+c*B ^ (i+ys.length)=val B (xs.take i)*val B ys+xs.getD i 0*val B (ys.take ys.length)*B ^ i):
  val B (out.set (i+ys.length) c)=val B (xs.take (i+1))*val B ys:=by
 have hs:=QZ B out (i+ys.length) hp c;rw[<-getD_lt (d:=0) hp,h0] at hs;rw[take_length] at h;rw[cZ];generalize xs.getD i 0=x at*
 grind
theorem getD_set_ne (xs:List Nat) (k p y:Nat) (h:k≠p):(xs.set k y).getD p 0=xs.getD p 0:=by
 simp[getD_eq_getElem?_getD,getElem?_set_ne h]
theorem Au (x y o c:Nat) (hx:x<4294967296) (hy:y<4294967296) (ho:o<4294967296) (hc:c<4294967296):
  x*y<=18446744065119617025:=by
 have:=Nat.mul_le_mul (show x<=4294967295 by omega) (show y<=4294967295 by omega);omega
theorem FH (B b k:Nat) (xs qs:List Nat) (r:Nat) (hk:k<xs.length) (h:val B (xs.drop (k+1))=val B qs*b+r):
  val B (xs.drop k)=val B ((r*B+xs.getD k 0) / b::qs)*b+(r*B+xs.getD k 0) % b:=by
 rw[drop_eq_getElem_cons hk,val,h,getD_lt hk,val];generalize xs[k]=x;have e:=Nat.div_add_mod (r*B+x) b;generalize (r*B+x) / b=q at*;generalize (r*B+x) % b=t at*
 grind
theorem wU {α:Type} (k n:Nat) (qs:List α) (z y:α):(List.replicate (k+1) z++qs).set k y=List.replicate k z++(y::qs):=by
 rw[replicate_succ',append_assoc,set_append_right _ _ (by simp)];simp
def vb:List UInt8->Nat
 |[]=>0
 |c::l=>c.toNat*256 ^ l.length+vb l
theorem oD (l m:List UInt8):vb (l++m)=vb l*256 ^ m.length+vb m:=by
 induction l with
 |nil=>simp[vb]
 |cons c l ih=>simp only[cons_append,vb,ih,length_append,Nat.pow_add];grind
theorem qN (l:List UInt8):vb l<256 ^ l.length:=by
 induction l with
 |nil=>simp[vb]
 |cons c l ih=>
  have:=c.toNat_lt;simp only[vb,length_cons,Nat.pow_succ]
  have h3:(c.toNat+1)*256 ^ l.length<=256*256 ^ l.length:=Nat.mul_le_mul_right _ (by omega);rw[Nat.add_mul] at h3;omega
theorem adv (l:List UInt8) (k:Nat) (h:k<l.length):
  vb (l.drop (l.length-(k+1)))=(l.getD (l.length-1-k) 0).toNat*256 ^ k+vb (l.drop (l.length-k)):=by
 have e1:l.length-(l.length-k)=k:=by omega
 have e2:l.length-(k+1)=l.length-1-k:=by omega
 have e3:l.length-1-k+1=l.length-k:=by omega
 rw[e2,drop_eq_getElem_cons (by omega),e3,vb,length_drop,getD_lt (by omega),e1]
def zZ:Nat->Nat->List UInt8->List UInt8
 |0,_,acc=>acc
 |f+1,n,acc=>if n=0 then acc else zZ f (n / 256) (UInt8.ofNat (n % 256)::acc)
def nb (n:Nat):List UInt8:=zZ n n []
theorem Ud (f n:Nat) (acc:List UInt8):zZ f n acc=zZ f n []++acc:=by
 induction f generalizing n acc with
 |zero=>simp[zZ]
 |succ f ih=>
  simp only[zZ]
  split
  ·simp
  ·rw[ih,ih (n / 256) [_]];simp
theorem ZV (f g n:Nat) (acc:List UInt8) (hf:n<=f) (hg:n<=g):zZ f n acc=zZ g n acc:=by
 induction f generalizing n acc g with
 |zero=>obtain rfl:n=0:=by omega
        cases g<;>simp[zZ]
 |succ f ih=>
  cases g with
  |zero=>obtain rfl:n=0:=by omega
         simp[zZ]
  |succ g=>
   simp only[zZ]
   split
   ·rfl
   ·exact ih _ _ _ (by omega) (by omega)
theorem adw:nb 0=[]:=rfl
theorem CV (n:Nat) (h:n≠0):nb n=nb (n / 256)++[UInt8.ofNat (n % 256)]:=by
 unfold nb;obtain⟨m,rfl⟩:∃m,n=m+1:=⟨n-1,by omega⟩
 rw[zZ,if_neg h,Ud,ZV m ((m+1)/256) _ _ (by omega) (Nat.le_refl _)]
theorem qO (n:Nat):vb (nb n)=n:=by
 induction n using Nat.strongRecOn with
 |_ n ih=>
  by_cases h:n=0
  ·subst h;rfl
  ·rw[CV n h,oD,ih (n / 256) (by omega)];simp[vb];omega
theorem CW (n:Nat) (h:n≠0):nb n≠[]:=by rw[CV n h];simp
def tV (l:List UInt8):Prop:=∀h:l≠[],l.head h≠0
theorem qo (n:Nat):tV (nb n):=by
 induction n using Nat.strongRecOn with
 |_ n ih=>
  intro hn;by_cases h:n=0
  ·subst h;exact absurd rfl hn
  ·have hs:=CV n h;by_cases h2:n / 256=0
   ·rw[h2,adw] at hs;have:(nb n).head hn=UInt8.ofNat (n % 256):=by simp[hs]
    rw[this];intro h0;have:=congrArg UInt8.toNat h0;simp at this;omega
   ·have hne:=CW _ h2;have:(nb n).head hn=(nb (n / 256)).head hne:=by simp[hs,hne]
    rw[this];exact ih (n / 256) (by omega) hne
theorem FI (c:UInt8) (l:List UInt8) (h:c≠0):256 ^ l.length<=vb (c::l):=by
 have:1<=c.toNat:=by
  rcases Nat.eq_zero_or_pos c.toNat with h0|h0
  ·exact absurd (UInt8.toNat_inj.1 h0) h
  ·exact h0
 have h3:=Nat.mul_le_mul_right (256 ^ l.length) this;simp only[vb];omega
theorem ah2 (l:List UInt8) (h:tV l):nb (vb l)=l:=by
 suffices H:∀n (l:List UInt8),l.length=n->tV l->nb (vb l)=l from H _ l rfl h
 intro n
 induction n with
 |zero=>intro l hl _;rw[eq_nil_of_length_eq_zero hl];rfl
 |succ n ih=>
  intro l hl h;have hne:l≠[]:=by intro e;subst e;simp at hl
  obtain⟨m,c,rfl⟩:∃m c,l=m++[c]:=⟨l.dropLast,l.getLast hne,(dropLast_concat_getLast hne).symm⟩
  have hm:m.length=n:=by simpa using hl
  have hR:tV m:=by
   intro hm0;have:=h hne;rw[head_append_left hm0] at this;exact this
  have e1:vb (m++[c])=vb m*256+c.toNat:=by rw[oD];simp[vb]
  have hc:=c.toNat_lt
  have hnz:vb (m++[c])≠0:=by
   obtain⟨d,t,ed⟩:∃d t,m++[c]=d::t:=exists_cons_of_ne_nil hne;have hd:d≠0:=by have:=h hne;simpa [ed] using this
   have:=FI d t hd;rw[ed];have:0<256 ^ t.length:=Nat.pow_pos (by omega);omega
  rw[CV _ hnz,e1];have e2:(vb m*256+c.toNat) / 256=vb m:=by omega
  have e3:(vb m*256+c.toNat) % 256=c.toNat:=by omega
  rw[e2,e3,ih m hm hR];simp
def oG (l:List UInt8):List UInt8:=l.dropWhile (·==0)
theorem WV (l:List UInt8):vb (oG l)=vb l:=by
 unfold oG
 induction l with
 |nil=>rfl
 |cons c l ih=>
  rw[dropWhile_cons];split
  ·next h=>obtain rfl:c=0:=by simpa using h
           rw[ih];simp[vb]
  ·rfl
theorem L6 (l:List UInt8):tV (oG l):=by
 unfold oG
 induction l with
 |nil=>intro h;simp at h
 |cons c l ih=>
  rw[dropWhile_cons];split
  ·exact ih
  ·next h=>intro _;simpa using h
theorem Aw (l:List UInt8):oG l=nb (vb l):=by
 rw[<-WV,ah2 _ (L6 l)]
def be:Nat->Nat->List UInt8
 |0,_=>[]
 |n+1,N=>UInt8.ofNat (N / 256 ^ n % 256)::be n N
theorem qF (n N:Nat):(be n N).length=n:=by induction n<;>simp_all [be]
theorem Ue (n N:Nat):vb (be n N)=N % 256 ^ n:=by
 induction n with
 |zero=>simp[be,vb,Nat.mod_one]
 |succ n ih=>
  rw[show 256 ^ (n+1)=256 ^ n*256 from Nat.pow_succ ..,Nat.mod_mul,be,vb,qF,ih];simp;grind
theorem WW (n N:Nat) (h:N<256 ^ n):oG (be n N)=nb N:=by rw[Aw,Ue,Nat.mod_eq_of_lt h]
theorem adx (n k N:Nat) (h:k<n):
  (List.replicate (n-k) 0++be k N).set (n-1-k) (UInt8.ofNat (N / 256 ^ k % 256))=List.replicate (n-(k+1)) 0++be (k+1) N:=by
 rw[show n-k=(n-(k+1))+1 from by omega,replicate_succ',append_assoc,set_append_right _ _ (by simp;omega)];simp[be,show n-1-k-(n-(k+1))=0 from by omega]
theorem Uf (xs:List Nat) (h:∀x∈xs,x<2 ^ 32) (k:Nat) (hk:k / 4<xs.length):
  xs.getD (k / 4) 0 / 2 ^ (8*(k % 4)) % 256=val (2 ^ 32) xs / 256 ^ k % 256:=by
 rw[getD_lt hk,<-WR (2 ^ 32) (by omega) xs h _ hk,yP];rw[show (2:Nat) ^ (8*(k % 4))=256 ^ (k % 4) from by rw[Nat.pow_mul]];generalize val (2 ^ 32) xs=N
 have e:N / 256 ^ k=N / 256 ^ (4*(k / 4)) / 256 ^ (k % 4):=by
  rw[Nat.div_div_eq_div_mul,<-Nat.pow_add];congr 2;omega
 rw[e];generalize N / 256 ^ (4*(k / 4))=M;have h3:k % 4=0∨k % 4=1∨k % 4=2∨k % 4=3:=by omega
 rcases h3 with h|h|h|h<;>rw[h]<;>omega
def aC (n:Nat):ByteArray:=⟨(nb n).toArray⟩
def ak (s:ByteArray):Nat:=vb s.data.toList
theorem aS (n:Nat):ak (aC n)=n:=by simp[ak,aC,qO]
theorem fE (s:ByteArray):ak s<256 ^ s.size:=by have:=qN s.data.toList;simpa [ak] using this
theorem Jl (a b N:Nat):be (a+b) N=be a (N / 256 ^ b)++be b N:=by
 induction a with
 |zero=>simp[be]
 |succ a ih=>
  rw[show a+1+b=(a+b)+1 from by omega,be,ih,be,Nat.div_div_eq_div_mul,<-Nat.pow_add,Nat.add_comm b a];rfl
theorem aeT (b N:Nat):be b (N % 256 ^ b)=be b N:=by
 suffices H:∀c,c<=b->be c (N % 256 ^ b)=be c N from H b (Nat.le_refl _)
 intro c hc
 induction c with
 |zero=>rfl
 |succ c ih=>
  rw[be,be,ih (by omega)];congr 2
  have e:256 ^ b=256 ^ c*(256*256 ^ (b-c-1)):=by
   rw[show (256:Nat)*256 ^ (b-c-1)=256 ^ (b-c) from by rw[Nat.mul_comm,<-Nat.pow_succ];congr 1;omega,<-Nat.pow_add];congr 1;omega
  rw[e,Nat.mod_mul_right_div_self,Nat.mod_mul_right_mod]
theorem ZW (j x M:Nat) (hx:x<16777216):be (3*j+3) (x+16777216*M)=be (3*j) M++[UInt8.ofNat (x / 65536 % 256),UInt8.ofNat (x / 256 % 256),UInt8.ofNat (x % 256)]:=by
 rw[Jl,show (x+16777216*M) / 256 ^ 3=M from by omega,<-aeT 3,show (x+16777216*M) % 256 ^ 3=x from by omega];simp[be]
end Go.Proofs.YtjpbmbgincdjaaaGreatDoor
