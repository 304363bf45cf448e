/- A part of the proof: Mem. -/
import Derived.WalkKit
import Derived.WalkSpells
import Derived.WalkLawsBesides
import Derived.Deep.Draws
import Derived.Lib.Hide
import Derived.Deep.OwnRows
import Derived.Deep.QuietTactic
import Derived.BigQuiet
import Derived.StillTailTactics
import Derived.Deep.RegionHeld3
set_option linter.unusedVariables false
set_option linter.unusedSimpArgs false
namespace Go.Proofs.YtfajelpcfnfjkaaGreatDoor
open Go.RowKit
def Rd (w:World) (A:Option Addr) (cs:List Value):Prop:=
 cs=[]∨∃b off,A=some ⟨b,off,none⟩∧b<w.heap.size∧∀i (h:i<cs.length),w.cell? ⟨b,off+i,none⟩=some cs[i]
theorem Rd.nil (w:World) (A:Option Addr):Rd w A []:=.inl rfl
theorem Rd.at_ {w:World} {A:Option Addr} {cs:List Value} (h:Rd w A cs) {k:Nat} (hk:k<cs.length):
  ∃b off,A=some ⟨b,off,none⟩∧b<w.heap.size∧∀i (h:i<cs.length),w.cell? ⟨b,off+i,none⟩=some cs[i]:=by
 rcases h with rfl|h
 ·simp at hk
 ·exact h
theorem Rd.keep {w w':World} {A:Option Addr} {cs:List Value} (h:Rd w A cs) (hs:w.heap.size≤w'.heap.size)
  (hk:∀p:Addr,p.block<w.heap.size→w'.cell? p=w.cell? p):Rd w' A cs:=by
 rcases h with rfl|⟨b,off,rfl,hb,hc⟩
 ·exact .inl rfl
 ·exact .inr ⟨b,off,rfl,by omega,fun i hi=>by rw[hk _ hb];exact hc i hi⟩
theorem Rd.below {w w':World} {A:Option Addr} {cs:List Value} (h:Rd w A cs) (hb:Below w.heap.size w w'):Rd w' A cs:=
 h.keep hb.size fun _ hp=>hb.cell hp
theorem Rd.take {w:World} {A:Option Addr} {cs:List Value} (h:Rd w A cs) (n:Nat):Rd w A (cs.take n):=by
 rcases h with rfl|⟨b,off,rfl,hb,hc⟩
 ·simp[Rd]
 ·refine .inr ⟨b,off,rfl,hb,fun i hi=>?_⟩;rw[List.length_take] at hi;rw[hc i (by omega),List.getElem_take]
def U (xs:List Nat):List Value:=xs.map fun n:Nat=>.int .u32 (n:Int)
theorem U_length (xs:List Nat):(U xs).length=xs.length:=by simp[U]
theorem U_get (xs:List Nat) (i:Nat) (h:i<(U xs).length):(U xs)[i]=.int .u32 (xs.getD i 0:Nat):=by
 simp only[U,List.getElem_map]
 rw[List.getD_eq_getElem?_getD,List.getElem?_eq_getElem (by simpa [U] using h)];rfl
theorem U_take (xs:List Nat) (n:Nat):(U xs).take n=U (xs.take n):=by simp[U,List.map_take]
theorem Rd.u {w:World} {A:Option Addr} {xs:List Nat} (h:Rd w A (U xs)) {k:Nat} (hk:k<xs.length):
  ∃b off,A=some ⟨b,off,none⟩∧b<w.heap.size∧w.cell? ⟨b,off+k,none⟩=some (.int .u32 (xs.getD k 0:Nat)):=by
 obtain⟨b,off,e,hb,hc⟩:=h.at_ (k:=k) (by rw[U_length];exact hk);refine⟨b,off,e,hb,?_⟩;rw[hc k (by rw[U_length];exact hk),U_get]
def Blk (w:World) (b:Nat) (t:TypeId) (cs:List Value):Prop:=w.heap[b]?=some (.cells cs.toArray t (0,0))
section
variable {w w':World} {b:Nat} {t:TypeId} {cs:List Value}
theorem Blk.lt (h:Blk w b t cs):b<w.heap.size:=by
 rcases Nat.lt_or_ge b w.heap.size with hlt|hge
 ·exact hlt
 ·unfold Blk at h;rw[Array.getElem?_eq_none hge] at h;cases h
theorem Blk.cell (h:Blk w b t cs) {i:Nat} (hi:i<cs.length):w.cell? ⟨b,i,none⟩=some cs[i]:=by
 unfold Blk at h;simp[World.cell?,h,hi]
theorem Blk.frozen (h:Blk w b t cs) (i:Nat):w.frozen? ⟨b,i,none⟩=false:=by
 unfold Blk at h;simp[World.frozen?,h]
theorem Blk.of_block (h:Blk w b t cs) (e:w'.heap[b]?=w.heap[b]?):Blk w' b t cs:=e.trans h
theorem Blk.below {B:Nat} (h:Blk w b t cs) (hb:Below B w w') (hg:b<B):Blk w' b t cs:=(hb.block b hg).trans h
theorem Blk.drew (h:Blk w b t cs):Blk w.drew b t cs:=h
theorem Blk.drewN (h:Blk w b t cs) (n:Nat):Blk (w.drewN n) b t cs:=h
theorem Blk.alloc (h:Blk w b t cs) (o:Obj):Blk (w.alloc o) b t cs:=(Below.heap_alloc w o b h.lt).trans h
theorem Blk.set (h:Blk w b t cs) (i:Nat) (u:Value):Blk (w.setCell ⟨b,i,none⟩ u) b t (cs.set i u):=by
 unfold Blk at h⊢;simp[World.setCell,Array.getElem?_modify,h]
theorem Blk.other (h:Blk w b t cs) {p:Addr} (hp:b≠p.block) (u:Value):Blk (w.setCell p u) b t cs:=(Below.heap_setCell w p u b hp).trans h
theorem Blk.new (w:World) (t:TypeId) (cs:Array Value):Blk (w.alloc (.cells cs t)) w.heap.size t cs.toList:=by
 unfold Blk World.alloc;simp
theorem Blk.rd (h:Blk w b t cs):Rd w (some ⟨b,0,none⟩) cs:=.inr ⟨b,0,rfl,h.lt,fun i hi=>by rw[Nat.zero_add];exact h.cell hi⟩
end
theorem below_drewN {B:Nat} {a w:World} (h:Below B a w) (n:Nat):Below B a (w.drewN n):=⟨h.os,h.tape,h.output,h.size,h.block⟩
theorem drewN_below (B:Nat) (w:World) (n:Nat):Below B w (w.drewN n):=below_drewN (Below.refl _ _) n
section
variable {P:Program}
theorem wpList_make_blk (w:World) {ops:Array Oper} {rest:List Oper} {o:Oper} {a:Act} {Q:Exit→Act→World→Prop}
  (hg:o.guard=none) (l c:Operand) (t:TypeId) (hop:o.op=Op.makeSlice t l c)
  (e:TypeId) (z:Value) (bytes:Nat) (ht:P.underlying t=some (.slice e)) (hinfo:(P.info? e).map (fun i=>(i.zero,i.size,i.bytes))=some (some z,1,bytes)) (hz1:z.cells=#[z])
  (kl kc:IntKind) (N M:Int) (n:Nat) (hl:a.eval l=.int kl N) (hc:a.eval c=.int kc M) (hN:N=n) (hM:M=n) (hbytes:bytes*n≤281474976710656) (h63:n≤9223372036854775807)
  (hK:∀w',Blk w' w.heap.size e (List.replicate n z)→Below w.heap.size w w'→wpList P ops Q rest (a.put o.dst (.slice (some ⟨w.heap.size,0,none⟩) n n)) w'):
  wpList P ops Q (o::rest) a w:=by
 subst hN hM;refine wpList_plain hg fun K hK'=>?_
 have hrun:=run_make_row' (P:=P) t e z bytes ht hinfo hz1 kl kc n hbytes h63 w;unfold Oper.wp;simp[execOp,hop,hl,hc,hrun,Result.andThen];refine hK' _ _ (hK _ ?_ ((Below.refl _ _).alloc (Nat.le_refl _) _));have:=Blk.new w e (madeCells #[z] n);rwa[toList_madeCells_one] at this
end
structure Onl (G:Nat) (w w':World):Prop where
 os:w'.os=w.os
 tape:w'.tape=w.tape
 output:w'.output=w.output
 size:w.heap.size≤w'.heap.size
 block:∀k,k<w.heap.size→k≠G→w'.heap[k]?=w.heap[k]?
section
variable {G:Nat} {a w w':World}
theorem Onl.refl (G:Nat) (w:World):Onl G w w:=⟨rfl,rfl,rfl,Nat.le_refl _,fun _ _ _=>rfl⟩
theorem Onl.drew (h:Onl G a w):Onl G a w.drew:=⟨h.os,h.tape,h.output,h.size,h.block⟩
theorem Onl.drewN (h:Onl G a w) (n:Nat):Onl G a (w.drewN n):=⟨h.os,h.tape,h.output,h.size,h.block⟩
theorem Onl.set (h:Onl G a w) (i:Nat) (u:Value):Onl G a (w.setCell ⟨G,i,none⟩ u):=
 ⟨h.os,h.tape,h.output,by simpa [World.setCell] using h.size,fun k hk hne=>(Below.heap_setCell w _ u k hne).trans (h.block k hk hne)⟩
theorem Onl.trans {c:World} (h:Onl G a w) (k:Onl G w c):Onl G a c:=
 ⟨k.os.trans h.os,k.tape.trans h.tape,k.output.trans h.output,Nat.le_trans h.size k.size,fun i hi hne=>(k.block i (Nat.lt_of_lt_of_le hi h.size) hne).trans (h.block i hi hne)⟩
theorem Onl.of_below (h:Below a.heap.size a w):Onl G a w:=⟨h.os,h.tape,h.output,h.size,fun k hk _=>h.block k hk⟩
theorem Onl.below {B:Nat} (h:Onl G w w') (hG:B≤G) (hB:B≤w.heap.size):Below B w w':=⟨h.os,h.tape,h.output,h.size,fun k hk=>h.block k (by omega) (by omega)⟩
theorem Onl.blk {b:Nat} {t:TypeId} {cs:List Value} (h:Onl G w w') (hb:Blk w b t cs) (hne:b≠G):Blk w' b t cs:=hb.of_block (h.block b hb.lt hne)
theorem Onl.rd {b off:Nat} {cs:List Value} (h:Onl G w w') (hr:Rd w (some ⟨b,off,none⟩) cs) (hne:b≠G):Rd w' (some ⟨b,off,none⟩) cs:=by
 rcases hr with rfl|⟨b',off',e,hb,hc⟩
 ·exact .inl rfl
 ·injection e with e;injection e with e1 e2;subst e1 e2;exact .inr ⟨b,off,rfl,by have:=h.size;omega,fun i hi=>by rw[World.cell?_of_block (w:=w) (h.block b hb hne)];exact hc i hi⟩
end
section
variable {P:Program}
theorem wpList_push (W:World) (news:Array Value) {ops:Array Oper} {rest:List Oper} {o:Oper} {a:Act} {Q:Exit→Act→World→Prop} (hgd:o.guard=none) (s x:Operand) (t:TypeId)
  (ho:o.op=.call {callee:=.builtin .append,args:=#[s,x],argTypes:=#[t,t]})
  (base:Nat) (e:TypeId) (z:Value) (size bytes m:Nat) (ht:P.underlying t=some (.slice e)) (hinfo:(P.info? e).map (fun i=>(i.zero,i.size,i.bytes))=some (some z,size,bytes)) (hzs:z.cells.size=size) (hsz:0<size)
  (v:Value) (n:Nat) (xs:List Value) (hs:a.eval s=v) (hown:W.ownsRow base e size v n xs)
  (hx:a.eval x=.slice (some ⟨W.heap.size,0,none⟩) m m) (hl:news.size=m*size) (h1:∀u∈news.toList,u.oneCell'=true)
  (h63:n+m≤maxLen) (hbytes:(n+m)*bytes≤140737488355328) (hbase:base≤W.heap.size)
  (h:∀v' w',w'.ownsRow base e size v' (n+m) (xs++news.toList)→Below base W w'→wpList P ops Q rest (a.put o.dst v') w'):
  wpList P ops Q (o::rest) a (W.alloc (.cells news e)):=by
 obtain⟨i,hi,hzz⟩:=Option.map_eq_some_iff.1 hinfo;simp only[Prod.mk.injEq] at hzz;obtain⟨hz,hs1,hb⟩:=hzz;refine wpList_append_own (w:=W.alloc (.cells news e)) hgd s x t ho base e i z size bytes ht hi hz hs1 hb hzs hsz v n xs hs (hown.alloc _) ⟨W.heap.size,0,none⟩ m m news.toList hx (by simpa using hl) ?_ h1 h63 hbytes (by simp;omega) ?_
 ·intro j u hj;have hb:=Blk.new W e news;have hj':j<news.toList.length:=(List.getElem?_eq_some_iff.1 hj).1;have:=hb.cell hj';rw[show Addr.add ⟨W.heap.size,0,none⟩ j=⟨W.heap.size,j,none⟩ from by unfold Addr.add;split<;>simp_all,this,←(List.getElem?_eq_some_iff.1 hj).2]
 ·intro v' w' hown' hg _;refine h v' w' hown' ?_;have hb1:Below base W (W.alloc (.cells news e)):=(Below.refl _ _).alloc hbase _;exact hb1.grown hg (by simp;omega) (fun k hk=>(hown.lt k hk).1)
end
theorem own_rd {w:World} {base:Nat} {e:TypeId} {size:Nat} {v:Value} {n:Nat} {xs:List Value} (h:w.ownsRow base e size v n xs):
  ∃A cap,v=.slice A n cap∧n≤cap∧cap≤maxLen∧Rd w A xs∧xs.length=n*size:=by
 have h0:=h;rcases h.2 with⟨rfl,rfl⟩|⟨g,cap,cur,rfl,hb,hh,hn,hm,hs,ht⟩
 ·have:xs=[]:=List.eq_nil_of_length_eq_zero (by simpa using h.1);subst this;exact⟨none,0,rfl,Nat.le_refl _,by unfold maxLen;omega,.inl rfl,by simp⟩
 ·refine⟨some ⟨g,0,none⟩,cap,rfl,hn,hm,?_,h.1⟩;rcases Nat.eq_zero_or_pos xs.length with hx|hx
  ·exact .inl (List.eq_nil_of_length_eq_zero hx)
  ·refine .inr ⟨g,0,rfl,(h0.lt g rfl).2,fun i hi=>?_⟩;have:=h0.cells (g:=g) rfl i _ (List.getElem?_eq_getElem hi);rwa[show Addr.add ⟨g,0,none⟩ i=⟨g,0+i,none⟩ from by unfold Addr.add;split<;>simp_all] at this
end Go.Proofs.YtfajelpcfnfjkaaGreatDoor
