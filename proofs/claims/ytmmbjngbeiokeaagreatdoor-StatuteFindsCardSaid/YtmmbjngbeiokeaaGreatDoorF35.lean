/- A part of the proof: We Wb Wc Wa Wg. -/
import Derived.Test.YtmmbjngbeiokeaaGreatDoorF01
import Derived.Test.YtmmbjngbeiokeaaGreatDoorF32
import Derived.Test.YtmmbjngbeiokeaaGreatDoorF34
set_option linter.unusedVariables false
set_option linter.unusedSimpArgs false
set_option maxRecDepth 100000
set_option maxHeartbeats 40000000
namespace Go.Proofs.YtmmbjngbeiokeaaGreatDoor
open Go.RowKit
def six:List ByteArray:=[⟨#[98,97,115,101]⟩,⟨#[99,114,101,100,105,116]⟩,⟨#[114,101,108,105,101,102]⟩,⟨#[116,97,120]⟩,⟨#[116,104,114,101,115,104,111,108,100]⟩,⟨#[116,111,116,97,108]⟩]
theorem six_nodup:six.Nodup:=by decide
structure Pk (i:Nat) (ps:List (Pv × Hd)):Prop where
 nm:(ps.map fun x=>x.1.name).Sublist (six.take i)
 ty:∀x∈ps,x.1.ty.truth=true∨(x.1.ty.money=1∧x.1.ty.days=0)
 ne:4≤i→ps≠[]
theorem Pk.len {i:Nat} {ps:List (Pv × Hd)} (h:Pk i ps):ps.length≤6:=by
 have h1:=h.nm.length_le;rw[List.length_map,List.length_take] at h1;have:six.length=6:=rfl;omega
theorem Pk.push {i:Nat} {ps:List (Pv × Hd)} (h:Pk i ps) (hi:i<six.length) (x:Pv × Hd) (hn:x.1.name=six[i]) (ht:x.1.ty.truth=true∨(x.1.ty.money=1∧x.1.ty.days=0)):Pk (i+1) (ps++[x]):=by
 refine⟨?_,fun y hy=>?_,fun _=>by simp⟩
 ·rw[List.map_append,List.take_succ_eq_append_getElem hi,List.map_cons,List.map_nil,hn];exact h.nm.append (List.Sublist.refl _)
 ·rcases List.mem_append.1 hy with hy|hy
  ·exact h.ty y hy
  ·rw[List.mem_singleton.1 hy];exact ht
theorem Pk.skip {i:Nat} {ps:List (Pv × Hd)} (h:Pk i ps) (hi:i<six.length) (h3:¬i=3):Pk (i+1) ps:=by
 refine⟨?_,h.ty,fun h4=>h.ne (by omega)⟩;rw[List.take_succ_eq_append_getElem hi];exact h.nm.trans (List.sublist_append_left _ _)
theorem Pk.set {i:Nat} {ps:List (Pv × Hd)} (h:Pk i ps) (k:Nat) (hk:k<ps.length) (x:Pv × Hd) (hn:x.1.name=ps[k].1.name) (ht:x.1.ty=ps[k].1.ty):Pk i (ps.set k x):=by
 refine⟨?_,fun y hy=>?_,fun h4 h0=>h.ne h4 (by simpa using congrArg List.length h0)⟩
 ·have e:(ps.set k x).map (fun x=>x.1.name)=ps.map fun x=>x.1.name:=by
   apply List.ext_getElem?;intro j;rw[List.getElem?_map,List.getElem?_map,List.getElem?_set];by_cases hj:k=j
   ·subst hj;rw[if_pos rfl,if_pos hk,List.getElem?_eq_getElem hk,Option.map_some,Option.map_some,hn]
   ·rw[if_neg hj]
  rw[e];exact h.nm
 ·rcases List.mem_or_eq_of_mem_set hy with hy|rfl
  ·exact h.ty y hy
  ·rw[ht];exact h.ty _ (List.getElem_mem hk)
theorem own_kp {W W':World} {B s n:Nat} {e:TypeId} {v:Value} {xs:List Value} (h:W.ownsRow B e s v n xs) (hk:∀k,v.ownBlock=some k→B≤k→W'.heap[k]?=W.heap[k]?):W'.ownsRow B e s v n xs:=by
 refine⟨h.1,h.2.imp id ?_⟩;rintro⟨g,cap,cur,h1,h2,h3,h4⟩;exact⟨g,cap,cur,h1,h2,(hk g (by rw[h1];rfl) h2).trans h3,h4⟩
theorem own_setT {W:World} {L B s n:Nat} {t e:TypeId} {cs:List Value} {v:Value} {xs:List Value} (hb:Blk W L t cs) (ho:W.ownsRow B e s v n xs) (he:e≠t) (i:Nat) (u:Value):(W.setCell ⟨L,i,none⟩ u).ownsRow B e s v n xs:=(TF.set (e:=e) hb i u).own ho he
structure MZ (w0 W:World) (D M L N U:Nat) (fs:List Dc) (ss:List (Sc × Hd)) (ps:List (Pv × Hd)) (fv sv pv:Value):Prop where
 ds:DS W D (D+1)
 r:Blk W w0.heap.size 28 [.slice none 0 0,.slice none 0 0,.slice none 0 0]
 m:Blk W M 35 [.bool false,.int .i64 1,.int .i64 0]
 b:Blk W L 28 [fv,sv,pv]
 f:W.ownsRow (M+1) 52 4 fv fs.length (fs.flatMap Dc.cells)
 s:W.ownsRow (M+1) 79 4 sv ss.length (ss.flatMap scCells)
 p:W.ownsRow (M+1) 41 12 pv ps.length (ps.flatMap pvCells)
 n:N≠0→Blk W N 95 (six.map Value.string)
 on:Below w0.heap.size w0 W
 hD:w0.heap.size<D
 hM:D<M
 hL:M<L
 hN:N≠0→L<N
 hU:L<U
 hNU:N<U
 hW:U≤W.heap.size
 u:∀k,fv.ownBlock=some k∨sv.ownBlock=some k∨pv.ownBlock=some k→k<U
section
variable {w0 W W':World} {D M L N U:Nat} {fs:List Dc} {ss:List (Sc × Hd)} {ps:List (Pv × Hd)} {fv sv pv:Value}
theorem MZ.keep (h:MZ w0 W D M L N U fs ss ps fv sv pv) (hd:DS W' D (D+1)) (h1:W'.os=W.os) (h2:W'.tape=W.tape) (h3:W'.output=W.output) (h4:W.heap.size≤W'.heap.size) (hk:∀k,k<U→k≠D→W'.heap[k]?=W.heap[k]?):MZ w0 W' D M L N U fs ss ps fv sv pv:=by
 have q1:=h.hD;have q2:=h.hM;have q3:=h.hL;have q4:=h.hU
 refine⟨hd,h.r.of_block (hk _ (by omega) (by omega)),h.m.of_block (hk _ (by omega) (by omega)),h.b.of_block (hk _ (by omega) (by omega)),
  own_kp h.f (fun k e he=>hk k (h.u k (.inl e)) (by omega)),own_kp h.s (fun k e he=>hk k (h.u k (.inr (.inl e))) (by omega)),own_kp h.p (fun k e he=>hk k (h.u k (.inr (.inr e))) (by omega)),
  fun hn=>(h.n hn).of_block (hk _ h.hNU (by have:=h.hN hn;omega)),⟨h1.trans h.on.os,h2.trans h.on.tape,h3.trans h.on.output,Nat.le_trans h.on.size h4,fun k hk'=>(hk k (by omega) (by omega)).trans (h.on.block k hk')⟩,
  h.hD,h.hM,h.hL,h.hN,h.hU,h.hNU,Nat.le_trans h.hW h4,h.u⟩
theorem MZ.onl (h:MZ w0 W D M L N U fs ss ps fv sv pv) (hd:DS W' D (D+1)) (ho:Onl D W W'):MZ w0 W' D M L N U fs ss ps fv sv pv:=
 h.keep hd ho.os ho.tape ho.output ho.size (fun k hk hn=>ho.block k (by have:=h.hW;omega) hn)
theorem MZ.low (h:MZ w0 W D M L N U fs ss ps fv sv pv) (hb:Below U W W'):MZ w0 W' D M L N U fs ss ps fv sv pv:=
 h.keep (h.ds.belowU hb (by have:=h.hM;have:=h.hL;have:=h.hU;omega)) hb.os hb.tape hb.output hb.size (fun k hk _=>hb.block k hk)
theorem MZ.below (h:MZ w0 W D M L N U fs ss ps fv sv pv) (hb:Below W.heap.size W W'):MZ w0 W' D M L N U fs ss ps fv sv pv:=h.low (hb.mono h.hW)
theorem MZ.up (h:MZ w0 W D M L N U fs ss ps fv sv pv):MZ w0 W D M L N W.heap.size fs ss ps fv sv pv:=
 {h with hU:=by have:=h.hU;have:=h.hW;omega,hNU:=by have:=h.hNU;have:=h.hW;omega,hW:=Nat.le_refl _,u:=fun k hk=>Nat.lt_of_lt_of_le (h.u k hk) h.hW}
theorem MZ.dsL (h:MZ w0 W D M L N U fs ss ps fv sv pv) (hb:Below (M+1) W W') (i:Nat) (v:Value):DS (W'.setCell ⟨L,i,none⟩ v) D (D+1):=
 (h.ds.belowU hb (by have:=h.hM;omega)).set (by have:=h.hM;have:=h.hL;omega) i v
theorem MZ.onL (h:MZ w0 W D M L N U fs ss ps fv sv pv) (hb:Below (M+1) W W') (i:Nat) (v:Value):Below w0.heap.size w0 (W'.setCell ⟨L,i,none⟩ v):=
 (h.on.trans (hb.mono (by have:=h.hD;have:=h.hM;omega))).setCell (p:=⟨L,i,none⟩) (by have:=h.hD;have:=h.hM;have:=h.hL;show _≤L;omega) v
theorem MZ.bM (h:MZ w0 W D M L N U fs ss ps fv sv pv) {e:TypeId} {z n:Nat} {v:Value} {xs:List Value} (ho:W.ownsRow (M+1) e z v n xs) (hg:W.grownBy W' v.ownBlock):Below (M+1) W W':=
 (Below.refl _ _).grown hg (by have:=h.hL;have:=h.hU;have:=h.hW;omega) (fun k hk=>(ho.lt k hk).1)
theorem MZ.pushF (h:MZ w0 W D M L N U fs ss ps fv sv pv) {v':Value} (d:Dc) (ho:W'.ownsRow (M+1) 52 4 v' (fs.length+1) (fs.flatMap Dc.cells++d.cells)) (hg:W.grownBy W' fv.ownBlock):
  MZ w0 (W'.setCell ⟨L,0,none⟩ v') D M L N W'.heap.size (fs++[d]) ss ps v' sv pv:=by
 have q1:=h.hD;have q2:=h.hM;have q3:=h.hL;have q4:=h.hU;have q5:=h.hW;have q6:=hg.size;have q7:=h.hNU;have ht:=TF.grown h.f hg;have hb:=h.bM h.f hg;have hB:=ht.blk h.b (by decide)
 refine⟨h.dsL hb 0 v',(ht.blk h.r (by decide)).other (by show _≠L;omega) _,(ht.blk h.m (by decide)).other (by show _≠L;omega) _,hB.set 0 v',?_,own_setT hB (ht.own h.s (by decide)) (by decide) 0 _,own_setT hB (ht.own h.p (by decide)) (by decide) 0 _,
  fun hn=>(ht.blk (h.n hn) (by decide)).other (by have:=h.hN hn;show _≠L;omega) _,h.onL hb 0 v',q1,q2,q3,h.hN,by omega,by omega,by simp[World.setCell],fun k hk=>?_⟩
 ·have k:=own_setT hB ho (by decide) 0 v';simpa [List.length_append,List.flatMap_append] using k
 ·rcases hk with hk|hk
  ·exact (ho.lt k hk).2
  ·have:=h.u k (.inr hk);omega
theorem MZ.pushS (h:MZ w0 W D M L N U fs ss ps fv sv pv) {v':Value} (x:Sc × Hd) (ho:W'.ownsRow (M+1) 79 4 v' (ss.length+1) (ss.flatMap scCells++scCells x)) (hg:W.grownBy W' sv.ownBlock):
  MZ w0 (W'.setCell ⟨L,1,none⟩ v') D M L N W'.heap.size fs (ss++[x]) ps fv v' pv:=by
 have q1:=h.hD;have q2:=h.hM;have q3:=h.hL;have q4:=h.hU;have q5:=h.hW;have q6:=hg.size;have q7:=h.hNU;have ht:=TF.grown h.s hg;have hb:=h.bM h.s hg;have hB:=ht.blk h.b (by decide)
 refine⟨h.dsL hb 1 v',(ht.blk h.r (by decide)).other (by show _≠L;omega) _,(ht.blk h.m (by decide)).other (by show _≠L;omega) _,hB.set 1 v',own_setT hB (ht.own h.f (by decide)) (by decide) 1 _,?_,own_setT hB (ht.own h.p (by decide)) (by decide) 1 _,
  fun hn=>(ht.blk (h.n hn) (by decide)).other (by have:=h.hN hn;show _≠L;omega) _,h.onL hb 1 v',q1,q2,q3,h.hN,by omega,by omega,by simp[World.setCell],fun k hk=>?_⟩
 ·have k:=own_setT hB ho (by decide) 1 v';simpa [List.length_append,List.flatMap_append] using k
 ·rcases hk with hk|hk|hk
  ·have:=h.u k (.inl hk);omega
  ·exact (ho.lt k hk).2
  ·have:=h.u k (.inr (.inr hk));omega
theorem MZ.pushP (h:MZ w0 W D M L N U fs ss ps fv sv pv) {v':Value} (x:Pv × Hd) (ho:W'.ownsRow (M+1) 41 12 v' (ps.length+1) (ps.flatMap pvCells++pvCells x)) (hg:W.grownBy W' pv.ownBlock):
  MZ w0 (W'.setCell ⟨L,2,none⟩ v') D M L N W'.heap.size fs ss (ps++[x]) fv sv v':=by
 have q1:=h.hD;have q2:=h.hM;have q3:=h.hL;have q4:=h.hU;have q5:=h.hW;have q6:=hg.size;have q7:=h.hNU;have ht:=TF.grown h.p hg;have hb:=h.bM h.p hg;have hB:=ht.blk h.b (by decide)
 refine⟨h.dsL hb 2 v',(ht.blk h.r (by decide)).other (by show _≠L;omega) _,(ht.blk h.m (by decide)).other (by show _≠L;omega) _,hB.set 2 v',own_setT hB (ht.own h.f (by decide)) (by decide) 2 _,own_setT hB (ht.own h.s (by decide)) (by decide) 2 _,?_,
  fun hn=>(ht.blk (h.n hn) (by decide)).other (by have:=h.hN hn;show _≠L;omega) _,h.onL hb 2 v',q1,q2,q3,h.hN,by omega,by omega,by simp[World.setCell],fun k hk=>?_⟩
 ·have k:=own_setT hB ho (by decide) 2 v';simpa [List.length_append,List.flatMap_append] using k
 ·rcases hk with hk|hk|hk
  ·have:=h.u k (.inl hk);omega
  ·have:=h.u k (.inr (.inl hk));omega
  ·exact (ho.lt k hk).2
theorem MZ.setS (h:MZ w0 W D M L N U fs ss ps fv sv pv) (x:Sc × Hd):
  MZ w0 ((W.alloc (.cells (scCells x).toArray 79)).setCell ⟨L,1,none⟩ (.slice (some ⟨W.heap.size,0,none⟩) 1 1)) D M L N (W.heap.size+1) fs [x] ps fv (.slice (some ⟨W.heap.size,0,none⟩) 1 1) pv:=by
 have q1:=h.hD;have q2:=h.hM;have q3:=h.hL;have q4:=h.hU;have q5:=h.hW;have q7:=h.hNU;have k:=h.below (zB W (.cells (scCells x).toArray 79));have hb:=(Below.refl (M+1) W).alloc (by omega) (.cells (scCells x).toArray 79);have ho:=own_new W (scCells x).toArray 79 4 1 (M+1) rfl (by omega) (by omega)
 refine⟨h.dsL hb 1 _,k.r.other (by show _≠L;omega) _,k.m.other (by show _≠L;omega) _,k.b.set 1 _,own_setT k.b k.f (by decide) 1 _,?_,own_setT k.b k.p (by decide) 1 _,
  fun hn=>(k.n hn).other (by have:=h.hN hn;show _≠L;omega) _,h.onL hb 1 _,q1,q2,q3,h.hN,by omega,by omega,by simp[World.setCell],fun k hk=>?_⟩
 ·have j:=own_setT k.b ho (by decide) 1 (.slice (some ⟨W.heap.size,0,none⟩) 1 1);simpa using j
 ·rcases hk with hk|hk|hk
  ·have:=h.u k (.inl hk);omega
  ·have hk:some W.heap.size=some k:=hk;injection hk with hk;omega
  ·have:=h.u k (.inr (.inr hk));omega
end
def putW (xs:List Value) (o:Nat):List Value→List Value
 |[]=>xs
 |v::vs=>putW (xs.set o v) (o+1) vs
theorem putW_own {base:Nat} {e:TypeId} {size g n cap:Nat} (vs:List Value):∀(w:World) (xs:List Value) (o:Nat),w.ownsRow base e size (.slice (some ⟨g,0,none⟩) n cap) n xs→
  (w.setCells g o vs).ownsRow base e size (.slice (some ⟨g,0,none⟩) n cap) n (putW xs o vs):=by
 induction vs with
 |nil=>intro w xs o h;exact h
 |cons v vs ih=>intro w xs o h;exact ih _ _ _ (h.stored o v).1
theorem putW_onl {g:Nat} {w:World} (vs:List Value):∀(w':World) (o:Nat),Onl g w w'→Onl g w (w'.setCells g o vs):=by
 induction vs with
 |nil=>intro w' o h;exact h
 |cons v vs ih=>intro w' o h;exact ih _ _ (h.set o v)
theorem putW_head (vs:List Value):∀(xs ys:List Value) (o:Nat),o+vs.length≤xs.length→putW (xs++ys) o vs=putW xs o vs++ys:=by
 induction vs with
 |nil=>intro xs ys o _;rfl
 |cons v vs ih=>
  intro xs ys o h;simp only[List.length_cons] at h;show putW ((xs++ys).set o v) (o+1) vs=putW (xs.set o v) (o+1) vs++ys;rw[List.set_append_left _ _ (by omega),ih _ _ _ (by rw[List.length_set];omega)]
theorem putW_tail (vs:List Value):∀(xs ys:List Value) (o:Nat),putW (xs++ys) (xs.length+o) vs=xs++putW ys o vs:=by
 induction vs with
 |nil=>intro xs ys o;rfl
 |cons v vs ih=>
  intro xs ys o;show putW ((xs++ys).set (xs.length+o) v) (xs.length+o+1) vs=xs++putW (ys.set o v) (o+1) vs;rw[List.set_append_right _ _ (by omega),Nat.add_sub_cancel_left,Nat.add_assoc,ih]
theorem putW_row (x':Pv × Hd) (o:Nat) (vs:List Value) (ho:o+vs.length≤12):∀(ps:List (Pv × Hd)) (k:Nat) (hk:k<ps.length),putW (pvCells ps[k]) o vs=pvCells x'→putW (ps.flatMap pvCells) (k*12+o) vs=(ps.set k x').flatMap pvCells:=by
 intro ps
 induction ps with
 |nil=>intro k hk;simp at hk
 |cons p ps ih=>
  intro k hk h;cases k with
  |zero=>
   rw[List.flatMap_cons,List.set_cons_zero,List.flatMap_cons,Nat.zero_mul,Nat.zero_add,putW_head _ _ _ _ (by show _≤12;omega)];exact congrArg (·++_) h
  |succ k=>
   have e:(k+1)*12+o=(pvCells p).length+(k*12+o):=by show _=12+_;omega
   rw[List.flatMap_cons,List.set_cons_succ,List.flatMap_cons,e,putW_tail,ih k (by simpa using hk) h]
theorem MZ.put {w0 W:World} {D M L N U:Nat} {fs:List Dc} {ss:List (Sc × Hd)} {ps:List (Pv × Hd)} {fv sv:Value} {g c:Nat} (h:MZ w0 W D M L N U fs ss ps fv sv (.slice (some ⟨g,0,none⟩) ps.length c)) (k:Nat) (hk:k<ps.length) (x:Pv × Hd) (o:Nat) (vs:List Value) (ho:o+vs.length≤12) (hx:putW (pvCells ps[k]) o vs=pvCells x):
  MZ w0 (W.setCells g (k*12+o) vs) D M L N U fs ss (ps.set k x) fv sv (.slice (some ⟨g,0,none⟩) ps.length c):=by
 have q1:=h.hD;have q2:=h.hM;have q3:=h.hL;have q4:=h.hU;have q5:=h.hW;have q7:=h.hNU;have hg:=h.p.lt g rfl
 obtain⟨cur,hcur⟩:∃cur,W.heap[g]?=some (Obj.cells cur 41):=by
  rcases h.p.2 with⟨h1,_⟩|⟨g',cap,cur,h1,_,h3,_⟩
  ·cases h1
  ·injection h1 with h1;injection h1 with h1;injection h1 with h1;subst h1;exact⟨cur,h3⟩
 have hne:∀{b:Nat} {t:TypeId} {cs:List Value},Blk W b t cs→t≠41→b≠g:=by
  intro b t cs hb ht e;subst e;have hb:W.heap[b]?=_:=hb;rw[hcur] at hb;injection hb with hb;injection hb with _ hb _;exact ht hb.symm
 have on:Onl g W (W.setCells g (k*12+o) vs):=putW_onl vs W _ (Onl.refl _ _);have ow:=putW_own vs W _ (k*12+o) h.p;rw[putW_row x o vs ho ps k hk hx] at ow
 have ap:∀{e:TypeId} {z n:Nat} {v:Value} {xs:List Value},W.ownsRow (M+1) e z v n xs→e≠41→(W.setCells g (k*12+o) vs).ownsRow (M+1) e z v n xs:=by
  intro e z n v xs hv he;refine own_kp hv (fun j ej hj=>on.block j (hv.lt j ej).2 (fun e2=>?_));subst e2;rcases own_apart hv h.p he with h1|h1
  ·rw[h1] at ej;cases ej
  ·exact h1 ej
 refine⟨h.ds.belowU (on.below hg.1 (by omega)) (by omega),on.blk h.r (hne h.r (by decide)),on.blk h.m (hne h.m (by decide)),on.blk h.b (hne h.b (by decide)),ap h.f (by decide),ap h.s (by decide),by rw[List.length_set];exact ow,
  fun hn=>on.blk (h.n hn) (hne (h.n hn) (by decide)),h.on.trans (on.below (by omega) h.on.size),q1,q2,q3,h.hN,q4,q7,Nat.le_trans q5 on.size,h.u⟩
theorem MZ.first {w0 W X:World} {D M:Nat} (hd:DS W D (D+1)) (hr:Blk W w0.heap.size 28 [.slice none 0 0,.slice none 0 0,.slice none 0 0]) (hm:Blk W M 35 [.bool false,.int .i64 1,.int .i64 0]) (on:Below w0.heap.size w0 W) (hD:w0.heap.size<D) (hM:D<M) (d:Dc)
  (hX:(W.alloc (.cells d.cells.toArray 52)).alloc (.cells #[.slice (some ⟨W.heap.size,0,none⟩) 1 1,.slice none 0 0,.slice none 0 0] 28)=X):
  MZ w0 X D M (W.heap.size+1) 0 (W.heap.size+2) [d] [] [] (.slice (some ⟨W.heap.size,0,none⟩) 1 1) (.slice none 0 0) (.slice none 0 0):=by
 have hM2:=hm.lt;have ho:=(own_new W d.cells.toArray 52 4 1 (M+1) rfl (by omega) (by omega)).alloc (.cells #[.slice (some ⟨W.heap.size,0,none⟩) 1 1,.slice none 0 0,.slice none 0 0] 28);obtain⟨_,hb,hbl,hsz⟩:=kTwo_new W 52 28 d.cells.toArray #[.slice (some ⟨W.heap.size,0,none⟩) 1 1,.slice none 0 0,.slice none 0 0];rw[hX] at ho hb hbl hsz;refine⟨hd.below hbl,hr.below hbl hr.lt,hm.below hbl hm.lt,hb,?_,World.ownsRow_nil _ _ _ _,World.ownsRow_nil _ _ _ _,fun h=>absurd rfl h,bstep on hbl,hD,hM,by omega,fun h=>absurd rfl h,by omega,by omega,by omega,fun k hk=>?_⟩
 ·simpa using ho
 ·rcases hk with hk|hk|hk
  ·have hk:some W.heap.size=some k:=hk;injection hk with hk;omega
  ·cases hk
  ·cases hk
section
variable {w0 W W' X:World} {D M L N U:Nat} {fs:List Dc} {ss:List (Sc × Hd)} {ps:List (Pv × Hd)} {fv sv pv:Value}
theorem MZ.cells (h:MZ w0 W D M L N U fs ss ps fv sv pv):W.cell? ⟨L,0,none⟩=some fv∧W.cell? ⟨L,1,none⟩=some sv∧W.cell? ⟨L,2,none⟩=some pv∧W.cell? ⟨M,0,none⟩=some (.bool false)∧W.cell? ⟨M,1,none⟩=some (.int .i64 1)∧W.cell? ⟨M,2,none⟩=some (.int .i64 0):=
 ⟨h.b.cells 0,h.b.cells 1,h.b.cells 2,h.m.cells 0,h.m.cells 1,h.m.cells 2⟩
theorem MZ.hB (h:MZ w0 W D M L N U fs ss ps fv sv pv):M+1≤W.heap.size:=by have:=h.hL;have:=h.hU;have:=h.hW;omega
theorem MZ.hDu (h:MZ w0 W D M L N U fs ss ps fv sv pv):D+1≤W.heap.size:=h.ds.lt
theorem MZ.next (h:MZ w0 W D M L N U fs ss ps fv sv pv) (q:Int) (h1:1≤q) (h2:q≤1000):Calls Tryz.prog 32 #[.pointer (some ⟨D,0,none⟩),.int .i64 q] W fun e X=>∃r:Nat,(r:Int)<q∧e=.returned (.int .i64 r)∧MZ w0 X D M L N U fs ss ps fv sv pv∧Onl D W X:=
 (next_any W D (D+1) q h.ds h1 (by omega)).mono fun _ _ ⟨r,hr,he,hd,ho⟩=>⟨r,hr,he,h.onl hd ho,ho⟩
theorem MZ.setSX (h:MZ w0 W D M L N U fs ss ps fv sv pv) (x:Sc × Hd) (hX:W.alloc (.cells (scCells x).toArray 79)=X):
  MZ w0 (X.setCell ⟨L,1,none⟩ (.slice (some ⟨W.heap.size,0,none⟩) 1 1)) D M L N (W.heap.size+1) fs [x] ps fv (.slice (some ⟨W.heap.size,0,none⟩) 1 1) pv:=hX ▸ h.setS x
theorem MZ.names (h:MZ w0 W D M L 0 U fs ss ps fv sv pv) (hX:W.alloc (.cells (six.map Value.string).toArray 95)=X):MZ w0 X D M L W.heap.size (W.heap.size+1) fs ss ps fv sv pv:=by
 obtain⟨k,hb⟩:=zA hX;have j:=h.below hb;have:=h.hL;have:=h.hU;have:=h.hW;exact {j with n:=fun _=>k,hN:=fun _=>by omega,hU:=by omega,hNU:=by omega,hW:=k.lt,u:=fun k hk=>by have:=h.u k hk;omega}
theorem MZ.nm (h:MZ w0 W D M L N U fs ss ps fv sv pv) (hN:N≠0) {i:Nat} (hi:i<six.length):W.cell? ⟨N,i,none⟩=some (.string six[i]):=by
 have:=(h.n hN).cells i;rw[this,List.getElem?_map,List.getElem?_eq_getElem hi];rfl
theorem MZ.at (h:MZ w0 W D M L N U fs ss ps fv sv pv) (ho:Onl U W X):MZ w0 X D M L N U fs ss ps fv sv pv:=h.low (ho.below (Nat.le_refl _) h.hW)
theorem Pk.zero:Pk 0 []:=⟨List.nil_sublist _,fun _ h=>(by cases h),fun h=>(by omega)⟩
theorem st_ne {s:ByteArray} {l:List UInt8} (h:¬s=⟨l.toArray⟩):(s.toList==l)=false∧¬s.toList=l:=by
 have h1:¬s.toList=l:=fun e=>h (by subst e;rw[ByteArray.toList_eq])
 exact⟨beq_eq_false_iff_ne.2 h1,h1⟩
def SZ (L M:Nat) (fv sv pv:Value) (W:World):Prop:=Blk W L 28 [fv,sv,pv]∧Blk W M 35 [.bool false,.int .i64 1,.int .i64 0]
theorem MZ.sz (h:MZ w0 W D M L N U fs ss ps fv sv pv):SZ L M fv sv pv W:=⟨h.b,h.m⟩
theorem SZ.tf {t:TypeId} (h:SZ L M fv sv pv W) (ht:TF t W W') (h1:28≠t) (h2:35≠t):SZ L M fv sv pv W':=⟨ht.blk h.1 h1,ht.blk h.2 h2⟩
theorem SZ.cells (h:SZ L M fv sv pv W):W.cell? ⟨L,0,none⟩=some fv∧W.cell? ⟨L,1,none⟩=some sv∧W.cell? ⟨L,2,none⟩=some pv∧W.cell? ⟨M,0,none⟩=some (.bool false)∧W.cell? ⟨M,1,none⟩=some (.int .i64 1)∧W.cell? ⟨M,2,none⟩=some (.int .i64 0):=
 ⟨h.1.cells 0,h.1.cells 1,h.1.cells 2,h.2.cells 0,h.2.cells 1,h.2.cells 2⟩
theorem MZ.rows (h:MZ w0 W D M L N U fs ss ps fv sv pv):∃f s p:Hd,fv=.slice f.a f.n f.c∧sv=.slice s.a s.n s.c∧pv=.slice p.a p.n p.c∧RowAt W Dc.cells fs f∧RowAt W scCells ss s∧RowAt W pvCells ps p:=by
 obtain⟨f,h1,_,h2⟩:=RowAt.of_own h.f rfl;obtain⟨s,h3,_,h4⟩:=RowAt.of_own h.s rfl;obtain⟨p,h5,_,h6⟩:=RowAt.of_own h.p rfl;exact⟨f,s,p,h1,h3,h5,h2,h4,h6⟩
theorem MZ.pnn (h:MZ w0 W D M L N U fs ss ps fv sv pv) (hne:ps≠[]):∃g c,pv=.slice (some ⟨g,0,none⟩) ps.length c:=by
 rcases h.p.2 with⟨_,h2⟩|⟨g,cap,cur,h1,_⟩
 ·exact absurd (List.length_eq_zero_iff.1 h2) hne
 ·exact⟨g,cap,h1⟩
variable {g n c:Nat}
theorem MZ.pc (h:MZ w0 W D M L N U fs ss ps fv sv (.slice (some ⟨g,0,none⟩) n c)) {j:Nat} (hj:j<ps.length):W.cell? ⟨g,j*12,none⟩=some (.string ps[j].1.name)∧W.cell? ⟨g,j*12+1,none⟩=some (.bool ps[j].1.ty.truth)∧W.cell? ⟨g,j*12+2,none⟩=some (.int .i64 ps[j].1.ty.money)∧W.cell? ⟨g,j*12+3,none⟩=some (.int .i64 ps[j].1.ty.days)∧W.cell? ⟨g,j*12+4,none⟩=some (.slice ps[j].2.a ps[j].2.n ps[j].2.c)∧W.cell? ⟨g,j*12+5,none⟩=some (.bool ps[j].1.charge)∧
  W.cell? ⟨g,j*12+6,none⟩=some (.bool ps[j].1.step.neg)∧W.cell? ⟨g,j*12+7,none⟩=some (.string ps[j].1.step.num)∧W.cell? ⟨g,j*12+8,none⟩=some (.string ps[j].1.step.den)∧W.cell? ⟨g,j*12+9,none⟩=some (.bool ps[j].1.cap.neg)∧W.cell? ⟨g,j*12+10,none⟩=some (.string ps[j].1.cap.num)∧W.cell? ⟨g,j*12+11,none⟩=some (.string ps[j].1.cap.den):=by
 obtain⟨p,h5,_,h6⟩:=RowAt.of_own h.p rfl;injection h5 with h1 h2 h3;obtain⟨b,off,p',hA,hb,hx,rfl,hc⟩:=pv_at (A:=p.a) (n:=p.n) (c:=p.c) h6 (by rw[h6.len];exact hj);rw[←h1] at hA;injection hA with hA;injection hA with hA1 hA2;subst hA1 hA2;have:=hc W (Below.refl _ _);simpa only[Nat.zero_add] using this
theorem MZ.pf (h:MZ w0 W D M L N U fs ss ps fv sv (.slice (some ⟨g,0,none⟩) n c)) (i:Nat):W.frozen? ⟨g,i,none⟩=false:=by
 rcases h.p.2 with⟨h1,_⟩|⟨g',cap,cur,h1,_,h3,_⟩
 ·cases h1
 ·injection h1 with h1;injection h1 with h1;injection h1 with h1;subst h1;simp[World.frozen?,h3]
theorem MZ.putN (h:MZ w0 W D M L N U fs ss ps fv sv (.slice (some ⟨g,0,none⟩) n c)) (hn:n=ps.length) (k:Nat) (hk:k<ps.length) (x:Pv × Hd) (o:Nat) (vs:List Value) (ho:o+vs.length≤12) (hx:putW (pvCells ps[k]) o vs=pvCells x):
  MZ w0 (W.setCells g (k*12+o) vs) D M L N U fs ss (ps.set k x) fv sv (.slice (some ⟨g,0,none⟩) n c):=by subst hn;exact h.put k hk x o vs ho hx
theorem own_put {v:Value} {m:Nat} {xs:List Value} (ho:W.ownsRow (M+1) 75 5 v m xs) (h:MZ w0 W D M L N U fs ss ps fv sv (.slice (some ⟨g,0,none⟩) n c)) (on:Onl g W X):X.ownsRow (M+1) 75 5 v m xs:=by
 refine own_kp ho (fun j ej _=>on.block j (ho.lt j ej).2 (fun e2=>?_));subst e2;rcases own_apart ho h.p (by decide) with h1|h1
 ·rw[h1] at ej;cases ej
 ·exact h1 ej
theorem MZ.pr (h:MZ w0 W D M L N U fs ss ps fv sv (.slice (some ⟨g,0,none⟩) n c)):RowAt W pvCells ps ⟨some ⟨g,0,none⟩,n,c⟩:=by
 obtain⟨p,h5,_,h6⟩:=RowAt.of_own h.p rfl;injection h5 with h1 h2 h3;obtain⟨a,b,c'⟩:=p;subst h1 h2 h3;exact h6
theorem MZ.gB (h:MZ w0 W D M L N U fs ss ps fv sv (.slice (some ⟨g,0,none⟩) n c)):w0.heap.size<g:=by
 have:=(h.p.lt g rfl).1;have:=h.hD;have:=h.hM;omega
end
structure IR (w:World) (u:Nat) (r:List Int × Hd):Prop where
 len:r.2.n=r.1.length
 cap:r.2.n≤r.2.c
 max:r.2.c≤maxLen
 rd:Rd w r.2.a (zvs r.1)
 rng:∀x∈r.1,-9223372036854775808≤x∧x≤9223372036854775807
 lt:r.1≠[]→∀ad,r.2.a=some ad→ad.block<u
def rowV (r:List Int × Hd):List Value:=[.slice r.2.a r.2.n r.2.c]
theorem IR.below {w w':World} {u:Nat} {r:List Int × Hd} (h:IR w u r) (hb:Below w.heap.size w w'):IR w' u r:=⟨h.len,h.cap,h.max,h.rd.below hb,h.rng,h.lt⟩
theorem wlist_any (xs:List (List Int × Hd)) (h:Hd) (i u:Nat) (w:World) (hr:RowAt w rowV xs h) (hi:∀r∈xs,IR w u r):
  Calls Tryz.prog 31 #[.slice h.a h.n h.c,.int .i64 (i:Int)] w fun e w'=>∃r,e=.returned (.slice r.2.a r.2.n r.2.c)∧IR w u r∧w=w':=by
 obtain⟨a,n,c⟩:=h;have hlen:=hr.len;simp only at hlen⊢;by_cases hlt:i<xs.length
 ·obtain⟨b,off,hA,hb,hc⟩:=Rd.row rowV 1 (fun _=>rfl) (by omega) hr.rd hlt;simp only at hA;subst hA;have HX:=zH (hi _ (List.getElem_mem hlt));have hc0:=hc 0 _ rfl;rw[Nat.mul_one,Nat.add_zero] at hc0;have h0:(0:Int)≤(i:Int):=by omega
  have h1:(i:Int)<(n:Int):=by omega
  clear hc hr hi;generalize xs[i]=r at*;obtain⟨l,⟨ra,rn,rc⟩⟩:=r;simp only at hc0;go_enter Tryz.func31,Tryz.ntmps31;go_wp2;go_ret;exact⟨(l,⟨ra,rn,rc⟩),rfl,HX.out,rfl⟩
 ·have h1:¬(i:Int)<(n:Int):=by omega
  clear hr hi;go_enter Tryz.func31,Tryz.ntmps31;go_wp2;go_ret;exact⟨[],⟨none,0,0⟩,rfl,⟨rfl,Nat.le_refl _,Nat.zero_le _,.inl rfl,fun _ h=>(by cases h),fun h=>absurd rfl h⟩,rfl⟩
def six2:List ByteArray:=[⟨#[98,97,115,101]⟩,⟨#[114,101,108,105,101,102]⟩,⟨#[99,114,101,100,105,116]⟩,⟨#[116,104,114,101,115,104,111,108,100]⟩,⟨#[116,97,120]⟩,⟨#[116,111,116,97,108]⟩]
theorem wrank_any (nm:ByteArray) (w:World):Calls Tryz.prog 81 #[.string nm] w fun e w'=>∃r:Int,e=.returned (.int .i64 r)∧Below w.heap.size w w':=by
 go_enter Tryz.func81,Tryz.ntmps81
 go_upto_region 1 with fail
 go_cut [3] from 5 to 6 (fun av wc=>∃X,av=.pointer (some ⟨X,0,none⟩)∧Hid (Blk wc X 95 (six2.map Value.string))∧Hid (Below w.heap.size w wc))
 case first=>
  go_wp2
  go_meet
  case rel=>exact⟨_,rfl,Blk.new w 95 (six2.map Value.string).toArray,zB w _⟩
 case rest=>
  obtain⟨X,rfl,HX,HBC⟩:=hcut;go_wp2
  go_loopg [4] 6 (fun g iv wr=>∃j:Nat,j+g=6∧iv=.int .i64 j∧wr=wc)
  case atStart=>exact⟨0,by omega,rfl,rfl⟩
  case round=>
   obtain⟨j,hj,rfl,rfl⟩:=hrel;by_cases hlt:j<6
   ·have hc:=HX.out.cells j;rw[List.getElem?_map,List.getElem?_eq_getElem (show j<six2.length from hlt),Option.map_some] at hc;generalize six2[j]'(show j<six2.length from hlt)=s at*;have h0:(0:Int)≤(j:Int):=by omega
    have h1:(j:Int)<6:=by omega
    by_cases h2:s=nm
    ·subst h2;go_wp2;go_ret;exact⟨_,rfl,HBC.out⟩
    ·have h2b:¬(s.toList=nm.toList):=fun h=>h2 (by rw[ByteArray.toList_eq,ByteArray.toList_eq] at h;exact ByteArray.ext (Array.toList_inj.1 h))
     have h2c:(s.toList==nm.toList)=false:=beq_eq_false_iff_ne.2 h2b;go_wp2
     go_roundg (6-(j+1))
     case measure=>omega
     case rel=>exact⟨j+1,by omega,by go_num,rfl⟩
   ·obtain rfl:j=6:=by omega
    go_wp2;go_ret;exact⟨_,rfl,HBC.out⟩
theorem wFind11_any (xs:List (Pv × Hd)) (f s p:Hd) (nm:ByteArray) (w:World) (hr:RowAt w pvCells xs p):
  Calls Tryz.prog 38 #[lawV f s p,.string nm] w fun e w'=>∃(i:Nat) (o:Bool),e=.returned (.tuple #[.int .i64 i,.bool o])∧(o=true→i<xs.length)∧Below w.heap.size w w':=by
 obtain⟨fa,fn,fc⟩:=f;obtain⟨sa,sn,sc⟩:=s;obtain⟨pa,pn,pc⟩:=p;unfold lawV;simp only
 have hn:pn=xs.length:=hr.len;have hm:pn≤maxLen:=Nat.le_trans hr.cap hr.max;unfold maxLen at hm;obtain⟨W,hW⟩:=zE (w.alloc (.cells #[.slice fa fn fc,.slice sa sn sc,.slice pa pn pc] 28));obtain⟨B,hB⟩:=zE w.heap.size;have HK:Hid (Blk W B 28 [.slice fa fn fc,.slice sa sn sc,.slice pa pn pc]):=by show Blk _ _ _ _;rw[hW,hB];exact Blk.new w _ _
 have HBW:Hid (Below w.heap.size w W):=by show Below _ _ _;rw[hW];exact zB _ _
 have HR:=zH (hr.below HBW.out).rd;have hkc:=HK.out.cells;have HN:=zH hn;clear hr hn;go_enter Tryz.func38,Tryz.ntmps38
 go_upto_region 1 with fail
 simp only[←hW,←hB]
 clear hW hB;go_wp2
 go_loopg [6] pn (fun g iv wr=>∃j:Nat,j+g=pn∧iv=.int .i64 j∧wr=W)
 case atStart=>exact⟨0,by omega,rfl,rfl⟩
 case round=>
  obtain⟨j,hj,rfl,rfl⟩:=hrel;by_cases hlt:j<pn
  ·obtain⟨b,off,hA,hb,hc⟩:=Rd.row pvCells 12 (fun _=>rfl) (by omega) HR.out (show j<xs.length by rw[←HN.out];exact hlt);subst hA;have hc0:=hc 0 _ rfl;rw[Nat.add_zero] at hc0;generalize (xs[j]'(show j<xs.length by rw[←HN.out];exact hlt)).1.name=s at*;clear hc;have h0:(0:Int)≤(j:Int):=by omega
   have h1:(j:Int)<(pn:Int):=by omega
   have HL:Hid (j<xs.length):=by show _<_;rw[←HN.out];exact hlt
   by_cases h2:s=nm
   ·subst h2;go_wp2;go_ret2;exact⟨j,true,rfl,fun _=>HL.out,HBW.out⟩
   ·have h2b:¬(s.toList=nm.toList):=fun h=>h2 (by rw[ByteArray.toList_eq,ByteArray.toList_eq] at h;exact ByteArray.ext (Array.toList_inj.1 h))
    have h2c:(s.toList==nm.toList)=false:=beq_eq_false_iff_ne.2 h2b;go_wp2
    go_roundg (pn-(j+1))
    case measure=>omega
    case rel=>exact⟨j+1,by omega,by go_num,rfl⟩
  ·obtain rfl:j=pn:=by omega
   go_wp2;go_ret2;exact⟨0,false,rfl,fun h=>(by cases h),HBW.out⟩
theorem wbefore_any (l:List Sg) (A:Option Addr) (k c:Nat) (nm:ByteArray) (fr:Bool) (w:World) (hk:k=l.length) (hm:k≤1000) (hr:Rd w A (sgs l)):
  Calls Tryz.prog 37 #[.slice A k c,.string nm,.bool fr] w fun e w'=>∃v sg,e=.returned v∧sg.length≤1000∧w'.ownsRow w.heap.size 75 5 v sg.length (sgs sg)∧Below w.heap.size w w':=by
 have HR:=zH hr;have HKL:=zH hk;have HRN:=zH (fun s W=>wrank_any s W);clear hr hk;go_enter Tryz.func37,Tryz.ntmps37;go_wp2
 go_loopg [7,8] k (fun g ov iv wr=>∃(j:Nat) (ns:List Sg),j+g=k∧iv=.int .i64 j∧Hid (wr.ownsRow w.heap.size 75 5 ov ns.length (sgs ns))∧ns.length≤j∧Hid (Below w.heap.size w wr))
 case atStart=>exact⟨0,[],by omega,rfl,World.ownsRow_nil _ _ _ _,Nat.le_refl _,Below.refl _ _⟩
 case round=>
  obtain⟨j,ns,hj,rfl,hown,hol,hbr⟩:=hrel;by_cases hlt:j<k
  ·obtain⟨b,off,hA,hb,hc⟩:=Rd.row Sg.cells 5 (fun _=>rfl) (by omega) HR.out (show j<l.length by rw[←HKL.out];exact hlt);subst hA;generalize l[j]'(show j<l.length by rw[←HKL.out];exact hlt)=s at*;obtain⟨sop,snm,⟨st,sm,sd⟩⟩:=s;have HC:Hid (∀X,Below w.heap.size w X→∀i v,(Sg.cells ⟨sop,snm,⟨st,sm,sd⟩⟩)[i]?=some v→X.cell? ⟨b,off+j*5+i,none⟩=some v):=fun X hX i v hv=>(hX.cell (p:=⟨b,off+j*5+i,none⟩) hb).trans (hc i v hv)
   have hj0:(0:Int)≤(j:Int):=by omega
   have hj1:(j:Int)<(k:Int):=by omega
   clear hb hc;have d0:=HC.out _ hbr.out 0 _ rfl;have d1:=HC.out _ hbr.out 1 _ rfl;rw[Nat.add_zero] at d0
   go_upto_region 5 with fail
   go_cut [9] from 16 to 41 (fun lv wc=>∃q,lv=.bool q∧Hid (Below wr.heap.size wr wc))
   case first=>
    by_cases h6:sop=6
    ·subst h6;go_wp2_with fail;refine (HRN.out snm wr).mono ?_;rintro e w1 ⟨r1,rfl,hb1⟩;go_wp2_with fail;refine (HRN.out nm w1).mono ?_;rintro e w2 ⟨r2,rfl,hb2⟩;have HB2:=zH (bstep hb1 hb2);clear hb1 hb2;by_cases hrr:r1≥r2
     all_goals
      go_wp2
      go_meet
     all_goals (case rel=>exact⟨_,rfl,HB2⟩)
    ·have h6b:(sop==6)=false:=beq_eq_false_iff_ne.2 h6;by_cases h8:sop=8
     ·subst h8;go_wp2_with fail;refine (HRN.out snm wr).mono ?_;rintro e w1 ⟨r1,rfl,hb1⟩;go_wp2_with fail;refine (HRN.out nm w1).mono ?_;rintro e w2 ⟨r2,rfl,hb2⟩;have HB2:=zH (bstep hb1 hb2);clear hb1 hb2;by_cases hrr:r1≥r2
      all_goals
       go_wp2
       go_meet
      all_goals (case rel=>exact⟨_,rfl,HB2⟩)
     ·have h8b:(sop==8)=false:=beq_eq_false_iff_ne.2 h8;go_wp2
      go_meet
      case rel=>exact⟨_,rfl,Below.refl _ _⟩
   case rest=>
    obtain⟨q,rfl,hbc⟩:=hcut;have HBC:=zH (hbr.out.trans (hbc.out.mono hbr.out.size));have HOWN:=zH (own_below hown.out hbc.out);clear d0 d1 hown hbr hbc;have d0:=HC.out _ HBC.out 0 _ rfl;have d1:=HC.out _ HBC.out 1 _ rfl;have d2:=HC.out _ HBC.out 2 _ rfl;have d3:=HC.out _ HBC.out 3 _ rfl;have d4:=HC.out _ HBC.out 4 _ rfl;rw[Nat.add_zero] at d0;have hcz:=HBC.out.size;by_cases hall:fr=true∨q=false
    ·have hqq:(fr|| !q)=true:=by rcases hall with rfl|rfl<;>simp
     cases fr<;>cases q
     all_goals try exact absurd hqq (by decide)
     all_goals
      clear hqq hall;go_wp2_with (at_builtin;go_must (refine wpList_push wc #[.int .i64 sop,.string snm,.bool st,.int .i64 sm,.int .i64 sd] rfl _ _ 49 rfl w.heap.size 75 _ 5 48 1 Tryz.underlying49 info_sig rfl (by decide) u7 ns.length (sgs ns) rfl HOWN.out (by rfl) rfl ?_ ?_ ?_ ?_ ?_))
      any_goals first|(unfold maxLen;omega)|omega
      ·exact⟨rfl,rfl,rfl,rfl,rfl⟩
      intro v' w' hown' hb';have HO9:=zH hown';have HB9:=zH (HBC.out.trans hb');clear hown' hb' d0 d1 d2 d3 d4;go_wp2
      go_roundg (k-(j+1))
     all_goals first|(case measure=>omega)|(case rel=>
      refine⟨j+1,ns++[(⟨sop,snm,⟨st,sm,sd⟩⟩:Sg)],by omega,by go_num,?_,by simp;omega,HB9⟩;show World.ownsRow _ _ _ _ _ _ _;rw[sgs_append,List.length_append];exact HO9.out)
    ·obtain⟨rfl,rfl⟩:fr=false∧q=true:=by cases fr<;>cases q<;>simp at hall⊢
     clear hall;go_wp2
     go_roundg (k-(j+1))
     case measure=>omega
     case rel=>exact⟨j+1,ns,by omega,by go_num,HOWN,by omega,HBC⟩
  ·obtain rfl:j=k:=by omega
   go_wp2;go_ret;exact⟨_,ns,rfl,by omega,hown.out,hbr.out⟩
theorem wnumber_any (m d:Int) (w:World):Calls Tryz.prog 78 #[.agg #[.int .i64 m,.int .i64 d]] w fun e w'=>e=.returned (.agg #[.bool false,.int .i64 m,.int .i64 d])∧Below w.heap.size w w':=by
 go_enter Tryz.func78,Tryz.ntmps78;go_wp2;exact bodyPost_ret (v:=.agg #[.bool false,.int .i64 m,.int .i64 d]) (by simp[results,Tryz.results78,go_sem]) rfl ⟨rfl,(zB _ _).alloc (by simp) _⟩
def SgRet (w:World) (e:Ending) (w':World):Prop:=∃v sg,e=.returned v∧sg.length≤1000∧w'.ownsRow w.heap.size 75 5 v sg.length (sgs sg)∧Below w.heap.size w w'
structure SS (W wr:World) (v:Value) (m:Nat) (ns:List Sg):Prop where
 o:wr.ownsRow W.heap.size 75 5 v ns.length (sgs ns)
 l:ns.length≤m
 b:Below W.heap.size W wr
theorem SS.push {W w1 w':World} {v v':Value} {m m':Nat} {ns:List Sg} (h:SS W w1 v m ns) (g:Sg) (ho:w'.ownsRow W.heap.size 75 5 v' (ns.length+1) (sgs ns++g.cells)) (hb:Below W.heap.size W w') (hm:m+1=m'):SS W w' v' m' (ns++[g]):=
 ⟨by rw[sgs_append,List.length_append];exact ho,by have:=h.l;rw[List.length_append,List.length_singleton];omega,hb⟩
theorem SS.below {W w1 w':World} {v:Value} {m:Nat} {ns:List Sg} (h:SS W w1 v m ns) (hb:Below w1.heap.size w1 w'):SS W w' v m ns:=⟨own_below h.o hb,h.l,bstep h.b hb⟩
theorem wSigs_any (fs:List Dc) (ss:List (Sc × Hd)) (ps:List (Pv × Hd)) (f s p:Hd) (w:World) (hf:RowAt w Dc.cells fs f) (hs:RowAt w scCells ss s) (hp:RowAt w pvCells ps p) (f1:fs.length≤100) (s1:ss.length≤100) (p1:ps.length≤100):
  Calls Tryz.prog 35 #[lawV f s p] w (SgRet w):=by
 obtain⟨fa,fn,fc⟩:=f;obtain⟨sa,sn,sc⟩:=s;obtain⟨pa,pn,pc⟩:=p;rw[←hf.len] at f1;rw[←hs.len] at s1;rw[←hp.len] at p1;simp only at f1 s1 p1;unfold lawV;go_enter Tryz.func35,Tryz.ntmps35
 go_upto_region 1 with fail
 generalize hW:w.alloc _=W;obtain⟨hk,hb0⟩:=zA hW;replace hf:=hf.below hb0;replace hs:=hs.below hb0;replace hp:=hp.below hb0;have hL:∀X,Below W.heap.size W X→X.cell? ⟨w.heap.size,0,none⟩=some (.slice fa fn fc)∧X.cell? ⟨w.heap.size,1,none⟩=some (.slice sa sn sc)∧X.cell? ⟨w.heap.size,2,none⟩=some (.slice pa pn pc):=fun X h=>⟨(hk.below h hk.lt).cells 0,(hk.below h hk.lt).cells 1,(hk.below h hk.lt).cells 2⟩
 clear hW hk;generalize hB:w.heap.size=B at hL⊢;have hb2:=Below.refl W.heap.size W;go_wp2
 go_loopg [3,4] fn (fun g ov iv wr=>∃(j:Nat) (ns:List Sg),j+g=fn∧iv=.int .i64 j∧SS W wr ov j ns)
 case atStart=>exact⟨0,[],by omega,rfl,World.ownsRow_nil _ _ _ _,Nat.le_refl _,hb2⟩
 case round=>
  obtain⟨j,ns,hj,rfl,h⟩:=hrel;have hb:=h.b;by_cases hlt:j<fn
  ·obtain⟨b,off,nm,t,m,d,rfl,_,_,_,hc⟩:=dc_at hf hlt
   go_upto_region 5 with fail
   refine reS (Below W.heap.size W) 99 hb.drew (fun w1 h1 hS=>?_);replace h:=h.below h1
   iterate 14 refine reA ?_
   refine reV 14 (fun _=>hS.alloc hS.size _) (fun _=>?_);refine reP 15 info_sig Tryz.underlying49 h.o (by have:=h.l;omega) h.b.size (fun v' w9 ho _ _ hb9=>⟨h.b.trans hb9,fun hS=>?_⟩);refine reA ?_;refine reE ?_;go_wp2
   go_roundg (fn-(j+1))
   case measure=>omega
   case rel=>exact⟨j+1,_,by omega,by go_num,h.push ⟨5,nm,⟨t,m,d⟩⟩ ho hS rfl⟩
  ·skip
   go_wp2
   go_loopg [3,5] 3 (fun g ov iv wr=>∃(q:Nat) (ns:List Sg),q+g=3∧iv=.int .i64 (6+q)∧SS W wr ov (100+100*q) ns)
   case atStart=>exact⟨0,ns,by omega,rfl,h.o,by have:=h.l;omega,h.b⟩
   case round=>
    clear h;obtain⟨q,ns,hq,rfl,h⟩:=hrel;have hb:=h.b;by_cases hlq:q<3
    ·have hq8:(6:Int)+(q:Int)≤8:=by omega
     go_wp2
     go_loopg [3,6] pn (fun g ov iv wr=>∃(j:Nat) (ns:List Sg),j+g=pn∧iv=.int .i64 j∧SS W wr ov (100+100*q+j) ns)
     case atStart=>exact⟨0,ns,by omega,rfl,h⟩
     case round=>
      clear h hb;obtain⟨j,ns,hj,rfl,h⟩:=hrel;have hb:=h.b;by_cases hlt:j<pn
      ·obtain⟨b,off,p,rfl,_,_,_,hc⟩:=pv_at hp hlt
       go_upto_region 12 with fail
       refine reS (Below W.heap.size W) 99 hb.drew (fun w1 h1 hS=>?_);replace h:=h.below h1
       iterate 15 refine reA ?_
       refine reV 15 (fun _=>hS.alloc hS.size _) (fun _=>?_);refine reP 16 info_sig Tryz.underlying49 h.o (by have:=h.l;omega) h.b.size (fun v' w9 ho _ _ hb9=>⟨h.b.trans hb9,fun hS=>?_⟩);refine reA ?_;refine reE ?_;go_wp2
       go_roundg (pn-(j+1))
       case measure=>omega
       case rel=>exact⟨j+1,_,by omega,by go_num,h.push ⟨6+(q:Int),p.1.name,p.1.ty⟩ ho hS rfl⟩
      ·have hw6:IntKind.i64.wrap (6+(q:Int)+1)=6+(q:Int)+1:=IntWalk.i64_in _ (by omega);go_wp2
       go_roundg (3-(q+1))
       case measure=>omega
       case rel=>exact⟨q+1,ns,by omega,by push_cast;rw[Int.add_assoc],h.o,by have:=h.l;omega,h.b⟩
    ·have hq8:¬(6:Int)+(q:Int)≤8:=by omega
     go_wp2
     go_loopg [3,7] sn (fun g ov iv wr=>∃(j:Nat) (ns:List Sg),j+g=sn∧iv=.int .i64 j∧SS W wr ov (400+j) ns)
     case atStart=>exact⟨0,ns,by omega,rfl,h.o,by have:=h.l;omega,h.b⟩
     case round=>
      clear h hb;obtain⟨j,ns,hj,rfl,h⟩:=hrel;have hb:=h.b;by_cases hlt:j<sn
      ·obtain⟨b,off,nm,m,d,bs,hd,rfl,_,_,_,hc⟩:=sc_at hs hlt
       go_upto_region 16 with fail
       refine reS (Below W.heap.size W) 99 hb.drew (fun w1 h1 hS=>?_);replace h:=h.below h1
       iterate 13 refine reA ?_
       refine reC 13 (wnumber_any m d w1) ?_;rintro e w2 ⟨rfl,h2⟩;replace h:=h.below h2;refine⟨_,rfl,h.b,fun hS=>?_⟩
       iterate 1 refine reA ?_
       refine reV 15 (fun _=>hS.alloc hS.size _) (fun _=>?_);refine reP 16 info_sig Tryz.underlying49 h.o (by have:=h.l;omega) h.b.size (fun v' w9 ho _ _ hb9=>⟨h.b.trans hb9,fun hS=>?_⟩);refine reA ?_;refine reE ?_;go_wp2
       go_roundg (sn-(j+1))
       case measure=>omega
       case rel=>exact⟨j+1,_,by omega,by go_num,h.push ⟨24,nm,⟨false,m,d⟩⟩ ho hS rfl⟩
      ·go_wp2;go_ret;exact⟨_,ns,rfl,by have:=h.l;omega,own_lower h.o hb0.size,bstep hb0 h.b⟩
structure MS (w:World) (B D u:Nat) (A:Option Addr) (k:Nat) (l:List Sg) (t:Bool) (m d:Int) (W:World):Prop where
 b:Blk W B 35 [.bool t,.int .i64 m,.int .i64 d]
 s:SgR W D A k l
 ds:DS W D u
 on:Onl D w W
 hB:D<B
 hD:D<w.heap.size
 hu:u≤w.heap.size
def MadeC (K:Nat) (n:Int):Prop:=∀(l:List Sg) (A:Option Addr) (k c D u:Nat) (t:Bool) (m d:Int) (w:World),SgR w D A k l→DS w D u→u≤w.heap.size→(t=true∨Ty4 m d)→
 Calls Tryz.prog 80 #[.slice A k c,.pointer (some ⟨D,0,none⟩),.agg #[.bool t,.int .i64 m,.int .i64 d],.int .i64 n] w (NdRet K D u w)
def MRow (w:World) (K:Nat) (X:World) (r:List Nd × Hd):Prop:=X.ownsRow w.heap.size 87 5 (.slice r.2.a r.2.n r.2.c) r.1.length (nds r.1)∧r.1.length≤K
section
variable {w X X':World} {B D u k K c:Nat} {n:Int} {A:Option Addr} {l:List Sg} {t:Bool} {m d:Int}
theorem MS.onl (h:MS w B D u A k l t m d X) (hd:DS X' D u) (ho:Onl D X X'):MS w B D u A k l t m d X':=
 ⟨ho.blk h.b (by have:=h.hB;omega),h.s.onl ho,hd,h.on.trans ho,h.hB,h.hD,h.hu⟩
theorem MS.below (h:MS w B D u A k l t m d X) (hb:Below X.heap.size X X'):MS w B D u A k l t m d X':=h.onl (h.ds.below hb) (Onl.of_below hb)
theorem MS.cells (h:MS w B D u A k l t m d X):X.cell? ⟨B,0,none⟩=some (.bool t)∧X.cell? ⟨B,1,none⟩=some (.int .i64 m)∧X.cell? ⟨B,2,none⟩=some (.int .i64 d):=⟨h.b.cells 0,h.b.cells 1,h.b.cells 2⟩
theorem MRow.onl {r:List Nd × Hd} (h:MRow w K X r) (ho:Onl D X X') (hD:D<w.heap.size):MRow w K X' r:=⟨onl_row h.1 ho hD,h.2⟩
theorem MS.next (h:MS w B D u A k l t m d X) (q:Int) (h1:1≤q) (h2:q≤1000):Calls Tryz.prog 32 #[.pointer (some ⟨D,0,none⟩),.int .i64 q] X fun e X'=>∃r:Nat,(r:Int)<q∧e=.returned (.int .i64 r)∧MS w B D u A k l t m d X'∧Onl D X X':=
 (next_any X D u q h.ds h1 (by omega)).mono fun _ _ ⟨r,hr,he,hd,ho⟩=>⟨r,hr,he,h.onl hd ho,ho⟩
theorem MS.made (h:MS w B D u A k l t m d X) (HM:MadeC K n) (c:Nat) (t':Bool) (m' d':Int) (ht:t'=true∨Ty4 m' d'):
  Calls Tryz.prog 80 #[.slice A k c,.pointer (some ⟨D,0,none⟩),.agg #[.bool t',.int .i64 m',.int .i64 d'],.int .i64 n] X fun e X'=>∃r:List Nd × Hd,e=.returned (.slice r.2.a r.2.n r.2.c)∧MRow w K X' r∧MS w B D u A k l t m d X'∧Onl D X X':=by
 refine (HM l A k c D u t' m' d' X h.s h.ds (Nat.le_trans h.hu h.on.size) ht).mono ?_;rintro e X' ⟨v,ns,rfl,h1,h2,h3,h4⟩;obtain⟨A1,c1,rfl,_⟩:=own_rd h2;exact⟨(ns,⟨A1,ns.length,c1⟩),rfl,⟨own_lower h2 h.on.size,h1⟩,h.onl h3 h4,h4⟩
theorem MS.after (h:MS w B D u A k l t m d X) (hK:K≤1000) (nod:Nd) (rs:List (List Nd × Hd)) (h3:rs.length≤3) (hr:∀r∈rs,MRow w K X r):
  Calls Tryz.prog 116 #[.agg nod.cells.toArray,.slice (some ⟨X.heap.size,0,none⟩) rs.length rs.length] (X.alloc (.cells (rs.map fun r=>Value.slice r.2.a r.2.n r.2.c).toArray 36)) fun e X'=>∃v,e=.returned v∧NdRet (3*K+1) D u w (.returned v) X'∧MS w B D u A k l t m d X'∧Below X.heap.size X X':=by
 have hb:=zB X (.cells (rs.map fun r=>Value.slice r.2.a r.2.n r.2.c).toArray 36);refine (wafter_any nod K X.heap.size rs.length 36 rs _ rfl h3 hK (Blk.new X _ _) (fun r h=>?_)).mono ?_
 ·obtain⟨h1,h2⟩:=hr r h;obtain⟨q1,q2,q3,q4⟩:=own_hd (own_below h1 hb);exact⟨⟨q1,by omega,q3,q4⟩,h2⟩
 ·rintro e w' ⟨v,ns,rfl,h1,h2,h4⟩;have hb2:=bstep hb h4;exact⟨v,rfl,⟨v,ns,rfl,Nat.le_trans h1 (by have:=Nat.mul_le_mul_left K h3;omega),own_lower h2 (Nat.le_trans h.on.size hb.size),h.ds.below hb2,h.on.trans (Onl.of_below hb2)⟩,h.below hb2,hb2⟩
theorem MS.a1 (h:MS w B D u A k l t m d X) (hK:K≤1000) {op:Int} {ng:Bool} {nu de nm:ByteArray} {r1:List Nd × Hd} (q1:MRow w K X r1):
  Calls Tryz.prog 116 #[.agg #[.int .i64 op,.bool ng,.string nu,.string de,.string nm],.slice (some ⟨X.heap.size,0,none⟩) 1 1] (X.alloc (.cells #[.slice r1.2.a r1.2.n r1.2.c] 36)) fun e X'=>∃v,e=.returned v∧NdRet (3*K+1) D u w (.returned v) X'∧MS w B D u A k l t m d X'∧Below X.heap.size X X':=
 h.after hK ⟨op,⟨ng,nu,de⟩,nm⟩ [r1] (by simp) (fun r hr=>(by simp at hr;subst hr;assumption))
theorem MS.a2 (h:MS w B D u A k l t m d X) (hK:K≤1000) {op:Int} {ng:Bool} {nu de nm:ByteArray} {r1 r2:List Nd × Hd} (q1:MRow w K X r1) (q2:MRow w K X r2):
  Calls Tryz.prog 116 #[.agg #[.int .i64 op,.bool ng,.string nu,.string de,.string nm],.slice (some ⟨X.heap.size,0,none⟩) 2 2] (X.alloc (.cells #[.slice r1.2.a r1.2.n r1.2.c,.slice r2.2.a r2.2.n r2.2.c] 36)) fun e X'=>∃v,e=.returned v∧NdRet (3*K+1) D u w (.returned v) X'∧MS w B D u A k l t m d X'∧Below X.heap.size X X':=
 h.after hK ⟨op,⟨ng,nu,de⟩,nm⟩ [r1,r2] (by simp) (fun r hr=>(by simp at hr;rcases hr with rfl|rfl<;>assumption))
theorem MS.a3 (h:MS w B D u A k l t m d X) (hK:K≤1000) {op:Int} {ng:Bool} {nu de nm:ByteArray} {r1 r2 r3:List Nd × Hd} (q1:MRow w K X r1) (q2:MRow w K X r2) (q3:MRow w K X r3):
  Calls Tryz.prog 116 #[.agg #[.int .i64 op,.bool ng,.string nu,.string de,.string nm],.slice (some ⟨X.heap.size,0,none⟩) 3 3] (X.alloc (.cells #[.slice r1.2.a r1.2.n r1.2.c,.slice r2.2.a r2.2.n r2.2.c,.slice r3.2.a r3.2.n r3.2.c] 36)) fun e X'=>∃v,e=.returned v∧NdRet (3*K+1) D u w (.returned v) X'∧MS w B D u A k l t m d X'∧Below X.heap.size X X':=
 h.after hK ⟨op,⟨ng,nu,de⟩,nm⟩ [r1,r2,r3] (by simp) (fun r hr=>(by simp at hr;rcases hr with rfl|rfl|rfl<;>assumption))
theorem MS.leaf (h:MS w B D u A k l t m d X) (hK:1≤K) (c:Nat) (ht:t=true∨Ty4 m d):Calls Tryz.prog 115 #[.slice A k c,.pointer (some ⟨D,0,none⟩),.agg #[.bool t,.int .i64 m,.int .i64 d]] X (NdRet K D u w):=by
 refine (wleaf_any l A k c D u t m d X h.s h.ds (Nat.le_trans h.hu h.on.size) ht).mono ?_;rintro e w' ⟨v,ns,h1,h2,h3,h4,h5⟩;exact⟨v,ns,h1,Nat.le_trans h2 hK,own_lower h3 h.on.size,h4,h.on.trans h5⟩
end
theorem wmade_zero (n:Int) (hn:n≤0):MadeC 1 n:=by
 intro l A k c D u t m d w hs hd hu ht;go_enter Tryz.func80,Tryz.ntmps80
 go_upto_region 1 with fail
 generalize hW:w.alloc _=W;obtain⟨hk,hb0⟩:=zA hW;have h:MS w w.heap.size D u A k l t m d W:=⟨hk,hs.onl (Onl.of_below hb0),hd.below hb0,Onl.of_below hb0,hd.lt,hd.lt,hu⟩
 have hc:=h.cells;clear hW hk;generalize hB:w.heap.size=B at h hc hb0⊢;go_wp2_with fail;refine (h.leaf (Nat.le_refl _) c ht).mono ?_;rintro e w1 ⟨v,ns,rfl,h1⟩;go_wp2;go_ret;exact⟨v,ns,rfl,h1⟩
theorem wmade_step (n K:Nat) (hn:n≤1) (hK0:1≤K) (hK:K≤100) (HM:MadeC K n):MadeC (3*K+1) ((n:Int)+1):=by
 intro l A k c D u t m d w hs hd hu ht;have hK2:K≤1000:=by omega
 have hK3:1≤3*K+1:=by omega
 have h1n:¬((n:Int)+1≤0):=by omega
 clear hK0 hK;go_enter Tryz.func80,Tryz.ntmps80
 go_upto_region 1 with fail
 generalize hW:w.alloc _=W;obtain⟨hk,hb0⟩:=zA hW;have h:MS w w.heap.size D u A k l t m d W:=⟨hk,hs.onl (Onl.of_below hb0),hd.below hb0,Onl.of_below hb0,hd.lt,hd.lt,hu⟩
 have hc:=h.cells;clear hW hk hs hd hu hb0;generalize hB:w.heap.size=B at h hc⊢;clear hB;go_wp2_with fail;refine (h.next 5 (by omega) (by omega)).mono ?_;rintro e w1 ⟨r1,hr1,rfl,h',_⟩;clear h hc;have h:=h';have hc:=h.cells;clear h';by_cases h0:r1=0
 ·subst h0;go_wp2_with fail;refine (h.leaf hK3 c ht).mono ?_;rintro e w2 ⟨v,ns,rfl,hf⟩;go_wp2;go_ret;exact⟨v,ns,rfl,hf⟩
 have h0b:((r1:Int)==0)=false:=beq_eq_false_iff_ne.2 (by omega);have h0p:¬(r1:Int)=0:=by omega
 clear h0 hr1;cases t
 ·go_wp2_with fail;refine (h.next 7 (by omega) (by omega)).mono ?_;rintro e w1 ⟨r2,hr2,rfl,h',_⟩;clear h hc;have h:=h';have hc:=h.cells;clear h';rcases (by omega:r2=0∨r2=1∨r2=2∨r2=3∨r2=4∨r2=5∨r2=6) with rfl|rfl|rfl|rfl|rfl|rfl|rfl
  iterate 2
   ·go_wp2_with fail;refine (h.next 4 (by omega) (by omega)).mono ?_;rintro e w1 ⟨r3,hr3,rfl,h',_⟩;clear h hc;have h:=h';have hc:=h.cells;clear h'
    obtain⟨q,hq⟩:∃q:Int,∀W,Sem.run Tryz.prog (Instr.index 192 (.agg #[.int .i64 9,.int .i64 10,.int .i64 13,.int .i64 14]) (.int .i64 (r3:Int))) W=Result.ok (.int .i64 q) W:=by
     rcases (by omega:r3=0∨r3=1∨r3=2∨r3=3) with rfl|rfl|rfl|rfl
     ·exact⟨9,fun _=>by first|rfl|kernel_rfl⟩
     ·exact⟨10,fun _=>by first|rfl|kernel_rfl⟩
     ·exact⟨13,fun _=>by first|rfl|kernel_rfl⟩
     ·exact⟨14,fun _=>by first|rfl|kernel_rfl⟩
    have hCS:=fun X (h:MS w B D u A k l false m d X)=>h.cells
    go_upto_region 20 with fail
    refine reS (MS w B D u A k l false m d) 99 (h.below (drewN_below _ _ 1)) (fun w1 _ h=>?_)
    iterate 6 refine reA ?_
    refine reZ 7 ?_;refine reZ 8 ?_;refine reZ 9 ?_;refine reZ 10 ?_;refine reC 6 (h.made HM c false m d ht) ?_;rintro e w1 ⟨r5,rfl,qr5,h,ho⟩;refine⟨_,rfl,h,fun h=>?_⟩;refine reC 11 (h.made HM c false m d ht) ?_;rintro e w1 ⟨r6,rfl,qr6,h,ho⟩;replace qr5:=qr5.onl ho h.hD;refine⟨_,rfl,h,fun h=>?_⟩;refine reV 12 (fun _=>h.below (zB _ _)) (fun _=>?_);refine reC 13 (h.a2 hK2 qr5 qr6) ?_;rintro e w1 ⟨v,rfl,hf,h,_⟩;refine⟨_,rfl,h,fun h=>?_⟩;refine reZ 14 ?_;refine reE ?_;go_wp2;go_ret;exact hf
  ·go_wp2_with fail;refine (h.made HM c false m d ht).mono ?_;rintro e w1 ⟨r5,rfl,qr5,h',ho⟩;clear h hc ho;have h:=h';have hc:=h.cells;clear h';go_wp2_with fail;refine (wNum_any 0 0 _).mono ?_;rintro e w1 ⟨rfl,hb⟩;replace qr5:=qr5.onl (Onl.of_below hb) h.hD;have h':=h.below hb;clear h hc hb;have h:=h';have hc:=h.cells;clear h';go_wp2_with fail;refine (h.made HM c false 0 0 (.inr (.inr (.inr ⟨rfl,rfl⟩)))).mono ?_;rintro e w1 ⟨r6,rfl,qr6,h',ho⟩;replace qr5:=qr5.onl ho h'.hD;clear h hc ho;have h:=h';have hc:=h.cells;clear h';go_wp2_with fail;refine (h.a2 hK2 qr5 qr6).mono ?_;rintro e w1 ⟨v,rfl,hf,h,_⟩;go_wp2;go_ret;exact hf
  ·go_wp2_with fail;refine (h.made HM c false m d ht).mono ?_;rintro e w1 ⟨r5,rfl,qr5,h',ho⟩;clear h hc ho;have h:=h';have hc:=h.cells;clear h';go_wp2_with fail;refine (wNum_any 0 0 _).mono ?_;rintro e w1 ⟨rfl,hb⟩;replace qr5:=qr5.onl (Onl.of_below hb) h.hD;have h':=h.below hb;clear h hc hb;have h:=h';have hc:=h.cells;clear h';go_wp2_with fail;refine (h.made HM c false 0 0 (.inr (.inr (.inr ⟨rfl,rfl⟩)))).mono ?_;rintro e w1 ⟨r6,rfl,qr6,h',ho⟩;replace qr5:=qr5.onl ho h'.hD;clear h hc ho;have h:=h';have hc:=h.cells;clear h';go_wp2_with fail;refine (h.a2 hK2 qr5 qr6).mono ?_;rintro e w1 ⟨v,rfl,hf,h,_⟩;go_wp2;go_ret;exact hf
  ·have hCS:=fun X (h:MS w B D u A k l false m d X)=>h.cells
   go_upto_region 26 with fail
   refine reS (MS w B D u A k l false m d) 99 (h.below (drewN_below _ _ 1)) (fun w1 _ h=>?_)
   iterate 3 refine reA ?_
   refine reZ 4 ?_;refine reZ 6 ?_;refine reZ 7 ?_;refine reZ 8 ?_;refine reZ 9 ?_;refine reZ 11 ?_;refine reZ 12 ?_;refine reZ 13 ?_;refine reZ 14 ?_;refine reC 3 (wTruth_any _) ?_;rintro e w1 ⟨rfl,hb⟩;replace h:=h.below hb;refine⟨_,rfl,h,fun h=>?_⟩;refine reC 5 (h.made HM c true 0 0 (.inl rfl)) ?_;rintro e w1 ⟨r5,rfl,qr5,h,ho⟩;refine⟨_,rfl,h,fun h=>?_⟩;refine reC 10 (h.made HM c false m d ht) ?_;rintro e w1 ⟨r6,rfl,qr6,h,ho⟩;replace qr5:=qr5.onl ho h.hD;refine⟨_,rfl,h,fun h=>?_⟩;refine reC 15 (h.made HM c false m d ht) ?_;rintro e w1 ⟨r7,rfl,qr7,h,ho⟩;replace qr5:=qr5.onl ho h.hD;replace qr6:=qr6.onl ho h.hD;refine⟨_,rfl,h,fun h=>?_⟩;refine reV 16 (fun _=>h.below (zB _ _)) (fun _=>?_);refine reC 17 (h.a3 hK2 qr5 qr6 qr7) ?_;rintro e w1 ⟨v,rfl,hf,h,_⟩;refine⟨_,rfl,h,fun h=>?_⟩;refine reZ 18 ?_;refine reE ?_;go_wp2;go_ret;exact hf
  ·go_wp2_with fail;refine (h.next 3 (by omega) (by omega)).mono ?_;rintro e w1 ⟨r3,hr3,rfl,h',_⟩;clear h hc;have h:=h';have hc:=h.cells;clear h';have hw:IntKind.i64.wrap (21+(r3:Int))=21+(r3:Int):=IntWalk.i64_in _ (by omega);have hCS:=fun X (h:MS w B D u A k l false m d X)=>h.cells
   go_upto_region 29 with fail
   refine reS (MS w B D u A k l false m d) 99 (h.below (drewN_below _ _ 1)) (fun w1 _ h=>?_)
   iterate 2 refine reA ?_
   refine reZ 4 ?_;refine reZ 5 ?_;refine reZ 6 ?_;refine reZ 7 ?_;refine reC 2 (wratio_any D u 1 _ h.ds (Nat.le_trans h.hu h.on.size) (by omega) (by omega)) ?_;rintro e w1 ⟨⟨qn,qu,qd⟩,rfl,_,hd1,ho1⟩;replace h:=h.onl hd1 ho1;refine⟨.agg #[.bool qn,.string qu,.string qd],rfl,h,fun h=>?_⟩;refine reZ 3 ?_;refine reC 8 (h.made HM c false m d ht) ?_;rintro e w1 ⟨r5,rfl,qr5,h,ho⟩;refine⟨_,rfl,h,fun h=>?_⟩;refine reV 9 (fun _=>h.below (zB _ _)) (fun _=>?_);refine reC 10 (h.a1 hK2 qr5) ?_;rintro e w1 ⟨v,rfl,hf,h,_⟩;refine⟨_,rfl,h,fun h=>?_⟩;refine reZ 11 ?_;refine reE ?_;go_wp2;go_ret;exact hf
  ·go_wp2_with fail;refine (wrated_any l A k c D u false m d _ h.s h.ds).mono ?_;rintro e w1 ⟨s,o,rfl,hd1,ho1⟩;have h':=h.onl hd1 ho1;clear hd1 ho1;clear h hc;have h:=h';have hc:=h.cells;clear h';cases o
   ·go_wp2_with fail;refine (h.leaf hK3 c ht).mono ?_;rintro e w2 ⟨v,ns,rfl,hf⟩;go_wp2;go_ret;exact⟨v,ns,rfl,hf⟩
   ·go_wp2_with fail;refine (h.made HM c false m d ht).mono ?_;rintro e w1 ⟨r5,rfl,qr5,h',ho⟩;clear h hc ho;have h:=h';have hc:=h.cells;clear h';go_wp2_with fail;refine (h.a1 hK2 qr5).mono ?_;rintro e w1 ⟨v,rfl,hf,h,_⟩;go_wp2;go_ret;exact hf
 ·go_wp2_with fail;refine (h.next 5 (by omega) (by omega)).mono ?_;rintro e w1 ⟨r2,hr2,rfl,h',_⟩;clear h hc;have h:=h';have hc:=h.cells;clear h';rcases (by omega:r2=0∨r2=1∨r2=2∨r2=3∨r2=4) with rfl|rfl|rfl|rfl|rfl
  iterate 2
   ·go_wp2_with fail;refine (h.next 3 (by omega) (by omega)).mono ?_;rintro e w1 ⟨r3,hr3,rfl,h',_⟩;clear h hc;have h:=h';have hc:=h.cells;clear h';have hr3':r3<3:=by omega
    go_wp2_with fail;refine (wKind_any r3 hr3' _).mono ?_;rintro e w1 ⟨m2,d2,rfl,hT2,hb⟩;have h':=h.below hb;clear hb;clear h hc;have h:=h';have hc:=h.cells;clear h'
    go_upto_region 9 with fail
    generalize hX:w1.alloc _=X;obtain⟨hk,hb⟩:=zA hX;have hN:=h.ds.lt;have h':=h.below hb;generalize w1.heap.size=N at hk hN⊢;clear hX hb;clear h hc;have h:=h';have hc:=h.cells;clear h';go_wp2_with fail;refine (h.next 2 (by omega) (by omega)).mono ?_;rintro e w2 ⟨r4,hr4,rfl,h',ho⟩;have hk:=ho.blk hk (by omega);clear ho;clear h hc;have h:=h';have hc:=h.cells;clear h';have hCS:=fun X (h:MS w B D u A k l true m d X∧Blk X N 35 [.bool false,.int .i64 m2,.int .i64 d2])=>And.intro (h.2.cells 0) (And.intro (h.2.cells 1) (h.2.cells 2))
    have hq:∃q,q=16+(r4:Int):=⟨_,rfl⟩
    go_upto_region 10 with fail
    refine reS (fun X=>MS w B D u A k l true m d X∧Blk X N 35 [.bool false,.int .i64 m2,.int .i64 d2]) 99 ⟨h.below (drewN_below _ _ 1),hk.drew⟩ (fun w1 _ h=>?_)
    iterate 6 refine reA ?_
    refine reZ 7 ?_;refine reZ 8 ?_;refine reZ 9 ?_;refine reZ 10 ?_;refine reC 6 (h.1.made HM c false m2 d2 (.inr hT2)) ?_;rintro e w1 ⟨r5,rfl,qr5,h',ho⟩;refine⟨_,rfl,⟨h',ho.blk h.2 (by omega)⟩,fun h=>?_⟩;clear ho;refine reC 11 (h.1.made HM c false m2 d2 (.inr hT2)) ?_;rintro e w1 ⟨r6,rfl,qr6,h',ho⟩;replace qr5:=qr5.onl ho h'.hD;refine⟨_,rfl,⟨h',ho.blk h.2 (by omega)⟩,fun h=>?_⟩;clear ho;refine reV 12 (fun _=>⟨h.1.below (zB _ _),h.2.alloc _⟩) (fun _=>?_);refine reC 13 (h.1.a2 hK2 qr5 qr6) ?_;rintro e w1 ⟨v,rfl,hf,h',hb⟩;refine⟨_,rfl,⟨h',h.2.below hb h.2.lt⟩,fun h=>?_⟩;refine reZ 14 ?_;refine reE ?_;go_wp2;go_ret;exact hf
  ·go_wp2_with fail;refine (h.made HM c true m d (.inl rfl)).mono ?_;rintro e w1 ⟨r5,rfl,qr5,h',ho⟩;clear h hc ho;have h:=h';have hc:=h.cells;clear h';go_wp2_with fail;refine (h.a1 hK2 qr5).mono ?_;rintro e w1 ⟨v,rfl,hf,h,_⟩;go_wp2;go_ret;exact hf
  ·have hCS:=fun X (h:MS w B D u A k l true m d X)=>h.cells
   go_upto_region 14 with fail
   refine reS (MS w B D u A k l true m d) 99 (h.below (drewN_below _ _ 1)) (fun w1 _ h=>?_)
   iterate 5 refine reA ?_
   refine reZ 6 ?_;refine reZ 7 ?_;refine reZ 8 ?_;refine reZ 9 ?_;refine reZ 11 ?_;refine reZ 12 ?_;refine reZ 13 ?_;refine reZ 14 ?_;refine reC 5 (h.made HM c true m d (.inl rfl)) ?_;rintro e w1 ⟨r5,rfl,qr5,h,ho⟩;refine⟨_,rfl,h,fun h=>?_⟩;refine reC 10 (h.made HM c true m d (.inl rfl)) ?_;rintro e w1 ⟨r6,rfl,qr6,h,ho⟩;replace qr5:=qr5.onl ho h.hD;refine⟨_,rfl,h,fun h=>?_⟩;refine reC 15 (h.made HM c true m d (.inl rfl)) ?_;rintro e w1 ⟨r7,rfl,qr7,h,ho⟩;replace qr5:=qr5.onl ho h.hD;replace qr6:=qr6.onl ho h.hD;refine⟨_,rfl,h,fun h=>?_⟩;refine reV 16 (fun _=>h.below (zB _ _)) (fun _=>?_);refine reC 17 (h.a3 hK2 qr5 qr6 qr7) ?_;rintro e w1 ⟨v,rfl,hf,h,_⟩;refine⟨_,rfl,h,fun h=>?_⟩;refine reZ 18 ?_;refine reE ?_;go_wp2;go_ret;exact hf
  ·have hCS:=fun X (h:MS w B D u A k l true m d X)=>h.cells
   go_upto_region 15 with fail
   refine reS (MS w B D u A k l true m d) 99 (h.below (drewN_below _ _ 1)) (fun w1 _ h=>?_)
   iterate 1 refine reA ?_
   refine reZ 4 ?_;refine reZ 5 ?_;refine reZ 6 ?_;refine reZ 7 ?_;refine reZ 9 ?_;refine reZ 10 ?_;refine reZ 11 ?_;refine reZ 12 ?_;refine reC 1 (h.next 2 (by omega) (by omega)) ?_;rintro e w1 ⟨r3,hr3,rfl,h,_⟩;have hw:IntKind.i64.wrap (18+(r3:Int))=18+(r3:Int):=IntWalk.i64_in _ (by omega);refine⟨_,rfl,h,fun h=>?_⟩;refine reZ 2 ?_;refine reZ 3 ?_;refine reC 8 (h.made HM c true m d (.inl rfl)) ?_;rintro e w1 ⟨r5,rfl,qr5,h,ho⟩;refine⟨_,rfl,h,fun h=>?_⟩;refine reC 13 (h.made HM c true m d (.inl rfl)) ?_;rintro e w1 ⟨r6,rfl,qr6,h,ho⟩;replace qr5:=qr5.onl ho h.hD;refine⟨_,rfl,h,fun h=>?_⟩;refine reV 14 (fun _=>h.below (zB _ _)) (fun _=>?_);refine reC 15 (h.a2 hK2 qr5 qr6) ?_;rintro e w1 ⟨v,rfl,hf,h,_⟩;refine⟨_,rfl,h,fun h=>?_⟩;refine reZ 16 ?_;refine reE ?_;go_wp2;go_ret;exact hf
theorem made2:MadeC 13 2:=wmade_step 1 4 (by omega) (by omega) (by omega) (wmade_step 0 1 (by omega) (by omega) (by omega) (wmade_zero 0 (by omega)))
theorem made0:MadeC 13 0:=fun l A k c D u t m d w hs hd hu ht=>(wmade_zero 0 (by omega) l A k c D u t m d w hs hd hu ht).mono fun _ _ ⟨v,ns,h1,h2,h3⟩=>⟨v,ns,h1,Nat.le_trans h2 (by omega),h3⟩
theorem wMade8_any (l:List Sg) (A:Option Addr) (k c:Nat) (r:List Int × Hd) (t:Bool) (m d:Int) (w:World) (hk:k=l.length) (hm:k≤1000) (hr:Rd w A (sgs l)) (hA:∀ad,A=some ad→ad.block<w.heap.size) (hi:IR w w.heap.size r) (ht:t=true∨Ty4 m d):
  Calls Tryz.prog 36 #[.slice A k c,.agg #[.bool t,.int .i64 m,.int .i64 d],.slice r.2.a r.2.n r.2.c] w (NsRet 13 w):=by
 go_enter Tryz.func36,Tryz.ntmps36
 go_upto_region 1 with fail
 generalize hW:w.alloc _=W;obtain⟨hb,hg⟩:=zA hW;have hBD:w.heap.size<W.heap.size:=hb.lt;clear hW;generalize hB:w.heap.size=B at hb hBD⊢
 go_upto_region 2 with fail
 generalize hW:W.alloc _=W2;obtain⟨hd0,hg2⟩:=zA hW;have hb:=hb.below hg2 hb.lt;have hg3:=bstep hg hg2;have hs:SgR W2 W.heap.size A k l:=⟨hk,hm,hr.below hg3,fun ad e=>by have:=hA ad e;have:=hg.size;omega⟩
 have hds:DS W2 W.heap.size (W.heap.size+1):=⟨_,_,_,_,0,⟨hd0,hi.len,Nat.le_trans hi.cap hi.max,hi.rd.below hg3,hi.rng,fun hn ad e=>by have:=hi.lt hn ad e;have:=hg.size;omega,Nat.zero_le _⟩,Nat.lt_succ_self _,fun hn ad e=>by have:=hi.lt hn ad e;have:=hg.size;omega⟩
 have hu:W.heap.size+1≤W2.heap.size:=hd0.lt;have hwD:=hg.size;clear hW hk hm hr hA hi hd0 hg hg2;generalize W.heap.size=D at hs hds hu hBD hwD⊢;have hc:=fun X (h:Below W2.heap.size W2 X)=>And.intro ((hb.below h hb.lt).cells 0) (And.intro ((hb.below h hb.lt).cells 1) ((hb.below h hb.lt).cells 2))
 have hb2:=Below.refl W2.heap.size W2
 go_upto_region 3 with fail
 go_cut [29] from 12 to 28 (fun lv X=>(∃q:Bool,lv=.bool q)∧Below W2.heap.size W2 X)
 case first=>
  refine reS (Below W2.heap.size W2) 99 hb2.drew (fun w1 _ hS=>?_);cases t
  ·refine reZ 0 ?_;refine reZ 1 ?_;refine reZ 2 ?_;refine reZ 3 ?_;refine reZ 4 ?_;refine reC 5 (wKind_any 0 (by omega) _) ?_;rintro e w1 ⟨m1,d1,rfl,_,hb⟩;refine⟨_,rfl,bstep hS hb,fun hS=>?_⟩;clear hb;obtain⟨q1,hq1⟩:=zF (!decide ((⟨false,m,d⟩:Ty)=⟨false,m1,d1⟩));have HE:=fun W=>neq_ty ⟨false,m,d⟩ ⟨false,m1,d1⟩ W
   simp only[hq1,Ty.v] at HE;clear hq1;refine reZ 6 ?_;clear HE;cases q1
   ·refine reZ 7 ?_;refine reZ 8 ?_;refine reN 9 ?_;refine reN 10 ?_;refine reN 11 ?_;refine reZ 12 ?_;refine reZ 13 ?_;refine reN 14 ?_;refine reN 15 ?_;refine reN 16 ?_;refine reZ 17 ?_;refine reE ?_;go_wp2
    go_meet
    case rel=>exact⟨⟨_,rfl⟩,hS⟩
   ·refine reZ 7 ?_;refine reZ 8 ?_;refine reZ 9 ?_;refine reC 10 (wKind_any 1 (by omega) _) ?_;rintro e w1 ⟨m2,d2,rfl,_,hb⟩;refine⟨_,rfl,bstep hS hb,fun hS=>?_⟩;clear hb;obtain⟨q2,hq2⟩:=zF (!decide ((⟨false,m,d⟩:Ty)=⟨false,m2,d2⟩));have HE:=fun W=>neq_ty ⟨false,m,d⟩ ⟨false,m2,d2⟩ W
    simp only[hq2,Ty.v] at HE;clear hq2;refine reZ 11 ?_;clear HE;cases q2
    ·refine reZ 12 ?_;refine reZ 13 ?_;refine reN 14 ?_;refine reN 15 ?_;refine reN 16 ?_;refine reZ 17 ?_;refine reE ?_;go_wp2
     go_meet
     case rel=>exact⟨⟨_,rfl⟩,hS⟩
    ·refine reZ 12 ?_;refine reZ 13 ?_;refine reZ 14 ?_;refine reC 15 (wKind_any 2 (by omega) _) ?_;rintro e w1 ⟨m3,d3,rfl,_,hb⟩;refine⟨_,rfl,bstep hS hb,fun hS=>?_⟩;clear hb;obtain⟨q3,hq3⟩:=zF (!decide ((⟨false,m,d⟩:Ty)=⟨false,m3,d3⟩));have HE:=fun W=>neq_ty ⟨false,m,d⟩ ⟨false,m3,d3⟩ W
     simp only[hq3,Ty.v] at HE;clear hq3;refine reZ 16 ?_;clear HE;cases q3
     ·refine reZ 17 ?_;refine reE ?_;go_wp2
      go_meet
      case rel=>exact⟨⟨_,rfl⟩,hS⟩
     ·refine reZ 17 ?_;refine reE ?_;go_wp2
      go_meet
      case rel=>exact⟨⟨_,rfl⟩,hS⟩
  ·refine reZ 0 ?_;refine reZ 1 ?_;refine reZ 2 ?_;refine reZ 3 ?_;refine reN 4 ?_;refine reN 5 ?_;refine reN 6 ?_;refine reZ 7 ?_;refine reZ 8 ?_;refine reN 9 ?_;refine reN 10 ?_;refine reN 11 ?_;refine reZ 12 ?_;refine reZ 13 ?_;refine reN 14 ?_;refine reN 15 ?_;refine reN 16 ?_;refine reZ 17 ?_;refine reE ?_;go_wp2
   go_meet
   case rel=>exact⟨⟨_,rfl⟩,hS⟩
 case rest=>
  obtain⟨⟨q,rfl⟩,hX⟩:=hcut;obtain⟨c0,c1,c2⟩:=hc _ hX;clear hc;cases q
  ·go_wp2_with fail;refine (made2 l A k c D (D+1) t m d wc (hs.onl (Onl.of_below hX)) (hds.below hX) (Nat.le_trans hu hX.size) ht).mono ?_;rintro e w1 ⟨v,ns,rfl,h1,h2,h3,h4⟩;go_wp2;go_ret;exact⟨v,ns,rfl,h1,own_lower h2 (Nat.le_trans hg3.size hX.size),(bstep hg3 hX).trans (h4.below hwD (Nat.le_trans hg3.size hX.size))⟩
  ·go_wp2_with fail;refine (made0 l A k c D (D+1) t m d wc (hs.onl (Onl.of_below hX)) (hds.below hX) (Nat.le_trans hu hX.size) ht).mono ?_;rintro e w1 ⟨v,ns,rfl,h1,h2,h3,h4⟩;go_wp2;go_ret;exact⟨v,ns,rfl,h1,own_lower h2 (Nat.le_trans hg3.size hX.size),(bstep hg3 hX).trans (h4.below hwD (Nat.le_trans hg3.size hX.size))⟩
end Go.Proofs.YtmmbjngbeiokeaaGreatDoor
