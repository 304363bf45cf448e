/- A part of the proof: Qi Gf Wv Z5 Z7 Ug Uh. -/
import Derived.Test.YtimokmplkpbmdaaGreatDoorQ36
import Derived.Test.YtimokmplkpbmdaaGreatDoorQ37
set_option linter.all false
set_option maxRecDepth 100000
set_option maxHeartbeats 0
namespace Go.Proofs.YtimokmplkpbmdaaGreatDoor
open Go.RowKit
theorem pV.apart {l:Lw} (h:pV l):(l.facts.map Dc.name).Nodup/\(l.aU.map Sc.name).Nodup/\(l.aH.map Pv.name).Nodup/\(∀a∈l.facts.map Dc.name,a∉l.aU.map Sc.name/\a∉l.aH.map Pv.name)/\∀a∈l.aU.map Sc.name,a∉l.aH.map Pv.name:=by
 have hn:=List.nodup_append.1 (Dj.sublist (h.f.append (h.s.append h.p)));have hm:=List.nodup_append.1 hn.2.1;exact⟨hn.1,hm.1,hm.2.1,fun a ha=>⟨fun hb=>hn.2.2 a ha a (List.mem_append.2 (.inl hb)) rfl,fun hb=>hn.2.2 a ha a (List.mem_append.2 (.inr hb)) rfl⟩,fun a ha hb=>hm.2.2 a ha a hb rfl⟩
theorem Ot {α:Type} (enc:α->List Value) (m:Nat) (hm:∀a,(enc a).length=m) (xs:List α) (k:Nat):(xs.take k).flatMap enc=(xs.flatMap enc).take (k*m)/\(xs.drop k).flatMap enc=(xs.flatMap enc).drop (k*m):=by
 induction xs generalizing k with
 |nil=>simp
 |cons a xs ih=>
  cases k with
  |zero=>simp
  |succ k=>
   obtain⟨h1,h2⟩:=ih k;have e:(k+1)*m=(enc a).length+k*m:=by rw[hm,Nat.add_mul];omega
   rw[List.take_succ_cons,List.drop_succ_cons,List.flatMap_cons,List.flatMap_cons,e,List.take_length_add_append,List.drop_length_add_append,h1,h2];exact⟨rfl,rfl⟩
theorem qx {α:Type} {enc:α->List Value} {m:Nat} (hm:∀a,(enc a).length=m) (xs:List α):(xs.flatMap enc).length=xs.length*m:=by
 induction xs with
 |nil=>simp
 |cons a xs ih=>rw[List.flatMap_cons,List.length_append,ih,hm,List.length_cons,Nat.add_mul];omega
theorem Ou {α:Type} {W:World} {enc:α->List Value} {m:Nat} (hm:∀a,(enc a).length=m) {xs:List α} {z:Hd} (h:aJ W enc xs z) (k:Nat):Rd W z.a ((xs.take k).flatMap enc):=by rw[(Ot enc m hm xs k).1];exact h.rd.take _
theorem row_drop {α:Type} {W:World} {enc:α->List Value} {m:Nat} (hm:∀a,(enc a).length=m) {xs:List α} {b off n c:Nat} (h:aJ W enc xs ⟨some ⟨b,off,none⟩,n,c⟩) (k:Nat):Rd W (if c=k then some ⟨b,off,none⟩ else some ⟨b,off+k*m,none⟩) ((xs.drop k).flatMap enc):=by
 split
 ·rename_i e;have h1:=h.len;have h2:=h.cap;simp only at h1 h2;rw[List.drop_of_length_le (by omega)];exact .inl rfl
 ·rw[(Ot enc m hm xs k).2];exact acK h.rd _
theorem cells_one {α:Type} {enc:α->List Value} (h:∀a,∀u∈enc a,u.oneCell'=true) (xs:List α):∀u∈xs.flatMap enc,u.oneCell'=true:=by
 intro u hu;obtain⟨a,_,ha⟩:=List.mem_flatMap.1 hu;exact h a u ha
theorem Rq {α:Type} {xs:List α} (k:Nat):∀x∈xs.take k++xs.drop (k+1),x∈xs:=fun x hx=>(List.mem_append.1 hx).elim List.mem_of_mem_take List.mem_of_mem_drop
theorem Ov (a:Pv × Hd):∀u∈aA a,u.oneCell'=true:=by
 intro u hu;simp[aA] at hu;rcases hu with rfl|rfl|rfl|rfl|rfl|rfl|rfl|rfl|rfl|rfl|rfl|rfl<;>rfl
def Yp (w:World) (x:Sc × Hd):Prop:=x.1.name.size<=25/\x.1.bI.length<=10/\(∀b∈x.1.bI,rH b)/\aJ w Bk.cells x.1.bI x.2
def Ij (w:World) (x:Pv × Hd):Prop:=x.1.name.size<=25/\jH x.1.step/\jH x.1.cap/\(∀n∈x.1.body,Fine n)/\aJ w Nd.cells x.1.body x.2
structure BS (w W:World) (C:Nat) (qs:List Value) (fs:List Dc) (ss:List (Sc × Hd)) (ps:List (Pv × Hd)) (f s p:Hd):Prop where
 b:aj W C 28 [.slice f.a f.n f.c,.slice s.a s.n s.c,.slice p.a p.n p.c]
 q:aj W (C+1) 58 qs
 r:aj W (C+1+1) 28 [.slice none 0 0,.slice none 0 0,.slice none 0 0]
 f:W.ownsRow (C+3) 36 4 (.slice f.a f.n f.c) fs.length (fs.flatMap Dc.cells)
 s:W.ownsRow (C+3) 39 4 (.slice s.a s.n s.c) ss.length (ss.flatMap bK)
 p:W.ownsRow (C+3) 45 12 (.slice p.a p.n p.c) ps.length (ps.flatMap aA)
 on:Below w.heap.size w W
 hC:w.heap.size<=C
 gf:fs.length<=25/\∀d∈fs,d.name.size<=25
 gs:ss.length<=10/\∀x∈ss,Yp w x
 gp:ps.length<=35/\∀x∈ps,Ij w x
 ne:fs≠[]∨ps≠[]
section
variable {w W X:World} {C:Nat} {qs:List Value} {fs:List Dc} {ss:List (Sc × Hd)} {ps:List (Pv × Hd)} {f s p:Hd}
theorem BS.below (h:BS w W C qs fs ss ps f s p) (hb:Below W.heap.size W X):BS w X C qs fs ss ps f s p:=
 ⟨h.b.below hb h.b.lt,h.q.below hb h.q.lt,h.r.below hb h.r.lt,own_below h.f hb,own_below h.s hb,own_below h.p hb,ah h.on hb,h.hC,h.gf,h.gs,h.gp,h.ne⟩
theorem BS.at (h:BS w W C qs fs ss ps f s p):dV W ⟨fs,ss.map Prod.fst,ps.map Prod.fst⟩ ss ps f s p:=
 ⟨iP h.f,iP h.s,iP h.p,rfl,rfl,fun x hx=>(h.gs.2 x hx).2.2.2.below h.on,fun x hx=>(h.gp.2 x hx).2.2.2.2.below h.on⟩
theorem BS.afx (h:BS w W C qs fs ss ps f s p) (z:Hd) (xs:List Dc) (hn:xs≠[]∨ps≠[]) (hl:xs.length<=fs.length) (hx:∀x∈xs,x∈fs) (ho:W.ownsRow (C+3) 36 4 (.slice z.a z.n z.c) xs.length (xs.flatMap Dc.cells)):BS w (W.setCell ⟨C,0,none⟩ (.slice z.a z.n z.c)) C qs xs ss ps z s p:=
 ⟨h.b.set 0 _,h.q.other (by show C+1≠C;omega) _,h.r.other (by show C+1+1≠C;omega) _,aK h.b ho (by decide) 0 _,aK h.b h.s (by decide) 0 _,aK h.b h.p (by decide) 0 _,h.on.setCell (p:=⟨C,0,none⟩) h.hC _,h.hC,⟨Nat.le_trans hl h.gf.1,fun d hd=>h.gf.2 d (hx d hd)⟩,h.gs,h.gp,hn⟩
theorem BS.afy (h:BS w W C qs fs ss ps f s p) (z:Hd) (xs:List (Pv × Hd)) (hn:fs≠[]∨xs≠[]) (hl:xs.length<=ps.length) (hx:∀x∈xs,x∈ps) (ho:W.ownsRow (C+3) 45 12 (.slice z.a z.n z.c) xs.length (xs.flatMap aA)):BS w (W.setCell ⟨C,2,none⟩ (.slice z.a z.n z.c)) C qs fs ss xs f s z:=
 ⟨h.b.set 2 _,h.q.other (by show C+1≠C;omega) _,h.r.other (by show C+1+1≠C;omega) _,aK h.b h.f (by decide) 2 _,aK h.b h.s (by decide) 2 _,aK h.b ho (by decide) 2 _,h.on.setCell (p:=⟨C,2,none⟩) h.hC _,h.hC,h.gf,h.gs,⟨Nat.le_trans hl h.gp.1,fun d hd=>h.gp.2 d (hx d hd)⟩,hn⟩
theorem BS.tf {T:TypeId} {P:Nat} (h:BS w W C qs fs ss ps f s p) (tf:TF T W X) (on:aF P W X) (hP:w.heap.size<=P) (hT:T≠28/\T≠58):
  aj X C 28 [.slice f.a f.n f.c,.slice s.a s.n s.c,.slice p.a p.n p.c]/\aj X (C+1) 58 qs/\aj X (C+1+1) 28 [.slice none 0 0,.slice none 0 0,.slice none 0 0]/\Below w.heap.size w X:=
 ⟨tf.blk h.b hT.1.symm,tf.blk h.q hT.2.symm,tf.blk h.r hT.1.symm,h.on.trans (on.below hP h.on.size)⟩
theorem BS.fin (h:BS w W C qs fs ss ps f s p) (u0 u1 u2:Value) {X:World} (hX:((W.setCell ⟨C+1+1,0,none⟩ u0).setCell ⟨C+1+1,1,none⟩ u1).setCell ⟨C+1+1,2,none⟩ u2=X):aj X (C+1+1) 28 [u0,u1,u2]/\dV X ⟨fs,ss.map Prod.fst,ps.map Prod.fst⟩ ss ps f s p/\Below w.heap.size w X:=by
 subst hX;have hC:w.heap.size<=C+1+1:=by have:=h.hC;omega
 have k1:=h.r.set 0 u0;have k2:=k1.set 1 u1;have hb:Below w.heap.size w (((W.setCell ⟨C+1+1,0,none⟩ u0).setCell ⟨C+1+1,1,none⟩ u1).setCell ⟨C+1+1,2,none⟩ u2):=((h.on.setCell (p:=⟨C+1+1,0,none⟩) hC _).setCell (p:=⟨C+1+1,1,none⟩) hC _).setCell (p:=⟨C+1+1,2,none⟩) hC _;exact⟨k2.set 2 u2,⟨iP (aK k2 (aK k1 (aK h.r h.f (by decide) 0 _) (by decide) 1 _) (by decide) 2 _),iP (aK k2 (aK k1 (aK h.r h.s (by decide) 0 _) (by decide) 1 _) (by decide) 2 _),iP (aK k2 (aK k1 (aK h.r h.p (by decide) 0 _) (by decide) 1 _) (by decide) 2 _),rfl,rfl,fun x hx=>(h.gs.2 x hx).2.2.2.below hb,fun x hx=>(h.gp.2 x hx).2.2.2.2.below hb⟩,hb⟩
variable {g n c:Nat}
theorem KE {α:Type} {enc:α->List Value} {m B:Nat} {T:TypeId} {xs:List α} (hm:∀a,(enc a).length=m) (h0:0<m) (h:W.ownsRow B T m (.slice (some ⟨g,0,none⟩) n c) xs.length (xs.flatMap enc)) {k:Nat} (hk:k<xs.length) (i:Nat) (v:Value) (hv:(enc xs[k])[i]?=some v):W.cell? ⟨g,k*m+i,none⟩=some v:=by
 obtain⟨b,off,hA,_,_,hc⟩:=aJ.at (A:=some ⟨g,0,none⟩) (n:=n) (c:=c) m hm h0 (iP (h:=⟨some ⟨g,0,none⟩,n,c⟩) h) (by rw[(nG h).1];exact hk);injection hA with hA;injection hA with h1 h2;subst h1 h2;have:=hc W (Below.refl _ _) i v hv;rwa[Nat.zero_add] at this
theorem BS.afG (h:BS w W C qs fs ss ps ⟨some ⟨g,0,none⟩,n,c⟩ s p) (k:Nat) (hk:k<fs.length) (x:Dc) (o:Nat) (vs:List Value) (ho:o+vs.length<=4) (hx:mF fs[k].cells o vs=x.cells) (gx:x.name.size<=25):BS w (W.setCells g (k*4+o) vs) C qs (fs.set k x) ss ps ⟨some ⟨g,0,none⟩,n,c⟩ s p:=by
 have hf:=h.f;obtain rfl:n=fs.length:=(nG hf).1;obtain⟨ow,on,tf⟩:=zy (enc:=Dc.cells) (m:=4) (fun _=>rfl) hf k hk x o vs ho hx;obtain⟨a1,a2,a3,a4⟩:=h.tf tf on (by have:=(hf.lt g rfl).1;have:=h.hC;omega) (by decide);exact⟨a1,a2,a3,by rw[List.length_set];exact ow,tf.own h.s (by decide),tf.own h.p (by decide),a4,h.hC,⟨by rw[List.length_set];exact h.gf.1,fun y hy=>(List.mem_or_eq_of_mem_set hy).elim (h.gf.2 y) (fun e=>e ▸ gx)⟩,h.gs,h.gp,h.ne.imp (fun e e2=>e (by simpa using congrArg List.length e2)) id⟩
theorem BS.aaK (h:BS w W C qs fs ss ps f ⟨some ⟨g,0,none⟩,n,c⟩ p) (k:Nat) (hk:k<ss.length) (x:Sc × Hd) (o:Nat) (vs:List Value) (ho:o+vs.length<=4) (hx:mF (bK ss[k]) o vs=bK x) (gx:Yp w x):BS w (W.setCells g (k*4+o) vs) C qs fs (ss.set k x) ps f ⟨some ⟨g,0,none⟩,n,c⟩ p:=by
 have hf:=h.s;obtain rfl:n=ss.length:=(nG hf).1;obtain⟨ow,on,tf⟩:=zy (enc:=bK) (m:=4) (fun _=>rfl) hf k hk x o vs ho hx;obtain⟨a1,a2,a3,a4⟩:=h.tf tf on (by have:=(hf.lt g rfl).1;have:=h.hC;omega) (by decide);exact⟨a1,a2,a3,tf.own h.f (by decide),by rw[List.length_set];exact ow,tf.own h.p (by decide),a4,h.hC,h.gf,⟨by rw[List.length_set];exact h.gs.1,fun y hy=>(List.mem_or_eq_of_mem_set hy).elim (h.gs.2 y) (fun e=>e ▸ gx)⟩,h.gp,h.ne⟩
theorem BS.afH (h:BS w W C qs fs ss ps f s ⟨some ⟨g,0,none⟩,n,c⟩) (k:Nat) (hk:k<ps.length) (x:Pv × Hd) (o:Nat) (vs:List Value) (ho:o+vs.length<=12) (hx:mF (aA ps[k]) o vs=aA x) (gx:Ij w x):BS w (W.setCells g (k*12+o) vs) C qs fs ss (ps.set k x) f s ⟨some ⟨g,0,none⟩,n,c⟩:=by
 have hf:=h.p;obtain rfl:n=ps.length:=(nG hf).1;obtain⟨ow,on,tf⟩:=zy (enc:=aA) (m:=12) (fun _=>rfl) hf k hk x o vs ho hx;obtain⟨a1,a2,a3,a4⟩:=h.tf tf on (by have:=(hf.lt g rfl).1;have:=h.hC;omega) (by decide);exact⟨a1,a2,a3,tf.own h.f (by decide),tf.own h.s (by decide),by rw[List.length_set];exact ow,a4,h.hC,h.gf,h.gs,⟨by rw[List.length_set];exact h.gp.1,fun y hy=>(List.mem_or_eq_of_mem_set hy).elim (h.gp.2 y) (fun e=>e ▸ gx)⟩,h.ne.imp id (fun e e2=>e (by simpa using congrArg List.length e2))⟩
theorem aj.sets {P:Nat} {T:TypeId} (vs:List Value):∀{W:World} {cs:List Value} (o:Nat),aj W P T cs->aj (W.setCells P o vs) P T (mF cs o vs):=by
 induction vs with
 |nil=>intro W cs o h;exact h
 |cons v vs ih=>intro W cs o h;exact ih (o+1) (h.set o v)
structure BT (w W:World) (C:Nat) (qs:List Value) (fs:List Dc) (ss:List (Sc × Hd)) (ps:List (Pv × Hd)) (f s:Hd) (g n c P:Nat) (y:Pv × Hd):Prop where
 h:BS w W C qs fs ss ps f s ⟨some ⟨g,0,none⟩,n,c⟩
 kp:aj W P 45 (aA y)
 lt:g<P
 gy:Ij w y
variable {P:Nat} {y:Pv × Hd}
theorem BT.put (k:BT w W C qs fs ss ps f s g n c P y) (y':Pv × Hd) (o:Nat) (vs:List Value) (hx:mF (aA y) o vs=aA y') (gy:Ij w y'):BT w (W.setCells P o vs) C qs fs ss ps f s g n c P y':=by
 have on:aF P W (W.setCells P o vs):=FH vs W _ (aF.refl _ _);have tf:TF 45 W (W.setCells P o vs):=on.tf (show W.heap[P]?=_ from k.kp);have hg:=(k.h.p.lt g rfl).1;obtain⟨a1,a2,a3,a4⟩:=k.h.tf tf on (by have:=k.h.hC;have:=k.lt;omega) (by decide);refine⟨⟨a1,a2,a3,tf.own k.h.f (by decide),tf.own k.h.s (by decide),xA k.h.p fun j ej _=>on.block j (k.h.p.lt j ej).2 (fun e=>?_),a4,k.h.hC,k.h.gf,k.h.gs,k.h.gp,k.h.ne⟩,hx ▸ aj.sets vs o k.kp,k.lt,gy⟩;have ej:some g=some j:=ej;injection ej with ej;have:=k.lt;omega
theorem BT.below (k:BT w W C qs fs ss ps f s g n c P y) (hb:Below W.heap.size W X):BT w X C qs fs ss ps f s g n c P y:=⟨k.h.below hb,k.kp.below hb k.kp.lt,k.lt,k.gy⟩
theorem BT.rowT (h:BT w W C qs fs ss ps f s g n c P y) (k:Nat) (hk:k<ps.length) (x:Pv × Hd) (gx:Ij w x):BT w (W.setCells g (k*12) (aA x)) C qs fs ss (ps.set k x) f s g n c P y:=
 ⟨h.h.afH k hk x 0 (aA x) (Nat.le_refl _) rfl gx,(FH (aA x) W _ (aF.refl _ _)).blk h.kp (by have:=h.lt;omega),h.lt,h.gy⟩
theorem BT.row (h:BT w W C qs fs ss ps f s g n c P y) (k:Nat) (hk:k<ps.length):BS w (W.setCells g (k*12) (aA y)) C qs fs ss (ps.set k y) f s ⟨some ⟨g,0,none⟩,n,c⟩:=h.h.afH k hk y 0 (aA y) (Nat.le_refl _) rfl h.gy
end
theorem FK (q:Int) {n:Nat} (h:0<n):∃a:Nat,a<n/\q % (n:Int)=a:=by
 have h1:=Int.emod_lt_of_pos q (show (0:Int)<(n:Int) by omega);have h2:=Int.emod_nonneg q (show (n:Int)≠0 by omega);exact⟨(q % (n:Int)).toNat,by omega,by omega⟩
theorem U9 {P:Program} {W:World} {ops:Array Oper} {rest:List Oper} {o:Oper} {a:Act} {Q:Exit->Act->World->Prop} {s x:Operand} {t e:TypeId} {z:Value} {size bytes n c:Nat} {A:Option Addr} {xs:List Value} {a':Value->Act}
  (hinfo:(P.info? e).map (fun i=>(i.zero,i.size,i.bytes))=some (some z,size,bytes)) (ht:P.underlying t=some (.slice e)) (hR:Rd W A xs) (hl:xs.length=n*size) (h1:∀u∈xs,u.oneCell'=true) (hn:n<=100000) (h0:0<n)
  (h:∀g cp w',w'.ownsRow W.heap.size e size (.slice (some ⟨g,0,none⟩) n cp) n xs->Below W.heap.size W w'->wpList P ops Q rest (a' (.slice (some ⟨g,0,none⟩) n cp)) w')
  (hgd:o.guard=none:=by rfl) (ho:o.op=.call {callee:=.builtin .append,args:=#[s,x],argTypes:=#[t,t]}:=by rfl) (hs:a.eval s=.slice (some ⟨W.heap.size,0,none⟩) 0 0:=by rfl) (hx:a.eval x=.slice A n c:=by rfl)
  (hzs:z.cells.size=size:=by rfl) (hsz:0<size:=by decide) (hby:bytes<=1000:=by decide) (ha:∀v,a.put o.dst v=a' v:=by (intro v;rfl)):wpList P ops Q (o::rest) a (W.alloc (.cells #[] e)):=by
 have hb:=zB W (.cells #[] e);refine qh _ hgd s x t ho W.heap.size e z size bytes ht hinfo hzs hsz _ 0 [] hs (tq W #[] e size 0 W.heap.size (by simp) (by omega) (Nat.le_refl _)) A n c xs hx (hR.below hb) hl h1 (by unfold maxLen;omega) (Nat.le_trans (Nat.mul_le_mul (show 0+n<=100000 by omega) hby) (by decide)) hb.size (fun v w' h2 h3=>?_);rw[Nat.zero_add,List.nil_append] at h2;obtain⟨g,cp,rfl,_⟩:=wP h2 h0;rw[ha];exact h g cp w' h2 (hb.trans h3)
theorem zA3 {w W:World} {cs ds es:Array Value} {t u v:TypeId} (h:((w.alloc (.cells cs t)).alloc (.cells ds u)).alloc (.cells es v)=W):aj W w.heap.size t cs.toList/\aj W (w.heap.size+1) u ds.toList/\aj W (w.heap.size+1+1) v es.toList/\Below w.heap.size w W/\W.heap.size=w.heap.size+3:=by
 obtain⟨k1,b1⟩:=zA (w:=w) (cs:=cs) (t:=t) rfl;obtain⟨k2,b2⟩:=zA (w:=w.alloc (.cells cs t)) (cs:=ds) (t:=u) rfl;obtain⟨k3,b3⟩:=zA h;have e:W.heap.size=w.heap.size+3:=by rw[<-h,World.size_alloc,World.size_alloc,World.size_alloc]
 rw[World.size_alloc,World.size_alloc] at k3;rw[World.size_alloc] at k2;exact⟨(k1.below b2 k1.lt).below b3 (Nat.lt_of_lt_of_le k1.lt b2.size),k2.below b3 k2.lt,k3,ah (ah b1 b2) b3,e⟩
structure B3 (w W:World) (C:Nat) (qs vs:List Value):Prop where
 b:aj W C 28 vs
 q:aj W (C+1) 58 qs
 r:aj W (C+1+1) 28 [.slice none 0 0,.slice none 0 0,.slice none 0 0]
 on:Below w.heap.size w W
 hC:w.heap.size<=C
theorem B3.below {w W X:World} {C:Nat} {qs vs:List Value} (h:B3 w W C qs vs) (hb:Below W.heap.size W X):B3 w X C qs vs:=⟨h.b.below hb h.b.lt,h.q.below hb h.q.lt,h.r.below hb h.r.lt,ah h.on hb,h.hC⟩
theorem B3.set {w W:World} {C:Nat} {qs vs:List Value} (h:B3 w W C qs vs) (i:Nat) (u:Value):B3 w (W.setCell ⟨C,i,none⟩ u) C qs (vs.set i u):=
 ⟨h.b.set i u,h.q.other (by show C+1≠C;omega) _,h.r.other (by show C+1+1≠C;omega) _,h.on.setCell (p:=⟨C,i,none⟩) h.hC _,h.hC⟩
def aiV (w:World) (e:Ending) (w':World):Prop:=∃(fs:List Dc) (ss:List (Sc × Hd)) (ps:List (Pv × Hd)) (f s p:Hd),e=.returned (dR f s p)/\dV w' ⟨fs,ss.map Prod.fst,ps.map Prod.fst⟩ ss ps f s p/\(fs.length<=25/\∀d∈fs,d.name.size<=25)/\(ss.length<=10/\∀x∈ss,Yp w x)/\(ps.length<=35/\∀x∈ps,Ij w x)/\(fs≠[]∨ps≠[])/\Below w.heap.size w w'
theorem Va (l:Lw) (ss:List (Sc × Hd)) (ps:List (Pv × Hd)) (f s p:Hd) (w:World) (h:dV w l ss ps f s p) (gf:l.facts.length<=25/\∀d∈l.facts,d.name.size<=25) (gs:ss.length<=10/\∀x∈ss,Yp w x) (gp:ps.length<=35/\∀x∈ps,Ij w x) (h0:0<l.facts.length/\0<ss.length/\0<ps.length)
  (q0 q1 q2:Int) (r0:-9223372036854775808<=q0/\q0<=9223372036854775807) (r1:-9223372036854775808<=q1/\q1<=9223372036854775807) (r2:-9223372036854775808<=q2/\q2<=9223372036854775807):
  Calls Tryz.prog 15 #[dR f s p,.agg #[.int .i64 q0,.int .i64 q1,.int .i64 q2]] w (aiV w):=by
 obtain⟨fa,fn,fc⟩:=f;obtain⟨sa,sn,sc⟩:=s;obtain⟨pa,pn,pc⟩:=p;have EN:Hid (fn=l.facts.length):=h.f.len;have qQ:Hid (sn=ss.length):=h.s.len;have EY:Hid (pn=ps.length):=h.p.len;have hfn:fn<=25/\0<fn:=by rw[EN.out];exact⟨gf.1,h0.1⟩
 have hsn:sn<=10/\0<sn:=by rw[qQ.out];exact⟨gs.1,h0.2.1⟩
 have hpn:pn<=35/\0<pn:=by rw[EY.out];exact⟨gp.1,h0.2.2⟩
 have HF:=zH h.f.rd;have HS:=zH h.s.rd;have HP:=zH h.p.rd;have HG:=zH (And.intro gf (And.intro gs gp));have HR:=zH (And.intro r0 (And.intro r1 r2));clear h gf gs gp h0 r0 r1 r2;unfold dR;dsimp only at HF HS HP;go_enter Tryz.func15,Tryz.ntmps15
 go_upto_region 1 with fail
 generalize hX:((w.alloc _).alloc _).alloc _=W1;obtain⟨k1,k2,k3,hb,hsz⟩:=zA3 hX;have k:B3 w W1 w.heap.size _ _:=⟨k1,k2,k3,hb,Nat.le_refl _⟩
 clear hX k1 k2 k3 hb;generalize hC:w.heap.size=C at k hsz⊢;have BN:=zH hsz;clear hsz hC;have hc:=(k.below (zB W1 (.cells #[] 36))).b.cells;go_wp2_with (at_builtin;go_must (refine U9 (n:=fn) Ig Tryz.underlying24 (HF.out.below k.on) (by rw[qx (m:=4) (fun _=>rfl),EN.out]) (cells_one (fun a u hu=>by simp[Dc.cells] at hu;rcases hu with rfl|rfl|rfl|rfl<;>rfl) _) (by omega) hfn.2 ?_));intro g1 c1 X1 o1 b1;have k:=k.below b1;have o1:=bW o1 (show C+3<=_ from Nat.le_of_eq BN.out.symm);clear hc b1;have hc:=k.b.cells;have hz:=k.b.aI
 go_upto_region 2 with fail
 have o1:=aK k.b o1 (by decide) 0 (.slice (some ⟨g1,0,none⟩) fn c1);have k:=k.set 0 (.slice (some ⟨g1,0,none⟩) fn c1);generalize X1.setCell _ _=W2 at k o1⊢;clear hc hz;have hc:=(k.below (zB W2 (.cells #[] 39))).b.cells;go_wp2_with (at_builtin;go_must (refine U9 (n:=sn) Yh Tryz.underlying25 (HS.out.below k.on) (by rw[qx (m:=4) (fun _=>rfl),qQ.out]) (cells_one (fun a u hu=>by simp[bK] at hu;rcases hu with rfl|rfl|rfl|rfl<;>rfl) _) (by omega) hsn.2 ?_));intro g2 c2 X2 o2 b2;have o2:=bW o2 (show C+3<=_ from k.r.lt);have k:=k.below b2;have o1:=own_below o1 b2;clear hc b2;have hc:=k.b.cells;have hz:=k.b.aI
 go_upto_region 3 with fail
 have o1:=aK k.b o1 (by decide) 1 (.slice (some ⟨g2,0,none⟩) sn c2);have o2:=aK k.b o2 (by decide) 1 (.slice (some ⟨g2,0,none⟩) sn c2);have k:=k.set 1 (.slice (some ⟨g2,0,none⟩) sn c2);generalize X2.setCell _ _=W3 at k o1 o2⊢;clear hc hz;have hc:=(k.below (zB W3 (.cells #[] 45))).b.cells;go_wp2_with (at_builtin;go_must (refine U9 (n:=pn) La Tryz.underlying26 (HP.out.below k.on) (by rw[qx (m:=12) (fun _=>rfl),EY.out]) (cells_one Ov _) (by omega) hpn.2 ?_));intro g3 c3 X3 o3 b3;have o3:=bW o3 (show C+3<=_ from k.r.lt);have k:=k.below b3;have o1:=own_below o1 b3;have o2:=own_below o2 b3;clear hc b3;have hc:=k.b.cells;have hz:=k.b.aI
 go_upto_region 4 with fail
 have o1:=aK k.b o1 (by decide) 2 (.slice (some ⟨g3,0,none⟩) pn c3);have o2:=aK k.b o2 (by decide) 2 (.slice (some ⟨g3,0,none⟩) pn c3);have o3:=aK k.b o3 (by decide) 2 (.slice (some ⟨g3,0,none⟩) pn c3);have k:=k.set 2 (.slice (some ⟨g3,0,none⟩) pn c3);generalize X3.setCell _ _=W4 at k o1 o2 o3⊢
 have B:BS w W4 C [.int .i64 q0,.int .i64 q1,.int .i64 q2] l.facts ss ps ⟨some ⟨g1,0,none⟩,fn,c1⟩ ⟨some ⟨g2,0,none⟩,sn,c2⟩ ⟨some ⟨g3,0,none⟩,pn,c3⟩:=
  ⟨k.b,k.q,k.r,by rw[<-EN.out];exact o1,by rw[<-qQ.out];exact o2,by rw[<-EY.out];exact o3,k.on,k.hC,HG.out.1,HG.out.2.1,HG.out.2.2,.inr (fun e=>by have:=EY.out;rw[e] at this;simp at this;omega)⟩
 clear hc hz k o1 o2 o3 HF HS HP BN HG;obtain⟨r0,r1,r2⟩:=HR.out;obtain⟨at3,a3,m3⟩:=FK q1 hpn.2;obtain⟨kW,a1,m1⟩:=FK q1 hfn.2;obtain⟨at2,a2,m2⟩:=FK q1 hsn.2;obtain⟨ni,ai,mi⟩:=FK q2 (show 0<8 by omega);obtain⟨sw,asw,msw⟩:=FK q0 (show 0<14 by omega);have M3:=zH (fun W=>mO q1 pn W r1.1 r1.2 (by omega) (by omega));have M1:=zH (fun W=>mO q1 fn W r1.1 r1.2 (by omega) (by omega));have M2:=zH (fun W=>mO q1 sn W r1.1 r1.2 (by omega) (by omega));have MI:=zH (fun W=>mO q2 8 W r2.1 r2.2 (by omega) (by omega));have MS:=zH (fun W=>mO q0 14 W r0.1 r0.2 (by omega) (by omega));rw[m3] at M3;rw[m1] at M1;rw[m2] at M2;rw[show (8:Int)=((8:Nat):Int) from rfl,mi] at MI;rw[show (14:Int)=((14:Nat):Int) from rfl,msw] at MS;clear m3 m1 m2 mi msw r0 r1 r2;have hc:=B.b.cells;have hq:=B.q.cells;go_wp2_with fail;refine (M3.out _).mono ?_;rintro e w5 ⟨rfl,rfl⟩;clear M3;go_wp2_with fail;refine (M1.out _).mono ?_;rintro e w5 ⟨rfl,rfl⟩;clear M1;go_wp2_with fail;refine (M2.out _).mono ?_;rintro e w5 ⟨rfl,rfl⟩;clear M2;have a4:at3<ps.length:=by rw[<-EY.out];exact a3
 have hpc:=rO B.p rfl a4;have j0:(0:Int)<=(at3:Int):=by omega
 have j1:(at3:Int)<(pn:Int):=by omega
 obtain⟨y,hy⟩:=zE ps[at3];have gy:Ij w y:=hy ▸ B.gp.2 _ (List.getElem_mem a4);simp only[<-hy] at hpc;clear hy
 go_upto_region 8 with fail
 generalize hX:W4.alloc _=W5;obtain⟨kP,b5⟩:=zA hX;have glt:g3<W4.heap.size:=(B.p.lt g3 rfl).2;have T:BT w W5 C [.int .i64 q0,.int .i64 q1,.int .i64 q2] l.facts ss ps ⟨some ⟨g1,0,none⟩,fn,c1⟩ ⟨some ⟨g2,0,none⟩,sn,c2⟩ g3 pn c3 W4.heap.size y:=⟨B.below b5,kP,glt,gy⟩
 generalize W4.heap.size=P at T⊢;clear hX hc hq hpc B kP b5 glt gy;have hc:=T.h.b.cells;have hq:=T.h.q.cells;go_wp2_with fail;refine (MI.out _).mono ?_;rintro e w5 ⟨rfl,rfl⟩
 obtain⟨nm,hnm,hix⟩:∃nm:ByteArray,Hid (nm.size<=25)/\∀W,Sem.run Tryz.prog (Instr.index 98 (.agg #[.string ⟨#[98,97,115,101]⟩,.string ⟨#[97,103,101]⟩,.string ⟨#[98,97,115,105,99]⟩,.string ⟨#[111,116,104,101,114]⟩,.string ⟨#[]⟩,.string ⟨#[84,97,120]⟩,.string ⟨#[116,97,120]⟩,.string ⟨#[122,122,122,122,122,122,122,122,122,122,122,122,122,122,122,122,122,122,122,122,122]⟩]) (.int .i64 (ni:Int))) W=Result.ok (.string nm) W:=by
  obtain rfl|rfl|rfl|rfl|rfl|rfl|rfl|rfl:ni=0∨ni=1∨ni=2∨ni=3∨ni=4∨ni=5∨ni=6∨ni=7:=by omega
  all_goals exact⟨_,by show _<=_;decide,fun W=>rfl⟩
 clear MI ai
 go_upto_region 9 with fail
 clear hix;go_wp2_with fail;refine (MS.out _).mono ?_;rintro e w5 ⟨rfl,rfl⟩;clear MS hc hq;obtain⟨⟨n0,⟨t0,t1,t2⟩,ch,⟨s0,s1,s2⟩,⟨c0,c1',c2'⟩,bd⟩,⟨ya,yn,yc⟩⟩:=y;have a1':kW<l.facts.length:=by rw[<-EN.out];exact a1
 have a2':at2<ss.length:=by rw[<-qQ.out];exact a2
 go_upto_block 0 with fail
 go_cut [] from 57 to 221 (fun X=>∃fs ss ps f s p,BS w X C [.int .i64 q0,.int .i64 q1,.int .i64 q2] fs ss ps f s p)
 case first=>
  have hc:=T.h.b.cells;have hq:=T.h.q.cells;have hp:=T.kp.cells;unfold aA at hp;dsimp only at hp;have hpz:=T.kp.aI;have zf:=kM T.h.f;have zs:=kM T.h.s;have zp:=kM T.h.p;have Yq:=KE (enc:=Dc.cells) (fun _=>rfl) (by omega) T.h.f a1';have Yr:=KE (enc:=bK) (fun _=>rfl) (by omega) T.h.s a2';have e0:=Yq 0 _ rfl;rw[Nat.add_zero] at e0;have e1:=Yq 1 _ rfl;have e2:=Yq 2 _ rfl;have e3:=Yq 3 _ rfl;have e4:=Yr 0 _ rfl;rw[Nat.add_zero] at e4;have e5:=Yr 1 _ rfl;have e6:=Yr 2 _ rfl;have e7:=Yr 3 _ rfl;clear Yq Yr;have j2:(0:Int)<=(kW:Int):=by omega
  have j3:(kW:Int)<(fn:Int):=by omega
  have j4:(0:Int)<=(at2:Int):=by omega
  have j5:(at2:Int)<(sn:Int):=by omega
  obtain rfl|rfl|rfl|rfl|rfl|rfl|rfl|rfl|rfl|rfl|rfl|rfl|rfl|rfl:sw=0∨sw=1∨sw=2∨sw=3∨sw=4∨sw=5∨sw=6∨sw=7∨sw=8∨sw=9∨sw=10∨sw=11∨sw=12∨sw=13:=by omega
  ·have hcap:=(iP T.h.p).cap;have hmax:=(iP T.h.p).max;simp only at hcap hmax;unfold maxLen at hmax;have hw:IntKind.i64.wrap ((at3:Int)+1)=(at3:Int)+1:=IntWalk.i64_in _ (by omega);have hk9:(at3:Int)+1<=(pn:Int):=by omega
   have hk8:(0:Int)<=(at3:Int)+1:=by omega
   have hk7:(at3:Int)<=(c3:Int):=by omega
   have hcS:=fun Y (hY:Below W5.heap.size W5 Y)=>(T.h.below hY).b.cells
   clear hq hp hpz zf zs zp e0 e1 e2 e3 e4 e5 e6 e7
   go_upto_region 11 with fail
   clear hc;refine dN (Below W5.heap.size W5) 13 (ak _ _ 1) (fun w6 _ hS=>?_);refine aG 1 ?_;refine aG 2 ?_;refine aG 3 ?_;refine aG 4 ?_;refine aG 6 ?_;refine aG 7 ?_;refine aG 8 ?_;refine aG 9 ?_;refine aG 10 ?_;have ho:=tq w6 #[] 45 12 0 w6.heap.size rfl (by omega) (Nat.le_refl _);refine iy 0 (fun _=>hS.alloc hS.size _) (fun hS1=>?_);have e1:((ps.take at3).flatMap aA).length=at3*12:=by rw[qx (m:=12) (fun _=>rfl),List.length_take,Nat.min_eq_left (Nat.le_of_lt a4)]
   refine Uo 5 La Tryz.underlying26 ho (Ou (m:=12) (fun _=>rfl) (T.h.at.p.below hS1) at3) e1 (cells_one Ov _) (by omega) (by rw[World.size_alloc];omega) (fun v6 w7 EI hb6=>⟨hS1.trans (hb6.mono hS.size),fun hS6=>?_⟩);obtain⟨A6,c6,rfl,_⟩:=bY EI;have e2:((ps.drop (at3+1)).flatMap aA).length=(pn-(at3+1))*12:=by rw[qx (m:=12) (fun _=>rfl),List.length_drop,EY.out]
   have hrd:=row_drop (m:=12) (fun _=>rfl) (T.h.at.p.below hS6) (at3+1);rw[Nat.zero_add] at hrd;refine Uo 11 La Tryz.underlying26 EI hrd e2 (cells_one Ov _) (by omega) (Nat.le_trans (by rw[World.size_alloc];omega) hb6.size) (fun v7 w8 Ox hb7=>⟨hS6.trans (hb7.mono hS.size),fun hS7=>?_⟩);obtain⟨A7,c7,rfl,_⟩:=bY Ox;clear hrd;generalize (if c3=at3+1 then some (⟨g3,0,none⟩:Addr) else some ⟨g3,(at3+1)*12,none⟩)=A8;refine aG 12 ?_;have g7:=T.h.below hS7;have cC:=g7.b.cells;have fC:=g7.b.aI;refine iL 13 (fun h=>absurd rfl h) (fun _=>?_);refine dH ?_;have e3:0+at3+(pn-(at3+1))=(ps.take at3++ps.drop (at3+1)).length:=by rw[List.length_append,List.length_take,List.length_drop,Nat.min_eq_left (Nat.le_of_lt a4),<-EY.out];omega
   have g8:=g7.afy ⟨A7,0+at3+(pn-(at3+1)),c7⟩ (ps.take at3++ps.drop (at3+1)) (.inl (List.ne_nil_of_length_pos (by rw[<-EN.out];exact hfn.2))) (by rw[<-e3,<-EY.out];omega) (Rq at3) (by rw[<-e3,List.flatMap_append];exact bW Ox (Nat.le_trans (show C+3<=_ from T.h.r.lt) hS.size));simp only[Nat.zero_add] at g8;clear g7 cC fC ho EI Ox hb6 hb7 hS hS1 hS6 hS7 e1 e2 hcS;go_wp2
   go_meet
   case rel=>exact⟨_,_,_,_,_,_,g8⟩
  ·have hcap:=(iP T.h.f).cap;have hmax:=(iP T.h.f).max;simp only at hcap hmax;unfold maxLen at hmax;have hw:IntKind.i64.wrap ((kW:Int)+1)=(kW:Int)+1:=IntWalk.i64_in _ (by omega);have hk9:(kW:Int)+1<=(fn:Int):=by omega
   have hk8:(0:Int)<=(kW:Int)+1:=by omega
   have hk7:(kW:Int)<=(c1:Int):=by omega
   have hcS:=fun Y (hY:Below W5.heap.size W5 Y)=>(T.h.below hY).b.cells
   clear hq hp hpz zf zs zp e0 e1 e2 e3 e4 e5 e6 e7
   go_upto_region 13 with fail
   clear hc;refine dN (Below W5.heap.size W5) 13 (ak _ _ 1) (fun w6 _ hS=>?_);refine aG 1 ?_;refine aG 2 ?_;refine aG 3 ?_;refine aG 4 ?_;refine aG 6 ?_;refine aG 7 ?_;refine aG 8 ?_;refine aG 9 ?_;refine aG 10 ?_;have ho:=tq w6 #[] 36 4 0 w6.heap.size rfl (by omega) (Nat.le_refl _);refine iy 0 (fun _=>hS.alloc hS.size _) (fun hS1=>?_);have e1:((l.facts.take kW).flatMap Dc.cells).length=kW*4:=by rw[qx (m:=4) (fun _=>rfl),List.length_take,Nat.min_eq_left (Nat.le_of_lt a1')]
   refine Uo 5 Ig Tryz.underlying24 ho (Ou (m:=4) (fun _=>rfl) (T.h.at.f.below hS1) kW) e1 (cells_one (fun a u hu=>by simp[Dc.cells] at hu;rcases hu with rfl|rfl|rfl|rfl<;>rfl) _) (by omega) (by rw[World.size_alloc];omega) (fun v6 w7 EI hb6=>⟨hS1.trans (hb6.mono hS.size),fun hS6=>?_⟩);obtain⟨A6,c6,rfl,_⟩:=bY EI;have e2:((l.facts.drop (kW+1)).flatMap Dc.cells).length=(fn-(kW+1))*4:=by rw[qx (m:=4) (fun _=>rfl),List.length_drop,EN.out]
   have hrd:=row_drop (m:=4) (fun _=>rfl) (T.h.at.f.below hS6) (kW+1);rw[Nat.zero_add] at hrd;refine Uo 11 Ig Tryz.underlying24 EI hrd e2 (cells_one (fun a u hu=>by simp[Dc.cells] at hu;rcases hu with rfl|rfl|rfl|rfl<;>rfl) _) (by omega) (Nat.le_trans (by rw[World.size_alloc];omega) hb6.size) (fun v7 w8 Ox hb7=>⟨hS6.trans (hb7.mono hS.size),fun hS7=>?_⟩);obtain⟨A7,c7,rfl,_⟩:=bY Ox;clear hrd;generalize (if c1=kW+1 then some (⟨g1,0,none⟩:Addr) else some ⟨g1,(kW+1)*4,none⟩)=A8;refine aG 12 ?_;have g7:=T.h.below hS7;have cC:=g7.b.cells;have fC:=g7.b.aI;refine iL 13 (fun h=>absurd rfl h) (fun _=>?_);refine dH ?_;have e3:0+kW+(fn-(kW+1))=(l.facts.take kW++l.facts.drop (kW+1)).length:=by rw[List.length_append,List.length_take,List.length_drop,Nat.min_eq_left (Nat.le_of_lt a1'),<-EN.out];omega
   have g8:=g7.afx ⟨A7,0+kW+(fn-(kW+1)),c7⟩ (l.facts.take kW++l.facts.drop (kW+1)) (.inr (List.ne_nil_of_length_pos (by rw[<-EY.out];exact hpn.2))) (by rw[<-e3,<-EN.out];omega) (Rq kW) (by rw[<-e3,List.flatMap_append];exact bW Ox (Nat.le_trans (show C+3<=_ from T.h.r.lt) hS.size));simp only[Nat.zero_add] at g8;clear g7 cC fC ho EI Ox hb6 hb7 hS hS1 hS6 hS7 e1 e2 hcS;go_wp2
   go_meet
   case rel=>exact⟨_,_,_,_,_,_,g8⟩
  ·go_upto_region 16 with fail
   have T:BT w (W5.setCell ⟨P,0,none⟩ (.string nm)) C _ _ _ _ _ _ _ _ _ _ _:=T.put (⟨nm,⟨t0,t1,t2⟩,ch,⟨s0,s1,s2⟩,⟨c0,c1',c2'⟩,bd⟩,⟨ya,yn,yc⟩) 0 [.string nm] rfl ⟨hnm.out,T.gy.2⟩;generalize hX:World.setCell W5 _ _=X at T⊢;clear hX hc hq hp hpz zf zs zp e0 e1 e2 e3 e4 e5 e6 e7;have hc:=T.h.b.cells;have hp:=T.kp.cells;unfold aA at hp;dsimp only at hp;have zp:=kM T.h.p;have hpc:=rO T.h.p rfl a4;go_wp2_with fail
   go_meet
   case rel=>exact⟨_,_,_,_,_,_,T.row at3 a4⟩
  ·go_wp2_with fail
   go_meet
   case rel=>exact⟨_,_,_,_,_,_,T.h.afG kW a1' ⟨nm,l.facts[kW].ty⟩ 0 [.string nm] (by simp) rfl hnm.out⟩
  ·go_wp2_with fail
   go_meet
   case rel=>exact⟨_,_,_,_,_,_,T.h.aaK at2 a2' (⟨nm,ss[at2].1.aN,ss[at2].1.days,ss[at2].1.bI⟩,ss[at2].2) 0 [.string nm] (by simp) rfl ⟨hnm.out,(T.h.gs.2 _ (List.getElem_mem a2')).2⟩⟩
  ·go_wp2_with fail;refine (uT q2 HR.out.2.2.1 HR.out.2.2.2 W5).mono ?_;rintro e w6 ⟨k0,k1,k2,rfl,_,hb6⟩;have T:=T.below hb6;have hp:=T.kp.cells;unfold aA at hp;dsimp only at hp;have hpz:=T.kp.aI
   go_upto_region 23 with fail
   have T:BT w (((w6.setCell ⟨P,1,none⟩ (.bool k0)).setCell ⟨P,2,none⟩ (.int .i64 k1)).setCell ⟨P,3,none⟩ (.int .i64 k2)) C _ _ _ _ _ _ _ _ _ _ _:=T.put (⟨n0,⟨k0,k1,k2⟩,ch,⟨s0,s1,s2⟩,⟨c0,c1',c2'⟩,bd⟩,⟨ya,yn,yc⟩) 1 [.bool k0,.int .i64 k1,.int .i64 k2] rfl T.gy;generalize hX:World.setCell (World.setCell (World.setCell w6 _ _) _ _) _ _=X at T⊢;clear hX hc hq hp hpz zf zs zp e0 e1 e2 e3 e4 e5 e6 e7;have hc:=T.h.b.cells;have hp:=T.kp.cells;unfold aA at hp;dsimp only at hp;have zp:=kM T.h.p;have hpc:=rO T.h.p rfl a4;go_wp2_with fail
   go_meet
   case rel=>exact⟨_,_,_,_,_,_,T.row at3 a4⟩
  ·go_upto_region 26 with fail
   have T:BT w (W5.setCell ⟨P,5,none⟩ (.bool !ch)) C _ _ _ _ _ _ _ _ _ _ _:=T.put (⟨n0,⟨t0,t1,t2⟩, !ch,⟨s0,s1,s2⟩,⟨c0,c1',c2'⟩,bd⟩,⟨ya,yn,yc⟩) 5 [.bool !ch] rfl T.gy;generalize hX:World.setCell W5 _ _=X at T⊢;clear hX hc hq hp hpz zf zs zp e0 e1 e2 e3 e4 e5 e6 e7;have hc:=T.h.b.cells;have hp:=T.kp.cells;unfold aA at hp;dsimp only at hp;have zp:=kM T.h.p;have hpc:=rO T.h.p rfl a4;go_wp2_with fail
   go_meet
   case rel=>exact⟨_,_,_,_,_,_,T.row at3 a4⟩
  ·have hm:=zW q2 7 (by omega);have hm1:=Int.emod_lt_of_pos q2 (show (0:Int)<7 by omega);have hm2:=Int.emod_nonneg q2 (show (7:Int)≠0 by omega);have HC:=zH (fun W=>lJ (q2.tmod 7) 2 W (by omega) (by omega) (by omega) (by omega));have rG:Hid (jH (iw (q2.tmod 7) 2)):=lM (sW (by omega) (by omega) (by omega) (by omega));clear hm hm1 hm2;generalize iw (q2.tmod 7) 2=r at HC rG;obtain⟨x0,x1,x2⟩:=r;go_wp2_with fail;refine (HC.out W5).mono ?_;rintro e w6 ⟨rfl,hb6⟩;have T:=T.below hb6;have hp:=T.kp.cells;unfold aA at hp;dsimp only at hp;have hpz:=T.kp.aI;unfold Ra.v
   go_upto_region 29 with fail
   have T:BT w (((w6.setCell ⟨P,6,none⟩ (.bool x0)).setCell ⟨P,7,none⟩ (.string x1)).setCell ⟨P,8,none⟩ (.string x2)) C _ _ _ _ _ _ _ _ _ _ _:=T.put (⟨n0,⟨t0,t1,t2⟩,ch,⟨x0,x1,x2⟩,⟨c0,c1',c2'⟩,bd⟩,⟨ya,yn,yc⟩) 6 [.bool x0,.string x1,.string x2] rfl ⟨T.gy.1,rG.out,T.gy.2.2⟩;generalize hX:World.setCell (World.setCell (World.setCell w6 _ _) _ _) _ _=X at T⊢;clear hX hc hq hp hpz zf zs zp e0 e1 e2 e3 e4 e5 e6 e7;have hc:=T.h.b.cells;have hp:=T.kp.cells;unfold aA at hp;dsimp only at hp;have zp:=kM T.h.p;have hpc:=rO T.h.p rfl a4;go_wp2_with fail
   go_meet
   case rel=>exact⟨_,_,_,_,_,_,T.row at3 a4⟩
  ·have HC:=zH (fun W=>lJ 1 2 W (by omega) (by omega) (by omega) (by omega));have rG:Hid (jH (iw 1 2)):=lM (sW (by omega) (by omega) (by omega) (by omega));generalize iw 1 2=r at HC rG;obtain⟨x0,x1,x2⟩:=r;go_wp2_with fail;refine (HC.out W5).mono ?_;rintro e w6 ⟨rfl,hb6⟩;have T:=T.below hb6;have hp:=T.kp.cells;unfold aA at hp;dsimp only at hp;have hpz:=T.kp.aI;unfold Ra.v
   go_upto_region 32 with fail
   have T:BT w (((w6.setCell ⟨P,6,none⟩ (.bool x0)).setCell ⟨P,7,none⟩ (.string x1)).setCell ⟨P,8,none⟩ (.string x2)) C _ _ _ _ _ _ _ _ _ _ _:=T.put (⟨n0,⟨t0,t1,t2⟩,ch,⟨x0,x1,x2⟩,⟨c0,c1',c2'⟩,bd⟩,⟨ya,yn,yc⟩) 6 [.bool x0,.string x1,.string x2] rfl ⟨T.gy.1,rG.out,T.gy.2.2⟩;generalize World.setCell (World.setCell (World.setCell w6 _ _) _ _) _ _=X6 at T⊢;clear HC rG hc hq hp hpz;have hq:=T.h.q.cells;obtain⟨m,hm,hm2⟩:=FK q2 (show 0<420 by omega);have HM:=zH (fun W=>mO q2 420 W HR.out.2.2.1 HR.out.2.2.2 (by omega) (by omega));rw[show q2 % 420=(m:Int) from hm2] at HM;go_wp2_with fail;refine (HM.out _).mono ?_;rintro e w7 ⟨rfl,rfl⟩;have HC:=zH (fun W=>lJ m 4 W (by omega) (by omega) (by omega) (by omega));have rG:Hid (jH (iw m 4)):=lM (sW (by omega) (by omega) (by omega) (by omega));clear HM hm hm2 hq;generalize iw m 4=r at HC rG;obtain⟨z0,z1,z2⟩:=r;go_wp2_with fail;refine (HC.out X6).mono ?_;rintro e w7 ⟨rfl,hb7⟩;have T:=T.below hb7;have hp:=T.kp.cells;unfold aA at hp;dsimp only at hp;have hpz:=T.kp.aI;have hc:=T.h.b.cells;have hq:=T.h.q.cells;unfold Ra.v
   go_upto_region 33 with fail
   have T:BT w (((w7.setCell ⟨P,9,none⟩ (.bool z0)).setCell ⟨P,10,none⟩ (.string z1)).setCell ⟨P,11,none⟩ (.string z2)) C _ _ _ _ _ _ _ _ _ _ _:=T.put (⟨n0,⟨t0,t1,t2⟩,ch,⟨x0,x1,x2⟩,⟨z0,z1,z2⟩,bd⟩,⟨ya,yn,yc⟩) 9 [.bool z0,.string z1,.string z2] rfl ⟨T.gy.1,T.gy.2.1,rG.out,T.gy.2.2.2⟩;generalize hX:World.setCell (World.setCell (World.setCell w7 _ _) _ _) _ _=X at T⊢;clear hX hc hq hp hpz zf zs zp e0 e1 e2 e3 e4 e5 e6 e7;have hc:=T.h.b.cells;have hp:=T.kp.cells;unfold aA at hp;dsimp only at hp;have zp:=kM T.h.p;have hpc:=rO T.h.p rfl a4;go_wp2_with fail
   go_meet
   case rel=>exact⟨_,_,_,_,_,_,T.row at3 a4⟩
  ·go_wp2_with fail
   go_meet
   case rel=>exact⟨_,_,_,_,_,_,T.h.afG kW a1' ⟨l.facts[kW].name,⟨q2.tmod 2==0,q2.tmod 5,q1.tmod 5⟩⟩ 1 [.bool (q2.tmod 2==0),.int .i64 (q2.tmod 5),.int .i64 (q1.tmod 5)] (by simp) rfl (T.h.gf.2 l.facts[kW] (List.getElem_mem a1'))⟩
  ·go_wp2_with fail
   go_meet
   case rel=>exact⟨_,_,_,_,_,_,T.h.aaK at2 a2' (⟨ss[at2].1.name,q2.tmod 5,q1.tmod 5,ss[at2].1.bI⟩,ss[at2].2) 1 [.int .i64 (q2.tmod 5),.int .i64 (q1.tmod 5)] (by simp) rfl (T.h.gs.2 ss[at2] (List.getElem_mem a2'))⟩
  ·go_wp2_with fail
   go_meet
   case rel=>exact⟨_,_,_,_,_,_,T.h.aaK at2 a2' (⟨ss[at2].1.name,ss[at2].1.aN,ss[at2].1.days,[]⟩,⟨none,0,0⟩) 3 [.slice none 0 0] (by simp) rfl ⟨(T.h.gs.2 _ (List.getElem_mem a2')).1,Nat.zero_le _,(fun _ h=>by cases h),aJ.nil _ _⟩⟩
  ·obtain⟨k,hk1,hk2⟩:=FK q2 hpn.2;have HM:=zH (fun W=>mO q2 pn W HR.out.2.2.1 HR.out.2.2.2 (by omega) (by omega));rw[hk2] at HM;go_wp2_with fail;refine (HM.out _).mono ?_;rintro e w6 ⟨rfl,rfl⟩;have hk3:k<ps.length:=by rw[<-EY.out];exact hk1
   have k0:(0:Int)<=(k:Int):=by omega
   have k1:(k:Int)<(pn:Int):=by omega
   go_upto_region 42 with fail
   have hcS:=fun Y (hY:Below W5.heap.size W5 Y)=>And.intro (T.h.below hY).b.cells (And.intro (rO (T.h.below hY).p rfl hk3) (And.intro (rO (T.h.below hY).p rfl a4) (kM (T.h.below hY).p)))
   have gz:=T.h.gp.2 _ (List.getElem_mem hk3);have hK:=hk3;clear HM hk2 hc hq hp hpz zf zs zp e0 e1 e2 e3 e4 e5 e6 e7;refine dN (Below W5.heap.size W5) 9 (ak _ _ 1) (fun w6 _ hS=>?_)
   iterate 9 refine aW ?_
   have hx:=hcS w6 hS;refine iL 9 (fun h=>absurd rfl h) (fun _=>?_);refine dH ?_;have T:=(T.below hS).rowT at3 a4 ps[k] gz;generalize hX:World.setCell (World.setCell (World.setCell (World.setCell (World.setCell (World.setCell (World.setCell (World.setCell (World.setCell (World.setCell (World.setCell (World.setCell w6 _ _) _ _) _ _) _ _) _ _) _ _) _ _) _ _) _ _) _ _) _ _) _ _=X;rw[show w6.setCells g3 (at3*12) (aA ps[k])=X from hX] at T;have hk4:k<(ps.set at3 ps[k]).length:=by rw[List.length_set];exact hk3
   have hc:=T.h.b.cells;have hp:=T.kp.cells;unfold aA at hp;dsimp only at hp;have zp:=kM T.h.p;have hpc:=rO T.h.p rfl hk4;clear hX hcS hx hS gz;go_wp2_with fail
   go_meet
   case rel=>exact⟨_,_,_,_,_,_,T.row k hk4⟩
  ·go_wp2_with fail
   go_meet
   case rel=>exact⟨_,_,_,_,_,_,T.h⟩
 case rest=>
  obtain⟨fs',ss',ps',⟨f1,f2,f3⟩,⟨s1',s2',s3'⟩,⟨p1,p2,p3⟩,B⟩:=hcut;have hc:=B.b.cells;have hr:=B.r.cells;have hz:=B.r.aI;clear T;go_wp2;generalize hX:World.setCell (World.setCell (World.setCell _ _ _) _ _) _ _=X;obtain⟨k1,k2,k3⟩:=B.fin _ _ _ hX;have hc:=k1.cells;exact bodyPost_ret (v:=dR ⟨f1,f2,f3⟩ ⟨s1',s2',s3'⟩ ⟨p1,p2,p3⟩) (by simp[results,Tryz.results15,go_sem,hc,dR]) rfl ⟨_,_,_,_,_,_,rfl,k2,B.gf,B.gs,B.gp,B.ne,k3⟩
def zI (t:Ty):Prop:=(-1000<=t.aN/\t.aN<=1000)/\(-1000<=t.days/\t.days<=1000)/\jH (aS t.aN)/\jH (aS t.days)
structure AL (l:Lw):Prop where
 f:∀d∈l.facts,zI d.ty
 s:∀x∈l.aU,zI ⟨false,x.aN,x.days⟩
 p:∀x∈l.aH,zI x.ty
 b:∀x∈l.aU,x.bI.length<=1000
structure TX (b:Nat) (w0 W:World) (tot R:List UInt8) (X:World):Prop where
 t:∃t0,WS w0.heap.size b w0 X t0/\t0++R=tot
 f:BF b W X
section
variable {b:Nat} {w0 W W2 X X':World} {tot R R':List UInt8}
theorem TX.bl (h:TX b w0 W tot R X):Below w0.heap.size w0 X:=let ⟨_,h1,_⟩:=h.t;h1.bl
theorem TX.lt (h:TX b w0 W tot R X):b<X.heap.size:=let ⟨_,h1,_⟩:=h.t;h1.lt
theorem TX.grow (h:TX b w0 W tot R X) (hb:Below X.heap.size X X'):TX b w0 W tot R X':=let ⟨t0,h1,h2⟩:=h.t;⟨⟨t0,h1.grow hb,h2⟩,h.f.trans (BF.of_below hb)⟩
theorem TX.here (h:TX b w0 W tot R X):TX b w0 X tot R X:=⟨h.t,BF.refl _ _⟩
theorem TX.back (h:TX b w0 X tot R X') (hf:BF b W X):TX b w0 W tot R X':=⟨h.t,hf.trans h.f⟩
theorem TX.as (h:TX b w0 W tot R X) (e:R=R'):TX b w0 W tot R' X:=e ▸ h
theorem TX.words (l:List ByteArray) (h:TX b w0 W tot (bF l++R) X) (ht:tot.length<=10000000000000) (hm:l.length<=1000:=by simp) (h0:l≠[]:=by simp):
  Calls Tryz.prog 81 #[.pointer (some ⟨b,0,none⟩),.slice (some ⟨X.heap.size,0,none⟩) l.length l.length] (X.alloc (.cells (strs l).toArray 9)) fun e X'=>e=.returned (.tuple #[])/\TX b w0 W tot R X'/\BF b X X':=by
 obtain⟨t0,h1,h2⟩:=h.t;have hb:=zB X (.cells (strs l).toArray 9);refine ((h1.grow hb).words l X.heap.size l.length (aj.new X _ _) h1.lt rfl hm h0 (by have:=congrArg List.length h2;simp only[List.length_append] at this;omega)).mono ?_;rintro e X' ⟨rfl,hx,hf⟩;have hf':=(BF.of_below (b:=b) hb).trans hf;exact⟨rfl,⟨⟨_,hx,by rw[List.append_assoc];exact h2⟩,h.f.trans hf'⟩,hf'⟩
end
theorem I9 {α:Type} (f:α->List UInt8) {l:List α} {j:Nat} (h:j<l.length):(l.drop j).flatMap f=f l[j]++(l.drop (j+1)).flatMap f:=by rw[List.drop_eq_getElem_cons h,List.flatMap_cons]
theorem ade {l:List Bk} {j:Nat} (h:j<l.length):xw j (l.drop j)=bF (bkW j l[j])++xw (j+1) (l.drop (j+1)):=by rw[List.drop_eq_getElem_cons h];rfl
theorem Yt (l:Lw) (ss:List (Sc × Hd)) (ps:List (Pv × Hd)) (f s p:Hd) (B b:Nat) (w0 w:World) (bs:List UInt8) (hS:WS B b w0 w bs) (hB0:B=w0.heap.size) (hL:cZ w0) (h:dV w0 l ss ps f s p) (hf:nV l) (hT:AL l) (hlen:bs.length+(dh l).length<=10000000000000):
  Calls Tryz.prog 30 #[.pointer (some ⟨b,0,none⟩),dR f s p] w fun e w'=>e=.returned (.tuple #[])/\WS B b w0 w' (bs++dh l):=by
 subst hB0;obtain⟨fa,fn,fc⟩:=f;obtain⟨sa,sn,sc⟩:=s;obtain⟨pa,pn,pc⟩:=p;have hfn:fn<=1000:=by have:=h.f.len;have:=hf.fn;simp only at*;omega
 have hsn:sn<=1000:=by have h1:=h.s.len;have h2:=congrArg List.length h.sl;have:=hf.sn;rw[List.length_map] at h2;simp only at*;omega
 have hpn:pn<=1000:=by have h1:=h.p.len;have h2:=congrArg List.length h.pl;have:=hf.pn;rw[List.length_map] at h2;simp only at*;omega
 have hlt:(bs++dh l).length<=10000000000000:=by rw[List.length_append];exact hlen
 obtain⟨tot,htot⟩:=zE (bs++dh l);rw[<-htot] at hlt⊢;have hX:TX b w0 w tot (l.facts.flatMap uw++(l.aU.flatMap vw++l.aH.flatMap rZ)) w:=⟨⟨bs,hS,by rw[htot];unfold dh;simp only[List.append_assoc]⟩,BF.refl _ _⟩
 clear htot hlen hS;unfold dR;go_enter Tryz.func30,Tryz.ntmps30
 go_upto_region 1 with fail
 generalize hW:w.alloc _=W;obtain⟨hQ,hg⟩:=zA hW;have hne:w.heap.size≠b:=by have:=hX.lt;omega
 replace hX:=(hX.grow hg).here;have hc:=fun (X:World) (k:BF b W X)=>show X.cell? ⟨w.heap.size,0,none⟩=some (Value.slice fa fn fc)/\X.cell? ⟨w.heap.size,1,none⟩=some (Value.slice sa sn sc)/\X.cell? ⟨w.heap.size,2,none⟩=some (Value.slice pa pn pc) from⟨(k.blk hQ (by decide) hne).cells 0,(k.blk hQ (by decide) hne).cells 1,(k.blk hQ (by decide) hne).cells 2⟩
 clear hW hQ hg hne;generalize w.heap.size=Q at hc⊢;have hW:=BF.refl b W;go_wp2
 go_loopg [17] fn (fun g iv wr=>∃j:Nat,j+g=fn/\iv=.int .i64 j/\TX b w0 W tot ((l.facts.drop j).flatMap uw++(l.aU.flatMap vw++l.aH.flatMap rZ)) wr)
 case atStart=>exact⟨0,by omega,rfl,hX⟩
 case round=>
  clear hX hW;obtain⟨j,hj,rfl,hX⟩:=hrel;have hW:=hX.f;by_cases hlj:j<fn
  ·have hbl:=hX.bl;obtain⟨bb,off,nm,t,m,d,rfl,_,hx,hxe,hd⟩:=DN h.f hlj;have hty:=hT.f _ (List.getElem_mem hx);rw[hxe] at hty;replace hX:=hX.as (R':=bF [Ib,nm,nY,bU ⟨t,m,d⟩,uV]++((l.facts.drop (j+1)).flatMap uw++(l.aU.flatMap vw++l.aH.flatMap rZ))) (by rw[I9 uw hx,hxe,List.append_assoc];rfl);clear hxe
   go_upto_region 4 with fail
   generalize hY:wr.alloc _=Y;obtain⟨hK,hg⟩:=zA hY;have hne:wr.heap.size≠b:=by have:=hX.lt;omega
   have hk:=fun (X:World) (k:BF b Y X)=>show X.cell? ⟨wr.heap.size,0,none⟩=some (.string nm)/\X.cell? ⟨wr.heap.size,1,none⟩=some (.bool t)/\X.cell? ⟨wr.heap.size,2,none⟩=some (.int .i64 m)/\X.cell? ⟨wr.heap.size,3,none⟩=some (.int .i64 d) from⟨(k.blk hK (by decide) hne).cells 0,(k.blk hK (by decide) hne).cells 1,(k.blk hK (by decide) hne).cells 2,(k.blk hK (by decide) hne).cells 3⟩
   replace hW:=hW.trans (BF.of_below hg);replace hX:=(hX.grow hg).here;clear hY hK hg hne hd hbl;generalize wr.heap.size=K at hk⊢;refine dN (BF b Y) 99 (BF.of_below (ak _ _ 1)) (fun w1 h1 hS=>?_);replace hX:=hX.grow h1
   iterate 5 refine aW ?_
   refine cO 5 (qg ⟨t,m,d⟩ w1 (hL.below hX.bl) hty.1 hty.2.1 hty.2.2.1 hty.2.2.2) ?_;rintro e w2 ⟨rfl,hb2⟩;replace hX:=hX.grow hb2;refine⟨_,rfl,hX.f,fun hS=>?_⟩;refine iy 6 (fun _=>hS.trans (BF.of_below (zB _ _))) (fun _=>?_);refine cO 7 (TX.words [Ib,nm,nY,bU ⟨t,m,d⟩,uV] hX hlt) ?_;rintro e w3 ⟨rfl,hX,_⟩;refine⟨_,rfl,hX.f,fun hS=>?_⟩;refine dH ?_;go_wp2
   go_roundg (fn-(j+1))
   case measure=>omega
   case rel=>exact⟨j+1,by omega,by go_num,hX.back hW⟩
  ·replace hX:=hX.as (R':=l.aU.flatMap vw++l.aH.flatMap rZ) (by rw[List.drop_of_length_le (by have:=h.f.len;simp only at this;omega)];rfl);go_wp2
   go_loopg [33] sn (fun g iv wr=>∃j:Nat,j+g=sn/\iv=.int .i64 j/\TX b w0 W tot ((l.aU.drop j).flatMap vw++l.aH.flatMap rZ) wr)
   case atStart=>exact⟨0,by omega,rfl,hX⟩
   case round=>
    clear hX hW;obtain⟨j,hj,rfl,hX⟩:=hrel;have hW:=hX.f;by_cases hlj:j<sn
    ·have hbl:=hX.bl;obtain⟨bb,off,nm,m,d,bI,⟨ha,hn,hcc⟩,rfl,_,hx,hxe,hd⟩:=DR h.s hlj;have hxl:j<l.aU.length:=by rw[<-h.sl,List.length_map];exact hx
     have hle:l.aU[j]=⟨nm,m,d,bI⟩:=by have e:=h.sl;simp[<-e,hxe]
     have hmem:=List.getElem_mem hxl;rw[hle] at hmem;have hty:=hT.s _ hmem;have hbn:=hT.b _ hmem;have hbf:=hf.sb _ hmem;have hbr:aJ w0 Bk.cells bI ⟨ha,hn,hcc⟩:=by have:=h.sb _ (List.getElem_mem hx);rw[hxe] at this;exact this
     have hhn:hn<=1000:=by have:=hbr.len;simp only at this hbn;omega
     simp only at hty hbn;obtain⟨R,hR⟩:=zE ((l.aU.drop (j+1)).flatMap vw++l.aH.flatMap rZ);replace hX:=hX.as (R':=bF [U4,nm,nY,bU ⟨false,m,d⟩]++(xw 0 (bI.drop 0)++(bF [uV]++R))) (by rw[I9 vw hxl,hle,hR];unfold vw aay;simp only[List.append_assoc,List.drop_zero]);clear hxe hle hmem
     go_upto_region 9 with fail
     generalize hZ:wr.alloc _=Y;obtain⟨hK,hg⟩:=zA hZ;have hne:wr.heap.size≠b:=by have:=hX.lt;omega
     have hk:=fun (X:World) (k:BF b Y X)=>show X.cell? ⟨wr.heap.size,0,none⟩=some (.string nm)/\X.cell? ⟨wr.heap.size,1,none⟩=some (.int .i64 m)/\X.cell? ⟨wr.heap.size,2,none⟩=some (.int .i64 d)/\X.cell? ⟨wr.heap.size,3,none⟩=some (.slice ha hn hcc) from⟨(k.blk hK (by decide) hne).cells 0,(k.blk hK (by decide) hne).cells 1,(k.blk hK (by decide) hne).cells 2,(k.blk hK (by decide) hne).cells 3⟩
     replace hW:=hW.trans (BF.of_below hg);replace hX:=(hX.grow hg).here;clear hZ hK hg hne hd hbl;generalize wr.heap.size=K at hk⊢;refine dN (BF b Y) 99 (BF.of_below (ak _ _ 1)) (fun w1 h1 hS=>?_);replace hX:=hX.grow h1
     iterate 6 refine aW ?_
     refine cO 6 (qg ⟨false,m,d⟩ w1 (hL.below hX.bl) hty.1 hty.2.1 hty.2.2.1 hty.2.2.2) ?_;rintro e w2 ⟨rfl,hb2⟩;replace hX:=hX.grow hb2;refine⟨_,rfl,hX.f,fun hS=>?_⟩;refine iy 7 (fun _=>hS.trans (BF.of_below (zB _ _))) (fun _=>?_);refine cO 8 (TX.words [U4,nm,nY,bU ⟨false,m,d⟩] hX hlt) ?_;rintro e w3 ⟨rfl,hX,_⟩;refine⟨_,rfl,hX.f,fun hS=>?_⟩;refine dH ?_;have hY:=hX.f;go_wp2
     go_loopg [49] hn (fun g iv wr=>∃q:Nat,q+g=hn/\iv=.int .i64 q/\TX b w0 Y tot (xw q (bI.drop q)++(bF [uV]++R)) wr)
     case atStart=>exact⟨0,by omega,rfl,hX⟩
     case round=>
      clear hX hY;obtain⟨q,hq,rfl,hX⟩:=hrel;have hY:=hX.f;by_cases hlq:q<hn
      ·have hbl:=hX.bl;obtain⟨b2,off2,rfl,_,hx2,hd0⟩:=hbr.at 6 (fun _=>rfl) (by omega) hlq;obtain⟨x,hx⟩:=zE bI[q]
       have hd:=fun (X:World) (k:Below w0.heap.size w0 X)=>show X.cell? ⟨b2,off2+q*6,none⟩=some (.bool x.fr.neg)/\X.cell? ⟨b2,off2+q*6+1,none⟩=some (.string x.fr.num)/\X.cell? ⟨b2,off2+q*6+2,none⟩=some (.string x.fr.den)/\X.cell? ⟨b2,off2+q*6+3,none⟩=some (.bool x.rt.neg)/\X.cell? ⟨b2,off2+q*6+4,none⟩=some (.string x.rt.num)/\X.cell? ⟨b2,off2+q*6+5,none⟩=some (.string x.rt.den) from by
        rw[hx];exact⟨hd0 X k 0 _ rfl,hd0 X k 1 _ rfl,hd0 X k 2 _ rfl,hd0 X k 3 _ rfl,hd0 X k 4 _ rfl,hd0 X k 5 _ rfl⟩
       have hfx:=hbf _ (List.getElem_mem hx2);rw[<-hx] at hfx;replace hX:=hX.as (R':=bF [tH q,nY,aO x.fr,nY,aO x.rt]++(xw (q+1) (bI.drop (q+1))++(bF [uV]++R))) (by rw[ade hx2,<-hx,List.append_assoc];rfl);clear hd0 hx
       go_upto_region 13 with fail
       generalize hZ:wr.alloc _=Y2;obtain⟨hK,hg⟩:=zA hZ;have hne:wr.heap.size≠b:=by have:=hX.lt;omega
       have hk2:=fun (X:World) (k:BF b Y2 X)=>show X.cell? ⟨wr.heap.size,0,none⟩=some (.bool x.fr.neg)/\X.cell? ⟨wr.heap.size,1,none⟩=some (.string x.fr.num)/\X.cell? ⟨wr.heap.size,2,none⟩=some (.string x.fr.den)/\X.cell? ⟨wr.heap.size,3,none⟩=some (.bool x.rt.neg)/\X.cell? ⟨wr.heap.size,4,none⟩=some (.string x.rt.num)/\X.cell? ⟨wr.heap.size,5,none⟩=some (.string x.rt.den) from⟨(k.blk hK (by decide) hne).cells 0,(k.blk hK (by decide) hne).cells 1,(k.blk hK (by decide) hne).cells 2,(k.blk hK (by decide) hne).cells 3,(k.blk hK (by decide) hne).cells 4,(k.blk hK (by decide) hne).cells 5⟩
       replace hY:=hY.trans (BF.of_below hg);replace hX:=(hX.grow hg).here;clear hZ hK hg hne hd hbl
       obtain⟨mm,hmn,hm2,hsp⟩:∃mm:Nat,min (q:Int) 1=(mm:Int)/\mm<2/\([.string ⟨#[58]⟩,.string ⟨#[44]⟩]:List Value)[mm]?=some (.string (tH q)):=by
        by_cases h0:q=0
        ·subst h0;exact⟨0,rfl,by omega,rfl⟩
        ·exact⟨1,by omega,by omega,by unfold tH;rw[if_neg h0];rfl⟩
       have mm0:(0:Int)<=(mm:Int):=by omega
       have mm1:(mm:Int)<2:=by omega
       generalize wr.heap.size=K at hk2⊢;refine dN (BF b Y2) 99 (BF.of_below (ak _ _ 1)) (fun w1 h1 hS=>?_);replace hX:=hX.grow h1;clear h1;refine aG 0 ?_;refine aG 2 ?_;refine aG 3 ?_;refine aG 6 ?_;refine aG 7 ?_;refine aG 9 ?_;refine aG 10 ?_;refine F8 1 8 (Jq (fun _=>hS.trans (BF.of_below (zB _ _))) (fun hS=>?_)) (opC (jy x.fr _ (hL.below hX.bl).e.base hfx.1.1 hfx.1.2) ?_)
       ·have hzb:w1.heap.size≠b:=by have:=hX.lt;omega
        generalize hZ:w1.alloc _=w9 at hS⊢;obtain⟨hk9,KF⟩:=zA hZ;replace hX:=hX.grow KF;have NK:=fun (X:World) (k:BF b Y2 X/\aj X w1.heap.size 9 [.string ⟨#[58]⟩,.string ⟨#[44]⟩])=>show X.cell? ⟨w1.heap.size,mm,none⟩=some (.string (tH q)) from by rw[k.2.cells mm];exact hsp
        refine reM (fun X=>BF b Y2 X/\aj X w1.heap.size 9 [.string ⟨#[58]⟩,.string ⟨#[44]⟩]) ⟨hS,hk9⟩ (fun _ h=>h.1) (fun hS=>?_);clear hZ hk9 KF;generalize w1.heap.size=Z at NK hS hzb⊢;refine aG 4 ?_;refine aG 5 ?_;refine cO 8 (jy x.fr _ (hL.below hX.bl).e.base hfx.1.1 hfx.1.2) ?_;rintro e w2 ⟨rfl,hb2⟩;replace hX:=hX.grow hb2;refine⟨_,rfl,⟨hS.1.trans (BF.of_below hb2),hS.2.below hb2 hS.2.lt⟩,fun hS=>?_⟩;clear hb2;refine cO 11 (jy x.rt _ (hL.below hX.bl).e.base hfx.2.1 hfx.2.2) ?_;rintro e w2 ⟨rfl,hb2⟩;replace hX:=hX.grow hb2;refine⟨_,rfl,⟨hS.1.trans (BF.of_below hb2),hS.2.below hb2 hS.2.lt⟩,fun hS=>?_⟩;clear hb2;refine iy 12 (fun _=>⟨hS.1.trans (BF.of_below (zB _ _)),hS.2.alloc _⟩) (fun _=>?_);refine cO 13 (TX.words [tH q,nY,aO x.fr,nY,aO x.rt] hX hlt) ?_;rintro e w5 ⟨rfl,hX,hf5⟩;refine⟨_,rfl,⟨hX.f,(hf5.blk (hS.2) (by decide) hzb)⟩,fun hS=>?_⟩;refine dH ?_;go_wp2
        go_roundg (hn-(q+1))
        case measure=>omega
        case rel=>exact⟨q+1,by omega,by go_num,hX.back hY⟩
       ·rintro e w2 ⟨rfl,hb2⟩;replace hX:=hX.grow hb2;refine⟨_,rfl,hS.trans (BF.of_below hb2),fun hS=>?_⟩;clear hb2;refine F8 1 11 (Jq (fun _=>hS.trans (BF.of_below (zB _ _))) (fun hS=>?_)) (opC (jy x.rt _ (hL.below hX.bl).e.base hfx.2.1 hfx.2.2) ?_)
        ·have hzb:w2.heap.size≠b:=by have:=hX.lt;omega
         generalize hZ:w2.alloc _=w9 at hS⊢;obtain⟨hk9,KF⟩:=zA hZ;replace hX:=hX.grow KF;have NK:=fun (X:World) (k:BF b Y2 X/\aj X w2.heap.size 9 [.string ⟨#[58]⟩,.string ⟨#[44]⟩])=>show X.cell? ⟨w2.heap.size,mm,none⟩=some (.string (tH q)) from by rw[k.2.cells mm];exact hsp
         refine reM (fun X=>BF b Y2 X/\aj X w2.heap.size 9 [.string ⟨#[58]⟩,.string ⟨#[44]⟩]) ⟨hS,hk9⟩ (fun _ h=>h.1) (fun hS=>?_);clear hZ hk9 KF;generalize w2.heap.size=Z at NK hS hzb⊢;refine aG 4 ?_;refine aG 5 ?_;refine cO 11 (jy x.rt _ (hL.below hX.bl).e.base hfx.2.1 hfx.2.2) ?_;rintro e w2 ⟨rfl,hb2⟩;replace hX:=hX.grow hb2;refine⟨_,rfl,⟨hS.1.trans (BF.of_below hb2),hS.2.below hb2 hS.2.lt⟩,fun hS=>?_⟩;clear hb2;refine iy 12 (fun _=>⟨hS.1.trans (BF.of_below (zB _ _)),hS.2.alloc _⟩) (fun _=>?_);refine cO 13 (TX.words [tH q,nY,aO x.fr,nY,aO x.rt] hX hlt) ?_;rintro e w5 ⟨rfl,hX,hf5⟩;refine⟨_,rfl,⟨hX.f,(hf5.blk (hS.2) (by decide) hzb)⟩,fun hS=>?_⟩;refine dH ?_;go_wp2
         go_roundg (hn-(q+1))
         case measure=>omega
         case rel=>exact⟨q+1,by omega,by go_num,hX.back hY⟩
        ·rintro e w2 ⟨rfl,hb2⟩;replace hX:=hX.grow hb2;refine⟨_,rfl,hS.trans (BF.of_below hb2),fun hS=>?_⟩;clear hb2;refine iy 1 (fun _=>hS.trans (BF.of_below (zB _ _))) (fun hS=>?_);have hzb:w2.heap.size≠b:=by have:=hX.lt;omega
         generalize hZ:w2.alloc _=w9 at hS⊢;obtain⟨hk9,KF⟩:=zA hZ;replace hX:=hX.grow KF;have NK:=fun (X:World) (k:BF b Y2 X/\aj X w2.heap.size 9 [.string ⟨#[58]⟩,.string ⟨#[44]⟩])=>show X.cell? ⟨w2.heap.size,mm,none⟩=some (.string (tH q)) from by rw[k.2.cells mm];exact hsp
         refine reM (fun X=>BF b Y2 X/\aj X w2.heap.size 9 [.string ⟨#[58]⟩,.string ⟨#[44]⟩]) ⟨hS,hk9⟩ (fun _ h=>h.1) (fun hS=>?_);clear hZ hk9 KF;generalize w2.heap.size=Z at NK hS hzb⊢;refine aG 4 ?_;refine aG 5 ?_;refine iy 12 (fun _=>⟨hS.1.trans (BF.of_below (zB _ _)),hS.2.alloc _⟩) (fun _=>?_);refine cO 13 (TX.words [tH q,nY,aO x.fr,nY,aO x.rt] hX hlt) ?_;rintro e w5 ⟨rfl,hX,hf5⟩;refine⟨_,rfl,⟨hX.f,(hf5.blk (hS.2) (by decide) hzb)⟩,fun hS=>?_⟩;refine dH ?_;go_wp2
         go_roundg (hn-(q+1))
         case measure=>omega
         case rel=>exact⟨q+1,by omega,by go_num,hX.back hY⟩
      ·replace hX:=hX.as (R':=bF [uV]++R) (by rw[List.drop_of_length_le (by have:=hbr.len;simp only at this;omega)];rfl);go_wp2_with fail;refine (TX.words [uV] hX hlt).mono ?_;rintro e w3 ⟨rfl,hX,_⟩;go_wp2
       go_roundg (sn-(j+1))
       case measure=>omega
       case rel=>exact⟨j+1,by omega,by go_num,(hX.as hR).back hW⟩
    ·replace hX:=hX.as (R':=l.aH.flatMap rZ) (by rw[List.drop_of_length_le (by have h1:=h.s.len;have h2:=congrArg List.length h.sl;rw[List.length_map] at h2;simp only at h1;omega)];rfl);go_wp2
     go_loopg [76] pn (fun g iv wr=>∃j:Nat,j+g=pn/\iv=.int .i64 j/\TX b w0 W tot ((l.aH.drop j).flatMap rZ) wr)
     case atStart=>exact⟨0,by omega,rfl,hX⟩
     case round=>
      clear hX hW;obtain⟨j,hj,rfl,hX⟩:=hrel;have hW:=hX.f;by_cases hlj:j<pn
      ·have hbl:=hX.bl;obtain⟨bb,off,x,rfl,_,hx,hxe,hd⟩:=Am h.p hlj;have hxl:j<l.aH.length:=by rw[<-h.pl,List.length_map];exact hx
       have hle:l.aH[j]=x.1:=by have e:=h.pl;simp[<-e,hxe]
       have hmem:=List.getElem_mem hxl;rw[hle] at hmem;have hty:=hT.p _ hmem;have hfp:=hf.pb _ hmem;have hbr:aJ w0 Nd.cells x.1.body x.2:=by have:=h.pb _ (List.getElem_mem hx);rw[hxe] at this;exact this
       obtain⟨R,hR⟩:=zE ((l.aH.drop (j+1)).flatMap rZ);replace hX:=hX.as (R':=bF [Og,x.1.name,nY,bU x.1.ty]++((if x.1.dS then bF [U5] else [])++((if dZ x.1 then [] else bF [Oh,aO x.1.step,sCap,aO x.1.cap])++(bF [Rj,bodyT x.1.body,uV]++R)))) (by rw[I9 rZ hxl,hle,hR];unfold rZ pvW stW;simp only[List.append_assoc]);clear hxe hle hmem
       go_upto_region 20 with fail
       generalize hZ:wr.alloc _=Y;obtain⟨hK,hg⟩:=zA hZ;have hne:wr.heap.size≠b:=by have:=hX.lt;omega
       have hk:=fun (X:World) (k:BF b Y X)=>show X.cell? ⟨wr.heap.size,0,none⟩=some (.string x.1.name)/\X.cell? ⟨wr.heap.size,1,none⟩=some (.bool x.1.ty.truth)/\X.cell? ⟨wr.heap.size,2,none⟩=some (.int .i64 x.1.ty.aN)/\X.cell? ⟨wr.heap.size,3,none⟩=some (.int .i64 x.1.ty.days)/\X.cell? ⟨wr.heap.size,4,none⟩=some (.slice x.2.a x.2.n x.2.c)/\X.cell? ⟨wr.heap.size,5,none⟩=some (.bool x.1.dS)/\X.cell? ⟨wr.heap.size,6,none⟩=some (.bool x.1.step.neg)/\X.cell? ⟨wr.heap.size,7,none⟩=some (.string x.1.step.num)/\X.cell? ⟨wr.heap.size,8,none⟩=some (.string x.1.step.den)/\X.cell? ⟨wr.heap.size,9,none⟩=some (.bool x.1.cap.neg)/\X.cell? ⟨wr.heap.size,10,none⟩=some (.string x.1.cap.num)/\X.cell? ⟨wr.heap.size,11,none⟩=some (.string x.1.cap.den) from⟨(k.blk hK (by decide) hne).cells 0,(k.blk hK (by decide) hne).cells 1,(k.blk hK (by decide) hne).cells 2,(k.blk hK (by decide) hne).cells 3,(k.blk hK (by decide) hne).cells 4,(k.blk hK (by decide) hne).cells 5,(k.blk hK (by decide) hne).cells 6,(k.blk hK (by decide) hne).cells 7,(k.blk hK (by decide) hne).cells 8,(k.blk hK (by decide) hne).cells 9,(k.blk hK (by decide) hne).cells 10,(k.blk hK (by decide) hne).cells 11⟩
       replace hW:=hW.trans (BF.of_below hg);replace hX:=(hX.grow hg).here;clear hZ hK hg hne hd hbl;generalize wr.heap.size=K at hk⊢;refine dN (BF b Y) 99 (BF.of_below (ak _ _ 1)) (fun w1 h1 hS=>?_);replace hX:=hX.grow h1
       iterate 5 refine aW ?_
       refine cO 5 (qg x.1.ty w1 (hL.below hX.bl) hty.1 hty.2.1 hty.2.2.1 hty.2.2.2) ?_;rintro e w2 ⟨rfl,hb2⟩;replace hX:=hX.grow hb2;refine⟨_,rfl,hX.f,fun hS=>?_⟩;refine iy 6 (fun _=>hS.trans (BF.of_below (zB _ _))) (fun _=>?_);refine cO 7 (TX.words [Og,x.1.name,nY,bU x.1.ty] hX hlt) ?_;rintro e w3 ⟨rfl,hX,_⟩;refine⟨_,rfl,hX.f,fun hS=>?_⟩;refine dH ?_;have hkw:=hk _ hX.f
       go_upto_if 89 with fail
       go_cut [] from 77 to 92 (fun X=>TX b w0 Y tot ((if dZ x.1 then [] else bF [Oh,aO x.1.step,sCap,aO x.1.cap])++(bF [Rj,bodyT x.1.body,uV]++R)) X)
       case first=>
        cases hch:x.1.dS
        ·rw[hch] at hX;go_wp2
         go_meet
         case rel=>exact hX
        ·rw[hch] at hX;go_wp2_with fail;refine (TX.words [U5] hX hlt).mono ?_;rintro e w4 ⟨rfl,hX,_⟩;go_wp2
         go_meet
         case rel=>exact hX
       case rest=>
        clear hX hkw;have hX:=hcut;clear hcut;have hkw:=hk _ hX.f;go_wp2_with fail;refine (Hr x wc).mono ?_;rintro e w4 ⟨rfl,hb4⟩;replace hX:=hX.grow hb4;clear hkw hb4
        go_upto_if 95 with fail
        go_cut [] from 93 to 104 (fun X=>TX b w0 Y tot (bF [Rj,bodyT x.1.body,uV]++R) X)
        case first=>
         cases hpl:dZ x.1
         ·rw[hpl] at hX;go_wp2;refine dN (BF b Y) 99 (hX.f.trans (BF.of_below (ak _ _ 1))) (fun w1 h1 hS=>?_);replace hX:=hX.grow h1;refine aG 0 ?_;refine aG 1 ?_;refine aG 2 ?_;refine aG 4 ?_;refine aG 5 ?_;refine cO 3 (jy x.1.step _ (hL.below hX.bl).e.base hfp.1.1 hfp.1.2) ?_;rintro e w5 ⟨rfl,hb5⟩;replace hX:=hX.grow hb5;refine⟨_,rfl,hX.f,fun hS=>?_⟩;refine cO 6 (jy x.1.cap _ (hL.below hX.bl).e.base hfp.2.1.1 hfp.2.1.2) ?_;rintro e w6 ⟨rfl,hb6⟩;replace hX:=hX.grow hb6;refine⟨_,rfl,hX.f,fun hS=>?_⟩;refine iy 7 (fun _=>hS.trans (BF.of_below (zB _ _))) (fun _=>?_);refine cO 8 (TX.words [Oh,aO x.1.step,sCap,aO x.1.cap] hX hlt) ?_;rintro e w7 ⟨rfl,hX,_⟩;refine⟨_,rfl,hX.f,fun hS=>?_⟩;refine dH ?_;go_wp2
          go_meet
          case rel=>exact hX
         ·rw[hpl] at hX;go_wp2
          go_meet
          case rel=>exact hX
        case rest=>
         clear hX;have hX:=hcut;clear hcut;have hkw:=hk _ hX.f;go_wp2_with fail;refine ((JY x.1.body x.2.a x.2.n x.2.c wc (hL.below hX.bl).e (let r:=hbr.below hX.bl;⟨r.len,r.cap,r.max,r.rd⟩) hfp.2.2).mono fun e w' h=>(⟨⟨_,h.1⟩,h.2⟩:(∃z,e=.returned (.tuple #[.string (bodyT x.1.body),.int .i64 z]))/\Below wc.heap.size wc w')).mono ?_;rintro e w5 ⟨⟨z,rfl⟩,hb5⟩;replace hX:=hX.grow hb5;go_wp2_with fail;refine (TX.words [Rj,bodyT x.1.body,uV] hX hlt).mono ?_;rintro e w6 ⟨rfl,hX,_⟩;go_wp2
         go_roundg (pn-(j+1))
         case measure=>omega
         case rel=>exact⟨j+1,by omega,by go_num,(hX.as hR).back hW⟩
      ·replace hX:=hX.as (R':=[]) (by rw[List.drop_of_length_le (by have h1:=h.p.len;have h2:=congrArg List.length h.pl;rw[List.length_map] at h2;simp only at h1;omega)];rfl);obtain⟨t0,h1,h2⟩:=hX.t;rw[List.append_nil] at h2;subst h2;go_wp2;go_end0;exact⟨rfl,h1⟩
def zJ (l:Lw):Value:=.tuple #[.string ⟨(if bg l=0 then dh l else []).toArray⟩,.int .i64 (bg l)]
theorem WS.str {B b:Nat} {w0 w:World} {bs:List UInt8} (h:WS B b w0 w bs) (h0:bs≠[]):Calls Tryz.prog 31 #[.pointer (some ⟨b,0,none⟩)] w fun e w'=>e=.returned (.string ⟨bs.toArray⟩)/\Below B w0 w':=by
 rcases h.ib with k|k<;>exact (aax B b _ bs w k h0).mono fun e w' r=>⟨r.1,h.bl.trans r.2⟩
theorem WS.fresh (w:World):WS w.heap.size w.heap.size w (w.alloc (.cells #[.pointer none,.slice none 0 0] 80)) []:=by
 refine⟨.inl ⟨Nat.le_refl _,.slice none 0 0,?_,World.ownsRow_nil _ _ _ _,fun e=>by cases e⟩,(Below.refl _ _).alloc (Nat.le_refl _) _,Nat.le_refl _⟩;exact aj.new w _ _
theorem uZ (l:Lw) (ss:List (Sc × Hd)) (ps:List (Pv × Hd)) (f s p:Hd) (w:World) (hL:cZ w) (h:dV w l ss ps f s p) (hf:nV l) (hT:bg l=0->AL l/\dh l≠[]/\(dh l).length<=1000000000000):
  Calls Tryz.prog 11 #[dR f s p] w fun e w'=>e=.returned (zJ l)/\Below w.heap.size w w':=by
 have HC:=zH (fun W hb=>Au l ss ps f s p W (hL.below hb) (h.below hb) hf)
 have HW:Hid (bg l=0->∀W,Below w.heap.size w W->Calls Tryz.prog 30 #[.pointer (some ⟨W.heap.size,0,none⟩),dR f s p] (W.alloc (.cells #[.pointer none,.slice none 0 0] 80)) fun e w'=>e=.returned (.tuple #[])/\WS W.heap.size W.heap.size W w' (dh l)):=fun hz W hb=>by
  have k:=Yt l ss ps f s p W.heap.size W.heap.size W _ [] (WS.fresh W) rfl (hL.below hb) (h.below hb) hf (hT hz).1 (by rw[List.length_nil];have:=(hT hz).2.2;omega);rw[List.nil_append] at k;exact k
 have HN:Hid (bg l=0->dh l≠[]):=fun hz=>(hT hz).2.1
 unfold zJ;obtain⟨z,hz⟩:=zE (bg l);rw[<-hz] at HC HW HN⊢;obtain⟨fa,fn,fc⟩:=f;obtain⟨sa,sn,sc⟩:=s;obtain⟨pa,pn,pc⟩:=p;unfold dR at HC HW⊢;simp only at HC HW⊢;clear hL h hf hT hz;obtain⟨W,hW⟩:=zE (w.alloc (.cells #[.slice fa fn fc,.slice sa sn sc,.slice pa pn pc] 28));obtain⟨Q,hQ⟩:=zE w.heap.size;have jG:Hid (aj W Q 28 [.slice fa fn fc,.slice sa sn sc,.slice pa pn pc]):=by show aj _ _ _ _;rw[hW,hQ];exact aj.new w _ _
 have aY:Hid (Below w.heap.size w W):=by show Below _ _ _;rw[hW];exact zB _ _
 have hkc:=jG.out.cells;by_cases hz0:z=0
 ·subst hz0;rw[if_pos rfl];have HWW:=zH (HW.out rfl);have HNN:=zH (HN.out rfl);clear HW HN;generalize dh l=tl at*;go_enter Tryz.func11,Tryz.ntmps11
  go_upto_region 1 with fail
  simp only[<-hW,<-hQ]
  clear hW hQ;go_wp2_with fail;refine (HC.out _ aY.out).mono ?_;rintro e w1 ⟨rfl,hb1⟩;have HB1:=zH (ah aY.out hb1);have iF:Hid (aj w1 Q 28 [.slice fa fn fc,.slice sa sn sc,.slice pa pn pc]):=jG.out.below hb1 jG.out.lt;have HA1:Hid (Below w1.heap.size w1 (w1.alloc (.cells #[.pointer none,.slice none 0 0] 80))):=(Below.refl _ _).alloc (Nat.le_refl _) _;have hkd:=(iF.out.below HA1.out iF.out.lt).cells;clear hb1 hkc;go_wp2_with fail;refine (HWW.out _ HB1.out).mono ?_;rintro e w2 ⟨rfl,hws⟩;have HST:=zH (hws.str HNN.out);clear hws hkd;go_wp2_with fail;refine HST.out.mono ?_;rintro e w3 ⟨rfl,hb3⟩;have HB3:=zH (ah HB1.out hb3);clear hb3;go_wp2;go_ret2;exact⟨rfl,HB3.out⟩
 ·rw[if_neg hz0];have e1:(z !=0)=true:=by simp[hz0]
  clear HW HN hz0;go_enter Tryz.func11,Tryz.ntmps11
  go_upto_region 1 with fail
  simp only[<-hW,<-hQ]
  clear hW hQ;go_wp2_with fail;refine (HC.out _ aY.out).mono ?_;rintro e w1 ⟨rfl,hb1⟩;have HB1:=zH (ah aY.out hb1);clear hb1 hkc;go_wp2;go_ret2;exact⟨rfl,HB1.out⟩
end Go.Proofs.YtimokmplkpbmdaaGreatDoor
