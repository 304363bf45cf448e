/- A part of the proof: Ut Uw Z1 Z2. -/
import Derived.Test.YtimokmplkpbmdaaGreatDoorQ38
import Derived.Test.YtimokmplkpbmdaaGreatDoorQ40
set_option linter.all false
set_option maxRecDepth 100000
set_option maxHeartbeats 0
namespace Go.Proofs.YtimokmplkpbmdaaGreatDoor
open Go.RowKit Go.Shelf
attribute [local go_sem] Oper.semAt_some
theorem PX.Yu {w0 X Y:World} {R b B:Nat} {l:Lw} {cs:List Value} (h:PX w0 X R l) (hq:xE b B X Y) (hb:aj X b 9 cs) (h1:w0.heap.size<=b) (h2:w0.heap.size<=B):PX w0 Y R l:=by
 obtain⟨ss,ps,fv,sv,pv,h⟩:=h;refine⟨ss,ps,fv,sv,pv,h.tf (t:=9) ⟨hq.size,fun k cs' t' fr hk ht=>?_⟩ ⟨hq.os.trans h.bl.os,hq.tape.trans h.bl.tape,hq.output.trans h.bl.output,Nat.le_trans h.bl.size hq.size,fun k hk=>?_⟩ (by decide) (by decide) (by decide) (by decide) (by decide) (by decide)⟩
 ·refine hq.same k _ hk ?_ (.inr rfl);rintro rfl;rw[show X.heap[k]?=_ from hb] at hk;injection hk with hk;injection hk with _ e _;exact ht e.symm
 ·have h3:=h.bl.block k hk;have h4:k<X.heap.size:=Nat.lt_of_lt_of_le hk h.bl.size;rw[<-h3,Array.getElem?_eq_getElem h4];exact hq.same k _ (Array.getElem?_eq_getElem h4) (by omega) (.inl (by omega))
def dD (aX:List Ln):Lw:=aX.foldl Lw.add ⟨[],[],[]⟩
theorem Vd (aX:List Ln) (x:Ln):dD (aX++[x])=(dD aX).add x:=by unfold dD;rw[List.foldl_append];rfl
theorem Yv (aX:List Ln):(dD aX).facts.length<=aX.length/\(dD aX).aU.length<=aX.length/\(dD aX).aH.length<=aX.length:=by
 suffices h:∀(l:Lw),(aX.foldl Lw.add l).facts.length<=l.facts.length+aX.length/\(aX.foldl Lw.add l).aU.length<=l.aU.length+aX.length/\(aX.foldl Lw.add l).aH.length<=l.aH.length+aX.length by
  have:=h ⟨[],[],[]⟩;simpa [dD] using this
 induction aX with
 |nil=>intro l;simp
 |cons a r ih=>
  intro l;have h:=ih (l.add a);rw[List.foldl_cons,List.length_cons];cases a<;>simp only[Lw.add,List.length_append,List.length_cons,List.length_nil] at h⊢<;>omega
structure je (s:ByteArray) (aX:List Ln):Prop where
 size:s.size<=1000000
 n:aX.length=fU s
 max:aX.length<=500
 ok:∀i (h:i<aX.length) (h':i<(eU s).length),nH (eU s)[i] aX[i]
def lastB (s:ByteArray):ByteArray:=(eU s).getLastD ⟨#[]⟩
def kN (s:ByteArray) (aX:List Ln):Lw × Int × Int:=
 if lastB s≠⟨#[]⟩ then (⟨[],[],[]⟩,(fU s:Int)+1,11) else
 if bg (dD aX)≠0 then (⟨[],[],[]⟩,0,bg (dD aX)) else
 if (⟨(dh (dD aX)).toArray⟩:ByteArray)≠s then (⟨[],[],[]⟩,0,11) else (dD aX,0,0)
structure PI (w:World) (s:ByteArray) (aX:List Ln) (b:Nat) (k:Nat) (W:World):Prop where
 px:PX w W (b+4) (dD (aX.take k))
 b0:aj W b 9 [.string s]
 b1:aj W (b+1) 28 [.slice none 0 0,.slice none 0 0,.slice none 0 0]
 b2:aj W (b+2) 3 [.int .i64 0]
 b3:aj W (b+3) 46 [.int .i64 0]
 b5:aj W (b+5) 3 [.int .i64 k]
 b6:∃cs,aj W (b+6) 9 cs
 b7:∃cs,aj W (b+7) 9 cs
 b8:∃cs,aj W (b+8) 3 cs
 last:k=fU s+1->lastB s=⟨#[]⟩
structure PJ (w:World) (s:ByteArray) (b:Nat) (W:World):Prop where
 ne:lastB s≠⟨#[]⟩
 bl:Below w.heap.size w W
 b1:aj W (b+1) 28 [.slice none 0 0,.slice none 0 0,.slice none 0 0]
 b2:aj W (b+2) 3 [.int .i64 ((fU s:Int)+1)]
 b3:aj W (b+3) 46 [.int .i64 11]
theorem xE.blk {b B k:Nat} {X Y:World} {t:TypeId} {cs:List Value} (h:xE b B X Y) (hb:aj X k t cs) (hk:k≠b):aj Y k t cs:=h.same k _ hb hk (.inr rfl)
theorem PI.Yu {w X Y:World} {s:ByteArray} {aX:List Ln} {b B k:Nat} (h:PI w s aX b k X) (hq:xE (b+6) B X Y) (h1:w.heap.size<=b) (h2:w.heap.size<=B):PI w s aX b k Y:=by
 obtain⟨cs,hc⟩:=h.b6;obtain⟨c7,Il⟩:=h.b7;obtain⟨c8,hc8⟩:=h.b8;exact⟨h.px.Yu hq hc (by omega) h2,hq.blk h.b0 (by omega),hq.blk h.b1 (by omega),hq.blk h.b2 (by omega),hq.blk h.b3 (by omega),hq.blk h.b5 (by omega),hq.typ _ _ hc,⟨c7,hq.blk Il (by omega)⟩,⟨c8,hq.blk hc8 (by omega)⟩,h.last⟩
theorem PJ.Yu {w X Y:World} {s:ByteArray} {b B:Nat} (h:PJ w s b X) (hq:xE (b+6) B X Y) (h1:w.heap.size<=b) (h2:w.heap.size<=B):PJ w s b Y:=
 ⟨h.ne,⟨hq.os.trans h.bl.os,hq.tape.trans h.bl.tape,hq.output.trans h.bl.output,Nat.le_trans h.bl.size hq.size,fun k hk=>by
   have h3:=h.bl.block k hk;have h4:k<X.heap.size:=Nat.lt_of_lt_of_le hk h.bl.size;rw[<-h3,Array.getElem?_eq_getElem h4];exact hq.same k _ (Array.getElem?_eq_getElem h4) (by omega) (.inl (by omega))⟩,hq.blk h.b1 (by omega),hq.blk h.b2 (by omega),hq.blk h.b3 (by omega)⟩
theorem aaM {s:ByteArray} {pre:List ByteArray} {x:ByteArray} (h:pre++[x]<+:eU s):∃(h':pre.length<(eU s).length),(eU s)[pre.length]=x:=by
 obtain⟨t,ht⟩:=h;refine⟨by rw[<-ht];simp,?_⟩;simp only[<-ht]
 simp
theorem last_at {s:ByteArray} (h':fU s<(eU s).length):(eU s)[fU s]=lastB s:=by
 have hl:=rP s.size s (Nat.le_refl _);unfold lastB;rw[List.getLastD_eq_getLast?,List.getLast?_eq_getElem?,hl,Nat.add_sub_cancel,List.getElem?_eq_getElem h'];rfl
def afL (r:Lw × Int × Int) (w:World) (e:Ending) (w':World):Prop:=∃(f sc p:Hd) (ss:List (Sc × Hd)) (ps:List (Pv × Hd)),e=.returned (.tuple #[dR f sc p,.int .i64 r.2.1,.int .i64 r.2.2])/\dV w' r.1 ss ps f sc p/\Below w.heap.size w w'
theorem dV.empty (w:World):dV w ⟨[],[],[]⟩ [] [] ⟨none,0,0⟩ ⟨none,0,0⟩ ⟨none,0,0⟩:=⟨aJ.nil _ _,aJ.nil _ _,aJ.nil _ _,rfl,rfl,(fun _ h=>by cases h),(fun _ h=>by cases h)⟩
theorem PT.fresh {w W:World} {R:Nat} (h:aj W R 28 [.slice none 0 0,.slice none 0 0,.slice none 0 0]) (hb:Below w.heap.size w W) (hR:w.heap.size<=R):PX w W R ⟨[],[],[]⟩:=
 ⟨[],[],_,_,_,hR,hb,h,World.ownsRow_nil _ _ _ _,World.ownsRow_nil _ _ _ _,World.ownsRow_nil _ _ _ _,rfl,rfl,(fun _ h=>by cases h),(fun _ h=>by cases h)⟩
theorem aj.newAt {w:World} {n:Nat} (h:w.heap.size=n) (t:TypeId) (cs:Array Value):aj (w.alloc (.cells cs t)) n t cs.toList:=h ▸ aj.new w t cs
def afM:List Value:=[.slice none 0 0,.slice none 0 0,.slice none 0 0]
structure PN (s:ByteArray) (w:World) (b:Nat) (W:World):Prop where
 size:W.heap.size=b+9
 bl:Below w.heap.size w W
 b0:aj W b 9 [.string s]
 b1:aj W (b+1) 28 afM
 b2:aj W (b+2) 3 [.int .i64 0]
 b3:aj W (b+3) 46 [.int .i64 0]
 b4:aj W (b+4) 28 afM
 b5:aj W (b+5) 3 [.int .i64 0]
 b6:aj W (b+6) 9 [.string s]
 b7:aj W (b+7) 9 [.string kD]
 b8:aj W (b+8) 3 [.int .i64 0]
theorem afN (s:ByteArray) (w W6 W:World) (h6:W6=(((((w.alloc (.cells #[.string s] 9)).alloc (.cells #[.slice none 0 0,.slice none 0 0,.slice none 0 0] 28)).alloc (.cells #[.int .i64 0] 3)).alloc (.cells #[.int .i64 0] 46)).alloc (.cells #[.slice none 0 0,.slice none 0 0,.slice none 0 0] 28)).alloc (.cells #[.int .i64 0] 3))
  (hW:W=((W6.alloc (.cells #[.string s] 9)).alloc (.cells #[.string kD] 9)).alloc (.cells #[.int .i64 0] 3)):PN s w w.heap.size W/\W6.heap.size=w.heap.size+6:=by
 subst h6;subst hW;have z:∀(W:World) (o:Obj) (n:Nat),W.heap.size=n->(W.alloc o).heap.size=n+1:=fun W o n h=>by rw[World.size_alloc,h]
 have z0:w.heap.size=w.heap.size:=rfl;have z1:=z _ (.cells #[.string s] 9) _ z0;have z2:=z _ (.cells #[.slice none 0 0,.slice none 0 0,.slice none 0 0] 28) _ z1;have z3:=z _ (.cells #[.int .i64 0] 3) _ z2;have z4:=z _ (.cells #[.int .i64 0] 46) _ z3;have z5:=z _ (.cells #[.slice none 0 0,.slice none 0 0,.slice none 0 0] 28) _ z4;have z6:=z _ (.cells #[.int .i64 0] 3) _ z5;have z7:=z _ (.cells #[.string s] 9) _ z6;have z8:=z _ (.cells #[.string kD] 9) _ z7;have z9:=z _ (.cells #[.int .i64 0] 3) _ z8;refine⟨⟨z9,?_,((((((((aj.new w _ _).alloc _).alloc _).alloc _).alloc _).alloc _).alloc _).alloc _).alloc _,(((((((aj.newAt z1 _ _).alloc _).alloc _).alloc _).alloc _).alloc _).alloc _).alloc _,((((((aj.newAt z2 _ _).alloc _).alloc _).alloc _).alloc _).alloc _).alloc _,(((((aj.newAt z3 _ _).alloc _).alloc _).alloc _).alloc _).alloc _,((((aj.newAt z4 _ _).alloc _).alloc _).alloc _).alloc _,(((aj.newAt z5 _ _).alloc _).alloc _).alloc _,((aj.newAt z6 _ _).alloc _).alloc _,(aj.newAt z7 _ _).alloc _,aj.newAt z8 _ _⟩,z6⟩;exact (((((((((Below.refl _ w).alloc (by omega) _).alloc (by omega) _).alloc (by omega) _).alloc (by omega) _).alloc (by omega) _).alloc (by omega) _).alloc (by omega) _).alloc (by omega) _).alloc (by omega) _
theorem cell_kept {w w':World} {b:Nat} {v:Value} (h:w.cell? ⟨b,0,none⟩=some v) (hk:∀o,w.heap[b]?=some o->w'.heap[b]?=some o):w'.cell? ⟨b,0,none⟩=some v:=by
 have e:w'.heap[b]?=w.heap[b]?:=by
  cases ho:w.heap[b]? with
  |none=>unfold World.cell? at h;simp only[ho] at h;cases h
  |some o=>exact hk o ho
 exact (World.cell?_of_block e).trans h
theorem PX.bl {w0 w:World} {R:Nat} {l:Lw} (h:PX w0 w R l):Below w0.heap.size w0 w:=by
 obtain⟨_,_,_,_,_,h⟩:=h;exact h.bl
theorem PX.aiX {w0 w:World} {R B:Nat} {l:Lw} {cs:List Value} (h:PX w0 w R l) (hB:aj w B 3 cs) (h0:w0.heap.size<=B) (u:Value):PX w0 (w.setCell ⟨B,0,none⟩ u) R l:=by
 obtain⟨ss,ps,fv,sv,pv,h⟩:=h;exact⟨ss,ps,fv,sv,pv,h.tf (TF.set (e:=3) hB 0 u) (h.bl.setCell (p:=⟨B,0,none⟩) h0 u) (by decide) (by decide) (by decide) (by decide) (by decide) (by decide)⟩
structure PE (w:World) (s:ByteArray) (aX:List Ln) (b:Nat) (k:Nat) (W:World):Prop where
 wb:w.heap.size=b
 px:PX w W (b+4) (dD (aX.take k))
 b0:aj W b 9 [.string s]
 b1:aj W (b+1) 28 [.slice none 0 0,.slice none 0 0,.slice none 0 0]
 b2:aj W (b+2) 3 [.int .i64 0]
 b3:aj W (b+3) 46 [.int .i64 0]
 b5:aj W (b+5) 3 [.int .i64 ((k:Int)+1)]
 b6:∃cs,aj W (b+6) 9 cs
 b7:∃cs,aj W (b+7) 9 cs
 b8:∃cs,aj W (b+8) 3 cs
theorem PI.step {w W:World} {s:ByteArray} {aX:List Ln} {b k:Nat} (hw:w.heap.size=b) (h:PI w s aX b k W):PE w s aX b k (W.setCell ⟨b+5,0,none⟩ (.int .i64 ((k:Int)+1))):=by
 obtain⟨cs,hc⟩:=h.b6;obtain⟨c7,Il⟩:=h.b7;obtain⟨c8,hc8⟩:=h.b8;exact⟨hw,h.px.aiX h.b5 (by omega) _,h.b0.other (p:=⟨b+5,0,none⟩) (by show b≠b+5;omega) _,h.b1.other (p:=⟨b+5,0,none⟩) (by show b+1≠b+5;omega) _,h.b2.other (p:=⟨b+5,0,none⟩) (by show b+2≠b+5;omega) _,h.b3.other (p:=⟨b+5,0,none⟩) (by show b+3≠b+5;omega) _,h.b5.set 0 _,⟨cs,hc.other (p:=⟨b+5,0,none⟩) (by show b+6≠b+5;omega) _⟩,⟨c7,Il.other (p:=⟨b+5,0,none⟩) (by show b+7≠b+5;omega) _⟩,⟨c8,hc8.other (p:=⟨b+5,0,none⟩) (by show b+8≠b+5;omega) _⟩⟩
theorem FR.blk {R B:Nat} {W W':World} {t:TypeId} {cs:List Value} (h:FR R W W') (hb:aj W B t cs) (hR:B≠R) (ht:t≠36/\t≠39/\t≠45):aj W' B t cs:=
 h.keep B _ hb hR (fun cs' t' fr e=>by injection e with _ e2 _;exact e2 ▸ ht)
theorem PE.fr5 {w W W':World} {s:ByteArray} {aX:List Ln} {b k:Nat} (h:PE w s aX b k W) (hf:FR (b+4) W.drew W'):aj W' (b+5) 3 [.int .i64 ((k:Int)+1)]:=hf.blk h.b5.drew (by omega) (by decide)
theorem PE.fr0 {w W W':World} {s:ByteArray} {aX:List Ln} {b k:Nat} (h:PE w s aX b k W) (hf:FR (b+4) W.drew W'):aj W' b 9 [.string s]:=hf.blk h.b0.drew (by omega) (by decide)
theorem PE.next {w W W':World} {s:ByteArray} {aX:List Ln} {b k:Nat} {l':Lw} (h:PE w s aX b k W) (hpx:PX w W' (b+4) l') (hl:l'=dD (aX.take (k+1))) (hf:FR (b+4) W.drew W') (hlast:k+1=fU s+1->lastB s=⟨#[]⟩):PI w s aX b (k+1) W':=by
 obtain⟨cs,hc⟩:=h.b6;obtain⟨c7,Il⟩:=h.b7;obtain⟨c8,hc8⟩:=h.b8;exact⟨hl ▸ hpx,h.fr0 hf,hf.blk h.b1.drew (by omega) (by decide),hf.blk h.b2.drew (by omega) (by decide),hf.blk h.b3.drew (by omega) (by decide),h.fr5 hf,⟨cs,hf.blk hc.drew (by omega) (by decide)⟩,⟨c7,hf.blk Il.drew (by omega) (by decide)⟩,⟨c8,hf.blk hc8.drew (by omega) (by decide)⟩,hlast⟩
theorem PE.Oz {w W W1 W':World} {s:ByteArray} {aX:List Ln} {b k:Nat} (hI:PI w s aX b k W) (hs:∀(q:Nat) (o:Obj),W.heap[q]?=some o->q≠b+5->W1.heap[q]?=some o) (hz:W.heap.size<=W1.heap.size) (hf:FR (b+4) W1.drew W') (B:Nat):KeepsFrom B W W':=by
 refine⟨Nat.le_trans hz hf.size,fun q o _ hq ho=>?_⟩
 have h5:q≠b+5:=by
  rintro rfl;rw[show W.heap[b+5]?=_ from hI.b5] at hq;injection hq with hq;subst hq;cases ho
 have h4:q≠b+4:=by
  rintro rfl;obtain⟨_,_,_,_,_,hp⟩:=hI.px;rw[show W.heap[b+4]?=_ from hp.blk] at hq;injection hq with hq;subst hq;cases ho
 exact hf.keep q o (hs q o hq h5) h4 (fun cs t fr e=>by subst e;cases ho)
theorem PE.Yw {w W W1 W':World} {s:ByteArray} {aX:List Ln} {b k:Nat} {K:Nat->Prop} {l':Lw} (hw:w.heap.size=b) (hKi:∀q,K q↔(q<b∨q=b+7∨q=b+8)) (hI:PI w s aX b k W) (hs:∀(q:Nat) (o:Obj),W.heap[q]?=some o->q≠b+5->W1.heap[q]?=some o) (hz:W.heap.size<=W1.heap.size) (hpx:PX w W' (b+4) l') (hf:FR (b+4) W1.drew W'):Kb (fun q=>K q∨q=b+6) W W':=by
 refine⟨Nat.le_trans hz hf.size,fun q o hq hk=>?_⟩
 have hB:∀(t:TypeId) (cs:List Value),q≠b+5->q≠b+4->aj W q t cs->(t≠36/\t≠39/\t≠45)->W'.heap[q]?=some o:=fun t cs h5 h4 hb ht=>by
  rw[show W.heap[q]?=_ from hb] at hq;rw[<-hq];exact hf.blk (R:=b+4) (W:=W1.drew) (hs q _ hb h5) h4 ht
 obtain⟨c6,hc6⟩:=hI.b6;obtain⟨c7,Il⟩:=hI.b7;obtain⟨c8,hc8⟩:=hI.b8;rcases hk with hk|rfl
 ·rcases (hKi q).1 hk with h|rfl|rfl
  ·rw[<-hw] at h;rw[hpx.bl.block q h,<-hI.px.bl.block q h];exact hq
  ·exact hB _ _ (by omega) (by omega) Il (by decide)
  ·exact hB _ _ (by omega) (by omega) hc8 (by decide)
 ·exact hB _ _ (by omega) (by omega) hc6 (by decide)
def endW (W:World) (b:Nat) (v1 v2 v3 n c:Value):World:=((((W.setCell ⟨b+1,0,none⟩ v1).setCell ⟨b+1,1,none⟩ v2).setCell ⟨b+1,2,none⟩ v3).setCell ⟨b+2,0,none⟩ n).setCell ⟨b+3,0,none⟩ c
theorem vX (W:World) (b:Nat) (v1 v2 v3 n c:Value) (k:Nat) (h1:k≠b+1) (h2:k≠b+2) (h3:k≠b+3):(endW W b v1 v2 v3 n c).heap[k]?=W.heap[k]?:=by
 unfold endW;rw[Below.heap_setCell _ _ _ k (show k≠b+3 from h3),Below.heap_setCell _ _ _ k (show k≠b+2 from h2),Below.heap_setCell _ _ _ k (show k≠b+1 from h1),Below.heap_setCell _ _ _ k (show k≠b+1 from h1),Below.heap_setCell _ _ _ k (show k≠b+1 from h1)]
theorem AP {W:World} {b:Nat} {a1 a2 a3 a4 a5:Value} (v1 v2 v3 n c:Value) (h1:aj W (b+1) 28 [a1,a2,a3]) (h2:aj W (b+2) 3 [a4]) (h3:aj W (b+3) 46 [a5]):
  aj (endW W b v1 v2 v3 n c) (b+1) 28 [v1,v2,v3]/\aj (endW W b v1 v2 v3 n c) (b+2) 3 [n]/\aj (endW W b v1 v2 v3 n c) (b+3) 46 [c]:=by
 have q1:aj (((W.setCell ⟨b+1,0,none⟩ v1).setCell ⟨b+1,1,none⟩ v2).setCell ⟨b+1,2,none⟩ v3) (b+1) 28 [v1,v2,v3]:=((h1.set 0 _).set 1 _).set 2 _;have q2:aj (((W.setCell ⟨b+1,0,none⟩ v1).setCell ⟨b+1,1,none⟩ v2).setCell ⟨b+1,2,none⟩ v3) (b+2) 3 [a4]:=((h2.other (p:=⟨b+1,0,none⟩) (by show b+2≠b+1;omega) _).other (p:=⟨b+1,1,none⟩) (by show b+2≠b+1;omega) _).other (p:=⟨b+1,2,none⟩) (by show b+2≠b+1;omega) _;have q3:aj (((W.setCell ⟨b+1,0,none⟩ v1).setCell ⟨b+1,1,none⟩ v2).setCell ⟨b+1,2,none⟩ v3) (b+3) 46 [a5]:=((h3.other (p:=⟨b+1,0,none⟩) (by show b+3≠b+1;omega) _).other (p:=⟨b+1,1,none⟩) (by show b+3≠b+1;omega) _).other (p:=⟨b+1,2,none⟩) (by show b+3≠b+1;omega) _;exact⟨(q1.other (p:=⟨b+2,0,none⟩) (by show b+1≠b+2;omega) _).other (p:=⟨b+3,0,none⟩) (by show b+1≠b+3;omega) _,(q2.set 0 _).other (p:=⟨b+3,0,none⟩) (by show b+2≠b+3;omega) _,(q3.other (p:=⟨b+2,0,none⟩) (by show b+3≠b+2;omega) _).set 0 _⟩
theorem vY {w W:World} {b:Nat} (h:Below w.heap.size w W) (hw:w.heap.size=b) (v1 v2 v3 n c:Value):Below w.heap.size w (endW W b v1 v2 v3 n c):=
 ((((h.setCell (p:=⟨b+1,0,none⟩) (by show _<=b+1;omega) _).setCell (p:=⟨b+1,1,none⟩) (by show _<=b+1;omega) _).setCell (p:=⟨b+1,2,none⟩) (by show _<=b+1;omega) _).setCell (p:=⟨b+2,0,none⟩) (by show _<=b+2;omega) _).setCell (p:=⟨b+3,0,none⟩) (by show _<=b+3;omega) _
def Ld (W:World) (b k:Nat):World:=endW W b (.slice none 0 0) (.slice none 0 0) (.slice none 0 0) (.int .i64 ((k:Int)+1)) (.int .i64 11)
theorem PE.stop {w W:World} {s:ByteArray} {aX:List Ln} {b k:Nat} (h:PE w s aX b k W) (hk:k=fU s) (hx:lastB s≠⟨#[]⟩):PJ w s b (Ld W b k):=by
 subst hk;obtain⟨h1,h2,h3⟩:=AP (.slice none 0 0) (.slice none 0 0) (.slice none 0 0) (.int .i64 ((fU s:Int)+1)) (.int .i64 11) h.b1 h.b2 h.b3;exact⟨hx,vY h.px.bl h.wb _ _ _ _ _,h1,h2,h3⟩
theorem Dq {w w':World} {R B e s n:Nat} {v:Value} {xs:List Value} (ho:w.ownsRow B e s v n xs) (hB:R<=B) (hk:∀(k:Nat) (cs:Array Value) (t:TypeId) (fr:Nat × Nat),R<=k->w.heap[k]?=some (.cells cs t fr)->w'.heap[k]?=some (.cells cs t fr)):w'.ownsRow B e s v n xs:=by
 refine⟨ho.1,ho.2.imp id ?_⟩;rintro⟨g,cap,cur,h1,h2,h3,h4⟩;exact⟨g,cap,cur,h1,h2,hk _ _ _ _ (by omega) h3,h4⟩
theorem PT.up {w0 w w':World} {R:Nat} {l:Lw} {ss:List (Sc × Hd)} {ps:List (Pv × Hd)} {fv sv pv:Value} (h:PT w0 w R l ss ps fv sv pv) (hb:Below w0.heap.size w0 w') (hk:∀(k:Nat) (cs:Array Value) (t:TypeId) (fr:Nat × Nat),R<=k->w.heap[k]?=some (.cells cs t fr)->w'.heap[k]?=some (.cells cs t fr)):PT w0 w' R l ss ps fv sv pv:=
 ⟨h.r,hb,hk _ _ _ _ (Nat.le_refl _) h.blk,Dq h.f (Nat.le_succ _) hk,Dq h.s (Nat.le_succ _) hk,Dq h.p (Nat.le_succ _) hk,h.sl,h.pl,fun x hx=>⟨(h.sb x hx).1,Dq (h.sb x hx).2 (Nat.le_succ _) hk⟩,fun x hx=>⟨(h.pb x hx).1,Dq (h.pb x hx).2 (Nat.le_succ _) hk⟩⟩
theorem lC {W:World} {k D:Nat} {t:TypeId} {cs:List Value} {o:Obj} (h:aj W k t cs) (hk:k≠D):aj (W.putObj D o) k t cs:=(World.putObj_heap_other (by omega)).trans h
theorem yj {w W:World} {D:Nat} {o o':Obj} (h:Below w.heap.size w W) (hD:w.heap.size<=D) (hK:W.heap[D]?=some o'):Below w.heap.size w (W.putObj D o):=
 h.trans ((Below.refl _ W).grown (grownBy_putObj' W D o) (by have:=lt_of_some hK;omega) (fun k e=>by cases e;omega))
theorem Qe {W W1:World} {B b k:Nat} (h:KeepsFrom B W W1):KeepsFrom B W (Ld W1 b k):=by
 unfold Ld endW;exact h.trans (((((KeepsOthers.setCell _ _ _).trans (KeepsOthers.setCell _ _ _)).trans (KeepsOthers.setCell _ _ _)).trans (KeepsOthers.setCell _ _ _)).trans (KeepsOthers.setCell _ _ _) |>.from B)
theorem PE.drew {w W:World} {s:ByteArray} {aX:List Ln} {b k:Nat} (h:PE w s aX b k W):PE w s aX b k W.drew:=by
 obtain⟨cs,hc⟩:=h.b6;obtain⟨c7,Il⟩:=h.b7;obtain⟨c8,hc8⟩:=h.b8;exact⟨h.wb,h.px.below (Below.refl _ _).drew,h.b0.drew,h.b1.drew,h.b2.drew,h.b3.drew,h.b5.drew,⟨cs,hc.drew⟩,⟨c7,Il.drew⟩,⟨c8,hc8.drew⟩⟩
theorem Yx (s:ByteArray) (aX:List Ln) (w:World) (hL:cZ w) (hok:je s aX) (hF:nV (dD aX)) (hT:bg (dD aX)=0->AL (dD aX)/\dh (dD aX)≠[]/\(dh (dD aX)).length<=1000000000000):
  CallsIn Fence.wide 6 Tryz.prog 12 #[.string s] w (afL (kN s aX) w):=by
 have jU:Hid (∀W,Below w.heap.size w W->cZ W):=fun W hb=>hL.below hb
 have jw:=zH hok;have HFL:=zH hF;have Ny:=zH hT;have XR:Hid (∀(W:World) (k:Nat),CallsIn Fence.wide k Tryz.prog 32 #[.string s,.string ⟨#[10]⟩] W _):=fun W k=>(callsIn_wide (n:=k)).2 (Oy s W)
 clear hL hok hF hT;refine callsIn_of_wp_marks Tryz.func12 rfl trivial ?_ rfl;simp only[Tryz.ntmps12,List.size_toArray,List.length_cons,List.length_nil,Nat.reduceAdd,Nat.reduceSub,Array.replicate_succ,Array.replicate_zero,List.push_toArray,List.append_toArray,List.nil_append,List.cons_append]
 gi_wp2_with fail
 obtain⟨W6,hW6⟩:=zE ((((((w.alloc (.cells #[.string s] 9)).alloc (.cells #[.slice none 0 0,.slice none 0 0,.slice none 0 0] 28)).alloc (.cells #[.int .i64 0] 3)).alloc (.cells #[.int .i64 0] 46)).alloc (.cells #[.slice none 0 0,.slice none 0 0,.slice none 0 0] 28)).alloc (.cells #[.int .i64 0] 3));simp only[<-hW6]
 refine⟨trivial,?_⟩;refine (XR.out W6 _).mono ?_;rintro e W9 ⟨rfl,hW9⟩;obtain⟨hpn,hs6⟩:=afN s w W6 W9 hW6 hW9;have iW:=zH hpn;obtain⟨b,hb⟩:=zE w.heap.size;rw[<-hb] at hs6 iW;have bC:=zH hb;simp only[hs6,<-hb,Nat.add_assoc,Nat.reduceAdd]
 clear hW6 hW9 hpn hs6 hb XR
 gi_wp2_with fail
 obtain⟨K,OA⟩:∃K:Nat->Prop,Hid (∀k,K k↔(k<b∨k=b+7∨k=b+8)):=⟨_,fun _=>Iff.rfl⟩
 have hsz:=jw.out.size
 refine FM rfl (by omega) (gf:=127) (lb:=#[.pointer (some ⟨b+7,0,none⟩),.pointer (some ⟨b+6,0,none⟩),.pointer (some ⟨b+8,0,none⟩)]) rfl trivial (enters_of Tryz.func127 (by kernel_rfl) rfl)
  (enc:=fun x:ByteArray=>.string x) (b:=b+6) (K:=K) (by rw[iW.out.size];omega) (fun k hk=>by rw[iW.out.size];have:=(OA.out k).1 hk;omega)
  (Qd 5 (by omega) (b+7) (b+6) (b+8) (by omega) (by omega) K ((OA.out _).2 (by omega)) ((OA.out _).2 (by omega)) s W9 iW.out.b7 iW.out.b6 iW.out.b8 (by omega) ?afP (fun h=>by have:=(OA.out _).1 h;omega)) rfl
  (fun pre W=>PI w s aX b pre.length W) (fun _ W=>PJ w s b W) (fun pre X Y h hq=>h.Yu hq (by rw[bC.out];exact Nat.le_refl _) iW.out.bl.size) (fun pre X Y h hq=>h.Yu hq (by rw[bC.out];exact Nat.le_refl _) iW.out.bl.size) ?start
  (fun x=>{tmps:=#[.string s,.pointer (some ⟨b,0,none⟩),.pointer (some ⟨b+1,0,none⟩),.pointer (some ⟨b+2,0,none⟩),.pointer (some ⟨b+3,0,none⟩),.pointer (some ⟨b+4,0,none⟩),.pointer (some ⟨b+5,0,none⟩),.string x,undef,undef,undef,.string s,.func (.func 127) #[] #[.pointer (some ⟨b+7,0,none⟩),.pointer (some ⟨b+6,0,none⟩),.pointer (some ⟨b+8,0,none⟩)],.string x,undef,undef,undef,undef,undef,undef,undef,undef,undef,undef,undef,undef,undef,undef,undef,undef,undef,undef,undef,undef,undef,undef,undef,undef,undef,undef,undef,undef,undef,undef,undef,undef,undef,undef,undef,undef,undef,undef,undef],defers:=[]}) ?assign ?body ?done ?stop
 case afP=>
  intro W hk;obtain⟨m,hm⟩:=(jU.out w (Below.refl _ _)).e.base.cut.2;refine⟨m,cell_kept hm fun o ho=>?_⟩;have h2:2<w.heap.size:=lt_of_some ho;exact hk.same 2 o ((iW.out.bl.block 2 h2).trans ho) ((OA.out 2).2 (.inl (by rw[bC.out];exact h2)))
 case start=>
  exact⟨PT.fresh iW.out.b4 iW.out.bl (by rw[bC.out];omega),iW.out.b0,iW.out.b1,iW.out.b2,iW.out.b3,iW.out.b5,⟨_,iW.out.b6⟩,⟨_,iW.out.b7⟩,⟨_,iW.out.b8⟩,(fun h=>by simp at h)⟩
 case assign=>
  intro l x W K' hK'
  gi_wp2
  exact hK'
 case body=>
  intro l pre x W hI hNx;have hlx:(eU s)[pre.length]?=some x:=by obtain⟨h',e⟩:=aaM hNx;rw[List.getElem?_eq_getElem h',e]
  have hll:=rP s.size s (Nat.le_refl _);have hpl:(pre++[x]).length=pre.length+1:=by simp
  have hmx:=jw.out.max;have hnl:=jw.out.n;obtain⟨k,hkk⟩:=zF pre.length;have hI:PI w s aX b pre.length W:=hI;rw[hkk] at hI hlx;have CX:Hid ((pre++[x]).length=k+1):=by show _=_;rw[hpl,hkk]
  have afQ:k<(eU s).length:=(List.getElem?_eq_some_iff.1 hlx).1;have HLX:=zH hlx;clear hNx hpl hsz hkk hlx;have HI:=zH hI;have hk1:(k:Int)<=600:=by omega
  have hc5:=hI.b5.cells;have hf5:=hI.b5.aI;have hc0:=hI.b0.cells;have h05:¬b=b+5:=by omega
  clear hI
  gi_wp2_with fail
  have nR:Hid (PE w s aX b k (W.setCell ⟨b+5,0,none⟩ (.int .i64 ((k:Int)+1)))):=HI.out.step bC.out.symm;have Ko:Hid (∀(q:Nat) (o:Obj),W.heap[q]?=some o->q≠b+5->(W.setCell ⟨b+5,0,none⟩ (.int .i64 ((k:Int)+1))).heap[q]?=some o):=fun q o h1 h2=>(Below.heap_setCell W ⟨b+5,0,none⟩ _ q h2).trans h1
  have HZ1:Hid (W.heap.size<=(W.setCell ⟨b+5,0,none⟩ (.int .i64 ((k:Int)+1))).heap.size):=by show _<=_;simp[World.setCell]
  generalize W.setCell ⟨b+5,0,none⟩ (.int .i64 ((k:Int)+1))=W1 at*;clear hc5 hf5 hc0;have hc5:=nR.out.b5.cells;have hc0:=nR.out.b0.cells
  have Oa:Hid (∀(W':World) (m:Nat),Below w.heap.size w W'->CallsIn Fence.wide m Tryz.prog 33 #[.string s,.string ⟨#[10]⟩] W' fun e w'=>e=.returned (.int .i64 (fU s))/\w'=W'):=fun W' m hb=>by
   obtain⟨mm,hm⟩:=(jU.out W' hb).e.base.cut.2;exact (callsIn_wide (n:=m)).2 (Tryz.strings_Count_any s ⟨#[10]⟩ mm W' (by have:=jw.out.size;omega) hm (by decide))
  have HB1:=zH nR.out.px.bl;have ak4:(fU s:Int)<=600:=by omega
  by_cases hkc:k<fU s
  ·have hle:(k:Int)+1<=(fU s:Int):=by omega
   have afR:k<aX.length:=by omega
   obtain⟨Yy,aaN⟩:∃q,aX[k]=q:=⟨_,rfl⟩
   have HLO:Hid (nH x Yy):=by
    have h1:=jw.out.ok k afR afQ;have h2:(eU s)[k]=x:=(List.getElem?_eq_some_iff.1 HLX.out).2;rw[h2,aaN] at h1;exact h1
   have hle3:=Yv (aX.take k);have htl:(aX.take k).length<=500:=by rw[List.length_take];omega
   have C9:Hid (∀m,CallsIn Fence.wide m Tryz.prog 34 #[.pointer (some ⟨b+4,0,none⟩),.string x] W1.drew fun e w'=>e=.returned (.bool true)/\PX w w' (b+4) ((dD (aX.take k)).add Yy)/\FR (b+4) W1.drew w'):=fun m=>
    (callsIn_wide (n:=m)).2 (aaL w W1.drew (b+4) (dD (aX.take k)) x Yy (nR.out.px.below (Below.refl _ _).drew) (jU.out _ HB1.out.drew) (by omega) (by omega) (by omega) HLO.out)
   have eG:Hid ((dD (aX.take k)).add Yy=dD (aX.take (k+1))):=by show _=_;rw[List.take_succ_eq_append_getElem afR,Vd,aaN]
   have Q9:=zH hkc;clear hle3 htl hkc aaN;have hkn:¬(k:Int)+1>(fU s:Int):=by omega
   have aiY:Tryz.prog.follows .mixedOrders=true:=by kernel_rfl
   refine Code.wpIn_mono (Q:=fun e a w'=>e=.normal/\a=({tmps:=#[.string s,.pointer (some ⟨b,0,none⟩),.pointer (some ⟨b+1,0,none⟩),.pointer (some ⟨b+2,0,none⟩),.pointer (some ⟨b+3,0,none⟩),.pointer (some ⟨b+4,0,none⟩),.pointer (some ⟨b+5,0,none⟩),.string x,undef,undef,undef,.string s,.func (.func 127) #[] #[.pointer (some ⟨b+7,0,none⟩),.pointer (some ⟨b+6,0,none⟩),.pointer (some ⟨b+8,0,none⟩)],.string x,.int .i64 (k:Int),.int .i64 ((k:Int)+1),.int .i64 ((k:Int)+1),.string s,.int .i64 (fU s:Int),.bool true,.bool true,.string x,.bool true,.bool false,.bool false,.bool false,.int .i64 ((k:Int)+1),.string s,.int .i64 (fU s:Int),.bool false,.bool false,undef,undef,.bool false,.bool false,undef,undef,undef,undef,undef,undef,undef,undef,undef,undef,undef,undef,undef,undef,undef,undef,undef,undef],defers:=[]}:Act)/\PX w w' (b+4) ((dD (aX.take k)).add Yy)/\FR (b+4) W1.drew w') ?_ ?_
   ·rintro e a w2 ⟨rfl,rfl,Jb,hfr2⟩
    gi_wp2
    refine⟨PE.Oz HI.out Ko.out HZ1.out hfr2 _,PE.Yw bC.out.symm OA.out HI.out Ko.out HZ1.out Jb hfr2,?_⟩;show PI w s aX b (pre++[x]).length _;rw[CX.out];exact nR.out.next Jb eG.out hfr2 (fun h=>by have:=Q9.out;omega)
   ·gi_region_with_o (first
     |(refine⟨trivial,?_⟩;gi_at_call 33;refine (CallsIn.inRound l (Oa.out _ _ (by first|exact HB1.out.drew|exact HB2.out))).mono ?_;rintro e w' ⟨rfl,rfl⟩)
     |(refine⟨trivial,?_⟩;gi_at_call 34;refine (CallsIn.inRound l (C9.out _)).mono ?_;rintro e w2 ⟨rfl,Jb,hfr2⟩;have HB2:=zH Jb.bl;have aiZ:=zH Jb;have aaO:=zH hfr2;clear Jb hfr2;have hd5:=(nR.out.fr5 aaO.out).cells;have hd0:=(nR.out.fr0 aaO.out).cells))
    all_goals exact⟨rfl,rfl,aiZ.out,aaO.out⟩
  ·have Fv:k=fU s:=by omega
   have hxl:x=lastB s:=by
    subst Fv;have h1:=last_at afQ;have h2:=(List.getElem?_eq_some_iff.1 HLX.out).2;exact h2.symm.trans h1
   have hgt:(fU s:Int)<(k:Int)+1:=by omega
   have ak5:¬(k:Int)+1<=(fU s:Int):=by omega
   have aiY:Tryz.prog.follows .mixedOrders=true:=by kernel_rfl
   have Ht:Hid (dD (aX.take k)=dD (aX.take (k+1))):=by show _=_;rw[List.take_of_length_le (by omega),List.take_of_length_le (by omega)]
   have afS:Hid (PX w W1.drew (b+4) (dD (aX.take k))):=nR.out.px.below (Below.refl _ _).drew;have aaP:Hid (FR (b+4) W1.drew W1.drew):=FR.below (Below.refl _ _);by_cases hx0:lastB s=⟨#[]⟩
   ·have hx1:x=⟨#[]⟩:=hxl.trans hx0;subst hx1;have HX0:=zH hx0;clear hxl hx0 Fv HLX;refine Code.wpIn_mono (Q:=fun e a w'=>e=.normal/\a=({tmps:=#[.string s,.pointer (some ⟨b,0,none⟩),.pointer (some ⟨b+1,0,none⟩),.pointer (some ⟨b+2,0,none⟩),.pointer (some ⟨b+3,0,none⟩),.pointer (some ⟨b+4,0,none⟩),.pointer (some ⟨b+5,0,none⟩),.string ⟨#[]⟩,undef,undef,undef,.string s,.func (.func 127) #[] #[.pointer (some ⟨b+7,0,none⟩),.pointer (some ⟨b+6,0,none⟩),.pointer (some ⟨b+8,0,none⟩)],.string ⟨#[]⟩,.int .i64 (k:Int),.int .i64 ((k:Int)+1),.int .i64 ((k:Int)+1),.string s,.int .i64 (fU s:Int),.bool false,.bool false,undef,undef,undef,.bool false,.bool false,.int .i64 ((k:Int)+1),.string s,.int .i64 (fU s:Int),.bool true,.bool true,.string ⟨#[]⟩,.bool false,.bool false,.bool false,undef,undef,undef,undef,undef,undef,undef,undef,undef,undef,undef,undef,undef,undef,undef,undef,undef,undef],defers:=[]}:Act)/\w'=W1.drew) ?_ ?_
    ·rintro e a w2 ⟨rfl,rfl,rfl⟩
     gi_wp2
     refine⟨PE.Oz HI.out Ko.out HZ1.out aaP.out _,PE.Yw bC.out.symm OA.out HI.out Ko.out HZ1.out afS.out aaP.out,?_⟩;show PI w s aX b (pre++[_]).length _;rw[CX.out];exact nR.out.next afS.out Ht.out aaP.out (fun _=>HX0.out)
    ·gi_region_with_o (first|(refine⟨trivial,?_⟩;gi_at_call 33;refine (CallsIn.inRound l (Oa.out _ _ HB1.out.drew)).mono ?_;rintro e w' ⟨rfl,rfl⟩)|refine⟨trivial,?_⟩)
     all_goals exact⟨rfl,rfl,rfl⟩
   ·have HX0:=zH hx0;have HKE:=zH Fv
    have hne:(x.toList==[])=false:=by
     rw[beq_eq_false_iff_ne];intro h;refine hx0 (hxl.symm.trans ?_);rw[ByteArray.toList_eq] at h;cases x with|mk d=>cases d with|mk l=>cases h;rfl
    clear hxl hx0 Fv HLX;refine Code.wpIn_mono (Q:=fun e a w'=>e=.normal/\a=({tmps:=#[.string s,.pointer (some ⟨b,0,none⟩),.pointer (some ⟨b+1,0,none⟩),.pointer (some ⟨b+2,0,none⟩),.pointer (some ⟨b+3,0,none⟩),.pointer (some ⟨b+4,0,none⟩),.pointer (some ⟨b+5,0,none⟩),.string x,undef,undef,undef,.string s,.func (.func 127) #[] #[.pointer (some ⟨b+7,0,none⟩),.pointer (some ⟨b+6,0,none⟩),.pointer (some ⟨b+8,0,none⟩)],.string x,.int .i64 (k:Int),.int .i64 ((k:Int)+1),.int .i64 ((k:Int)+1),.string s,.int .i64 (fU s:Int),.bool false,.bool false,undef,undef,undef,.bool false,.bool false,.int .i64 ((k:Int)+1),.string s,.int .i64 (fU s:Int),.bool true,.bool true,.string x,.bool true,.bool true,.bool true,undef,undef,undef,undef,undef,undef,undef,undef,undef,undef,undef,undef,undef,undef,undef,undef,undef,undef],defers:=[]}:Act)/\w'=W1.drew) ?_ ?_
    ·rintro e a w2 ⟨rfl,rfl,rfl⟩;clear Oa;have hr1:=nR.out.b1.cells;have hg1:=nR.out.b1.aI;have hr2:=nR.out.b2.cells;have hg2:=nR.out.b2.aI;have hr3:=nR.out.b3.cells;have hg3:=nR.out.b3.aI;have n12:¬b+1=b+2:=by omega
     have n13:¬b+1=b+3:=by omega
     have n23:¬b+2=b+3:=by omega
     have n21:¬b+2=b+1:=by omega
     have n31:¬b+3=b+1:=by omega
     have n32:¬b+3=b+2:=by omega
     gi_wp2_with fail
     gi_region_with_o (fail)
     all_goals gi_wp2
     all_goals exact (show ab7 _ _ _ _ _ _ Exit.ret _ (Ld W1.drew.drew b k) from⟨Qe (PE.Oz HI.out Ko.out HZ1.out (FR.below (Below.refl _ _).drew) _),nR.out.drew.drew.stop HKE.out HX0.out⟩)
    ·gi_region_with_o (first|(refine⟨trivial,?_⟩;gi_at_call 33;refine (CallsIn.inRound l (Oa.out _ _ HB1.out.drew)).mono ?_;rintro e w' ⟨rfl,rfl⟩)|refine⟨trivial,?_⟩)
     all_goals exact⟨rfl,rfl,rfl⟩
 case done=>
  rintro D xs W hD rfl hI hK;have hll:=rP s.size s (Nat.le_refl _);rw[hll] at hI;have hl0:=hI.last rfl;have htk:aX.take (fU s+1)=aX:=List.take_of_length_le (by rw[jw.out.n];omega);obtain⟨ss,ps,fv,sv,pv,uX⟩:=hI.px;rw[htk] at uX;obtain⟨f,sc,p,rfl,rfl,rfl,vC⟩:=uX.law;have hDs:b+9<=D:=by rw[<-iW.out.size];exact hD
  have ou:Hid (b+9<=D):=hDs;have vG:=zH uX;have Ku:=zH uX.bl;have HCK:Hid (∀m,CallsIn Fence.wide m Tryz.prog 10 #[.agg #[.slice f.a f.n f.c,.slice sc.a sc.n sc.c,.slice p.a p.n p.c]] W fun e w'=>e=.returned (.int .i64 (bg (dD aX)))/\Below W.heap.size W w'):=fun m=>(callsIn_wide (n:=m)).2 (Au _ _ _ f sc p W (jU.out _ uX.bl) vC HFL.out)
  have oH:Hid (∀m W',Below W.heap.size W W'->CallsIn Fence.wide m Tryz.prog 11 #[.agg #[.slice f.a f.n f.c,.slice sc.a sc.n sc.c,.slice p.a p.n p.c]] W' fun e w'=>e=.returned (zJ (dD aX))/\Below W'.heap.size W' w'):=fun m W' hb=>(callsIn_wide (n:=m)).2 (uZ _ _ _ f sc p W' (jU.out _ (ah Ku.out hb)) (vC.below hb) HFL.out Ny.out)
  have vg:Hid (kN s aX=if bg (dD aX)≠0 then (⟨[],[],[]⟩,0,bg (dD aX)) else if (⟨(dh (dD aX)).toArray⟩:ByteArray)≠s then (⟨[],[],[]⟩,0,11) else (dD aX,0,0)):=by show _=_;unfold kN;rw[if_neg (fun h=>h hl0)]
  have HR1:=zH hI.b1;have HR2:=zH hI.b2;have HR3:=zH hI.b3;have HR0:=zH hI.b0;have zn:=zH hK;have hc4:=uX.blk.cells;unfold zJ at oH;obtain⟨z,hz⟩:=zF (bg (dD aX));obtain⟨T,hT⟩:=zF ((⟨(dh (dD aX)).toArray⟩:ByteArray));rw[hz] at HCK;rw[hz,hT] at vg;simp only[hz] at oH;clear hz;clear hll hl0 htk uX vC hDs hI hK Ny
  gi_wp2_with fail
  refine⟨trivial,?_⟩;refine (HCK.out _).mono ?_;rintro e w2 ⟨rfl,hb2⟩;have hr1:=(HR1.out.below hb2 HR1.out.lt).cells;have hg1:=(HR1.out.below hb2 HR1.out.lt).aI;have hr2:=(HR2.out.below hb2 HR2.out.lt).cells;have hg2:=(HR2.out.below hb2 HR2.out.lt).aI;have hr3:=(HR3.out.below hb2 HR3.out.lt).cells;have hg3:=(HR3.out.below hb2 HR3.out.lt).aI;have HB2:=zH hb2;have n12:¬b+1=b+2:=by omega
  have n13:¬b+1=b+3:=by omega
  have n23:¬b+2=b+3:=by omega
  have n21:¬b+2=b+1:=by omega
  have n31:¬b+3=b+1:=by omega
  have n32:¬b+3=b+2:=by omega
  clear hb2 hc4;by_cases hz0:z=0
  ·subst hz0;rw[if_neg (fun h=>h rfl)] at vg;simp only[if_true,hT] at oH;have hc4:=(vG.out.blk.below HB2.out vG.out.blk.lt).cells;clear hr1 hg1 hr2 hg2 hr3 hg3
   gi_wp2_with fail
   refine⟨trivial,?_⟩;refine (oH.out _ _ HB2.out).mono ?_;rintro e w3 ⟨rfl,hb3⟩;have HB3:=zH (ah HB2.out hb3);have hr1:=(HR1.out.below HB3.out HR1.out.lt).cells;have hg1:=(HR1.out.below HB3.out HR1.out.lt).aI;have hr2:=(HR2.out.below HB3.out HR2.out.lt).cells;have hg2:=(HR2.out.below HB3.out HR2.out.lt).aI;have hr3:=(HR3.out.below HB3.out HR3.out.lt).cells;have hg3:=(HR3.out.below HB3.out HR3.out.lt).aI;have hc4:=(vG.out.blk.below HB3.out vG.out.blk.lt).cells;have hc0:=(HR0.out.below HB3.out HR0.out.lt).cells;clear hb3;by_cases hTs:T=s
   ·rw[if_neg (fun h=>h hTs)] at vg;obtain rfl:=hTs;clear hT
    gi_wp2
    have KH:(endW w3 b (.slice f.a f.n f.c) (.slice sc.a sc.n sc.c) (.slice p.a p.n p.c) (.int .i64 0) (.int .i64 0)).heap[D]?=some (.deferred (some [])):=(vX w3 b (.slice f.a f.n f.c) (.slice sc.a sc.n sc.c) (.slice p.a p.n p.c) (.int .i64 0) (.int .i64 0) D (by have:=ou.out;omega) (by have:=ou.out;omega) (by have:=ou.out;omega)).trans ((HB3.out.block D (lt_of_some zn.out)).trans zn.out);refine⟨by simp,.inl ⟨_,_,rfl,run_takeDeferred KH,?_⟩⟩;obtain⟨e1,e2,e3⟩:=AP (.slice f.a f.n f.c) (.slice sc.a sc.n sc.c) (.slice p.a p.n p.c) (.int .i64 0) (.int .i64 0) (HR1.out.below HB3.out HR1.out.lt) (HR2.out.below HB3.out HR2.out.lt) (HR3.out.below HB3.out HR3.out.lt);have c1:=(lC (o:=.deferred none) e1 (show b+1≠D by have:=ou.out;omega)).cells;have c2:=(lC (o:=.deferred none) e2 (show b+2≠D by have:=ou.out;omega)).cells;have c3:=(lC (o:=.deferred none) e3 (show b+3≠D by have:=ou.out;omega)).cells;unfold endW at c1 c2 c3;have Ru:Below w.heap.size w ((endW w3 b (.slice f.a f.n f.c) (.slice sc.a sc.n sc.c) (.slice p.a p.n p.c) (.int .i64 0) (.int .i64 0)).putObj D (.deferred none)):=yj (vY (ah Ku.out HB3.out) bC.out.symm _ _ _ _ _) (by have h1:=ou.out;have h2:=bC.out;omega) KH;refine⟨.tuple #[.agg #[.slice f.a f.n f.c,.slice sc.a sc.n sc.c,.slice p.a p.n p.c],.int .i64 0,.int .i64 0],by simp[results,Tryz.results12,go_sem,c1,c2,c3],?_⟩
    have hPE:=(vG.out.below HB3.out).up Ru (fun k cs t fr hk hh=>(World.putObj_heap_other (by
     rintro rfl;have h1:=(HB3.out.block k (lt_of_some zn.out)).trans zn.out;rw[hh] at h1;injection h1 with h1;cases h1)).trans ((vX w3 b _ _ _ _ _ k (by omega) (by omega) (by omega)).trans hh))
    obtain⟨f',sc',p',q1,q2,q3,L8⟩:=hPE.law;refine⟨f',sc',p',ss,ps,?_,by rw[vg.out];exact L8,Ru⟩;rw[vg.out,q1,q2,q3];rfl
   ·rw[if_pos hTs] at vg
    have hne:(T.toList==s.toList)=false:=by
     rw[beq_eq_false_iff_ne];intro h;rw[ByteArray.toList_eq,ByteArray.toList_eq] at h;refine hTs ?_;cases T with|mk d=>cases s with|mk d'=>cases d with|mk l=>cases d' with|mk l'=>cases h;rfl
    clear hT hTs
    gi_wp2
    have KH:(endW w3 b (.slice none 0 0) (.slice none 0 0) (.slice none 0 0) (.int .i64 0) (.int .i64 11)).heap[D]?=some (.deferred (some [])):=(vX w3 b (.slice none 0 0) (.slice none 0 0) (.slice none 0 0) (.int .i64 0) (.int .i64 11) D (by have:=ou.out;omega) (by have:=ou.out;omega) (by have:=ou.out;omega)).trans ((HB3.out.block D (lt_of_some zn.out)).trans zn.out);refine⟨by simp,.inl ⟨_,_,rfl,run_takeDeferred KH,?_⟩⟩;obtain⟨e1,e2,e3⟩:=AP (.slice none 0 0) (.slice none 0 0) (.slice none 0 0) (.int .i64 0) (.int .i64 11) (HR1.out.below HB3.out HR1.out.lt) (HR2.out.below HB3.out HR2.out.lt) (HR3.out.below HB3.out HR3.out.lt);have c1:=(lC (o:=.deferred none) e1 (show b+1≠D by have:=ou.out;omega)).cells;have c2:=(lC (o:=.deferred none) e2 (show b+2≠D by have:=ou.out;omega)).cells;have c3:=(lC (o:=.deferred none) e3 (show b+3≠D by have:=ou.out;omega)).cells;unfold endW at c1 c2 c3;have Ru:Below w.heap.size w ((endW w3 b (.slice none 0 0) (.slice none 0 0) (.slice none 0 0) (.int .i64 0) (.int .i64 11)).putObj D (.deferred none)):=yj (vY (ah Ku.out HB3.out) bC.out.symm _ _ _ _ _) (by have h1:=ou.out;have h2:=bC.out;omega) KH;refine⟨.tuple #[.agg #[.slice none 0 0,.slice none 0 0,.slice none 0 0],.int .i64 0,.int .i64 11],by simp[results,Tryz.results12,go_sem,c1,c2,c3],?_⟩;refine⟨⟨none,0,0⟩,⟨none,0,0⟩,⟨none,0,0⟩,[],[],?_,?_,Ru⟩
    ·rw[vg.out];rfl
    ·rw[vg.out];exact dV.empty _
  ·rw[if_pos hz0] at vg
   gi_wp2
   have KH:(endW w2 b (.slice none 0 0) (.slice none 0 0) (.slice none 0 0) (.int .i64 0) (.int .i64 z)).heap[D]?=some (.deferred (some [])):=(vX w2 b (.slice none 0 0) (.slice none 0 0) (.slice none 0 0) (.int .i64 0) (.int .i64 z) D (by have:=ou.out;omega) (by have:=ou.out;omega) (by have:=ou.out;omega)).trans ((HB2.out.block D (lt_of_some zn.out)).trans zn.out);refine⟨by simp,.inl ⟨_,_,rfl,run_takeDeferred KH,?_⟩⟩;obtain⟨e1,e2,e3⟩:=AP (.slice none 0 0) (.slice none 0 0) (.slice none 0 0) (.int .i64 0) (.int .i64 z) (HR1.out.below HB2.out HR1.out.lt) (HR2.out.below HB2.out HR2.out.lt) (HR3.out.below HB2.out HR3.out.lt);have c1:=(lC (o:=.deferred none) e1 (show b+1≠D by have:=ou.out;omega)).cells;have c2:=(lC (o:=.deferred none) e2 (show b+2≠D by have:=ou.out;omega)).cells;have c3:=(lC (o:=.deferred none) e3 (show b+3≠D by have:=ou.out;omega)).cells;unfold endW at c1 c2 c3;have Ru:Below w.heap.size w ((endW w2 b (.slice none 0 0) (.slice none 0 0) (.slice none 0 0) (.int .i64 0) (.int .i64 z)).putObj D (.deferred none)):=yj (vY (ah Ku.out HB2.out) bC.out.symm _ _ _ _ _) (by have h1:=ou.out;have h2:=bC.out;omega) KH;refine⟨.tuple #[.agg #[.slice none 0 0,.slice none 0 0,.slice none 0 0],.int .i64 0,.int .i64 z],by simp[results,Tryz.results12,go_sem,c1,c2,c3],?_⟩;refine⟨⟨none,0,0⟩,⟨none,0,0⟩,⟨none,0,0⟩,[],[],?_,?_,Ru⟩
   ·rw[vg.out];rfl
   ·rw[vg.out];exact dV.empty _
 case stop=>
  rintro D pre W hD _ hJ hK;have c1:=hJ.b1.cells;have c2:=hJ.b2.cells;have c3:=hJ.b3.cells
  gi_wp2
  refine⟨by simp,.inl ⟨_,_,rfl,run_takeDeferred hK,?_⟩⟩;have hDs:=iW.out.size;have c1:=(lC (o:=.deferred none) hJ.b1 (show b+1≠D by omega)).cells;have c2:=(lC (o:=.deferred none) hJ.b2 (show b+2≠D by omega)).cells;have c3:=(lC (o:=.deferred none) hJ.b3 (show b+3≠D by omega)).cells;refine⟨.tuple #[.agg #[.slice none 0 0,.slice none 0 0,.slice none 0 0],.int .i64 ((fU s:Int)+1),.int .i64 11],by simp[results,Tryz.results12,go_sem,c1,c2,c3],?_⟩;refine⟨⟨none,0,0⟩,⟨none,0,0⟩,⟨none,0,0⟩,[],[],?_,?_,yj hJ.bl (by have:=bC.out;omega) hK⟩
  ·unfold kN dR;rw[if_pos hJ.ne]
  ·unfold kN;rw[if_pos hJ.ne];exact dV.empty _
end Go.Proofs.YtimokmplkpbmdaaGreatDoor
namespace Go.Proofs.YtimokmplkpbmdaaGreatDoor
open Go.RowKit
instance (a:Ra):Decidable (jH a):=by unfold jH;infer_instance
instance (b:Bk):Decidable (rH b):=by unfold rH;infer_instance
instance (n:Nd):Decidable (Fine n):=by unfold Fine;infer_instance
def Ve:List Nd:=[⟨5,⟨false,⟨#[]⟩,⟨#[]⟩⟩,⟨#[115,105,110,103,108,101]⟩⟩,⟨1,⟨false,⟨#[100]⟩,⟨#[1]⟩⟩,⟨#[]⟩⟩,⟨6,⟨false,⟨#[]⟩,⟨#[]⟩⟩,⟨#[116,97,120]⟩⟩,⟨3,⟨false,⟨#[4]⟩,⟨#[1]⟩⟩,⟨#[]⟩⟩,⟨12,⟨false,⟨#[]⟩,⟨#[]⟩⟩,⟨#[]⟩⟩,⟨15,⟨false,⟨#[]⟩,⟨#[]⟩⟩,⟨#[]⟩⟩]
def ab9:List Nd:=[⟨5,⟨false,⟨#[]⟩,⟨#[]⟩⟩,⟨#[105,110,99,111,109,101]⟩⟩,⟨6,⟨false,⟨#[]⟩,⟨#[]⟩⟩,⟨#[97,105,100]⟩⟩,⟨10,⟨false,⟨#[]⟩,⟨#[]⟩⟩,⟨#[]⟩⟩,⟨24,⟨false,⟨#[]⟩,⟨#[]⟩⟩,⟨#[115,99,97,108,101]⟩⟩]
def iM:Dc:=⟨⟨#[105,110,99,111,109,101]⟩,⟨false,1,0⟩⟩
def iO:Dc:=⟨⟨#[115,105,110,103,108,101]⟩,⟨true,0,0⟩⟩
def kS:Sc:=⟨⟨#[115,99,97,108,101]⟩,1,0,[⟨⟨false,⟨#[]⟩,⟨#[1]⟩⟩,⟨false,⟨#[1]⟩,⟨#[10]⟩⟩⟩,⟨⟨false,⟨#[3,232]⟩,⟨#[1]⟩⟩,⟨false,⟨#[1]⟩,⟨#[5]⟩⟩⟩]⟩
def iI:Pv:=⟨⟨#[97,105,100]⟩,⟨false,1,0⟩,false,⟨false,⟨#[10]⟩,⟨#[1]⟩⟩,⟨false,⟨#[1,244]⟩,⟨#[1]⟩⟩,Ve⟩
def gG:Pv:=⟨⟨#[116,97,120]⟩,⟨false,1,0⟩,true,⟨false,⟨#[]⟩,⟨#[]⟩⟩,⟨false,⟨#[]⟩,⟨#[]⟩⟩,ab9⟩
def Io:Pv:=⟨⟨#[97,105,100]⟩,⟨false,1,0⟩,false,⟨false,⟨#[10]⟩,⟨#[1]⟩⟩,⟨false,⟨#[1,249]⟩,⟨#[1]⟩⟩,Ve⟩
def Ip:Pv:=⟨⟨#[97,105,100]⟩,⟨false,1,0⟩,false,⟨false,⟨#[]⟩,⟨#[1]⟩⟩,⟨false,⟨#[1,244]⟩,⟨#[1]⟩⟩,Ve⟩
def Iq:Pv:=⟨⟨#[116,97,120]⟩,⟨false,0,0⟩,true,⟨false,⟨#[]⟩,⟨#[]⟩⟩,⟨false,⟨#[]⟩,⟨#[]⟩⟩,ab9⟩
def tK:Lw:=⟨[iM,iO],[kS],[iI,gG]⟩
def OB:List Ln:=[.f iM,.f iO,.s kS,.p iI,.p gG]
def Jc:ByteArray:=⟨(([102,97,99,116,32,105,110,99,111,109,101,32,109,49,100,48,10,102,97,99,116,32,115,105,110,103,108,101,32,116,114,117,116,104,10,115,99,104,101,100,117,108,101,32,115,99,97,108,101,32,109].append [49,100,48,58,32,48,32,49,47,49,48,44,32,49,48,48,48,32,49,47,53,10,112,114,111,118,105,115,105,111,110,32,97,105,100,32,109,49,100,48,32,115,116,101,112,32,49,48,32,99,97]).append ([112,32,53,48,48,58,32,105,102,40,102,97,99,116,46,115,105,110,103,108,101,44,32,36,49,48,48,44,32,100,105,118,40,111,119,110,46,116,97,120,44,32,52,41,41,10,112,114,111,118,105].append [115,105,111,110,32,116,97,120,32,109,49,100,48,32,99,104,97,114,103,101,58,32,114,97,116,101,46,115,99,97,108,101,40,115,117,98,40,102,97,99,116,46,105,110,99,111,109,101,44,32,111,119,110,46,97,105,100,41,41,10])).toArray⟩
def Vf:ByteArray:=⟨#[102,97,99,116,32,105,110,99,111,109,101,32,109,49,100,48,10,102,97,99,116,32,115,105,110,103,108,101,32,116,114,117,116,104,10,115,99,104,101,100,117,108,101,32,115,99,97,108,101,32,109,49,100,48,58,32,48,32,49,47,49,48,44,32,49,48,48,48,32,49,47,53,10,112,114,111,118,105,115,105,111,110,32,97,105,100,32,109,49,100,48,32,115,116,101,112,32,49,48,32,99,97,112,32,53,48,48,58,32,105,102,40,102,97,99,116,46,115,105,110,103,108,101,44,32,36,49,48,48,44,32,100,105,118,40,111,119,110,46,116,97,120,44,32,52,41,41,10,112,114,111,118,105,115,105,111,110,32,116,97,120,32,109,49,100,48,32,99,104,97,114,103,101,58,32,114,97,116,101,46,115,99,97,108,101,40,115,117,98,40,102,97,99,116,46,105,110,99,111,109,101,44,32,111,119,110,46,97,105,100,41,41]⟩
def aaQ:ByteArray:=⟨([112,114,111,118,105,115,105,111,110,32,116,97,120,32,109,49,100,48,32,99,104,97,114,103,101,58,32,114,97,116,101,46].append [115,99,97,108,101,40,115,117,98,40,102,97,99,116,46,105,110,99,111,109,101,44,32,111,119,110,46,97,105,100,41,41,10]).toArray⟩
def aaR:ByteArray:=⟨#[102,97,99,116,32,115,105,110,103,108,101,32,116,114,117,116,104,10,102,97,99,116,32,105,110,99,111,109,101,32,109,49,100,48,10]⟩
theorem OC:nH ⟨#[102,97,99,116,32,105,110,99,111,109,101,32,109,49,100,48]⟩ (.f iM):=⟨⟨#[]⟩,⟨by decide,[102,97,99,116,32,105,110,99,111,109,101,32,109,49,100,48],by decide+kernel,by decide,by decide+kernel,by decide+kernel⟩,by decide+kernel,by decide+kernel⟩
theorem OD:nH ⟨#[102,97,99,116,32,115,105,110,103,108,101,32,116,114,117,116,104]⟩ (.f iO):=⟨⟨#[]⟩,⟨by decide,[102,97,99,116,32,115,105,110,103,108,101,32,116,114,117,116,104],by decide+kernel,by decide,by decide+kernel,by decide+kernel⟩,by decide+kernel,by decide+kernel⟩
theorem DY.of {rest:ByteArray} {bI:List Bk} {ps:List ByteArray} (h1:rest.size<=1000000) (h2:lq rest=ps) (h3:Lib.countB rest ⟨#[44,32]⟩+1=bI.length) (h4:ps.length=bI.length) (h5:bI.length<=1000) (h6:∀i (h:i<bI.length) (h':i<ps.length),Ih ps[i] bI[i]):DY rest bI:=by
 subst h2;exact⟨h1,h3,h4,h5,h6⟩
theorem Yz:nH ⟨#[115,99,104,101,100,117,108,101,32,115,99,97,108,101,32,109,49,100,48,58,32,48,32,49,47,49,48,44,32,49,48,48,48,32,49,47,53]⟩ (.s kS):=by
 refine⟨⟨#[48,32,49,47,49,48,44,32,49,48,48,48,32,49,47,53]⟩,⟨by decide,[115,99,104,101,100,117,108,101,32,115,99,97,108,101,32,109,49,100,48],by decide+kernel,by decide,by decide+kernel,by decide+kernel⟩,by decide+kernel,by decide+kernel,DY.of (ps:=[⟨#[48,32,49,47,49,48]⟩,⟨#[49,48,48,48,32,49,47,53]⟩]) (by decide) (by decide+kernel) (by decide+kernel) rfl (by decide) ?_⟩;intro i h h'
 match i with
 |0=>exact (show Ih ⟨#[48,32,49,47,49,48]⟩ ⟨⟨false,⟨#[]⟩,⟨#[1]⟩⟩,⟨false,⟨#[1]⟩,⟨#[10]⟩⟩⟩ from⟨by decide,[48],[49,47,49,48],by decide+kernel,by decide,by decide,by decide+kernel,by decide+kernel⟩)
 |1=>exact (show Ih ⟨#[49,48,48,48,32,49,47,53]⟩ ⟨⟨false,⟨#[3,232]⟩,⟨#[1]⟩⟩,⟨false,⟨#[1]⟩,⟨#[5]⟩⟩⟩ from⟨by decide,[49,48,48,48],[49,47,53],by decide+kernel,by decide,by decide,by decide+kernel,by decide+kernel⟩)
 |n+2=>exact absurd h' (by simp)
theorem YA:nH ⟨#[112,114,111,118,105,115,105,111,110,32,97,105,100,32,109,49,100,48,32,115,116,101,112,32,49,48,32,99,97,112,32,53,48,48,58,32,105,102,40,102,97,99,116,46,115,105,110,103,108,101,44,32,36,49,48,48,44,32,100,105,118,40,111,119,110,46,116,97,120,44,32,52,41,41]⟩ (.p iI):=⟨⟨#[105,102,40,102,97,99,116,46,115,105,110,103,108,101,44,32,36,49,48,48,44,32,100,105,118,40,111,119,110,46,116,97,120,44,32,52,41,41]⟩,true,⟨#[49,48]⟩,⟨#[53,48,48]⟩,⟨by decide,[112,114,111,118,105,115,105,111,110,32,97,105,100,32,109,49,100,48,32,115,116,101,112,32,49,48,32,99,97,112,32,53,48,48],by decide+kernel,by decide,by decide+kernel,by decide+kernel⟩,by decide+kernel,by decide+kernel,by decide,by decide+kernel,fun _=>⟨by decide,by decide,by decide+kernel,by decide+kernel⟩,fun h=>by cases h⟩
theorem YB:nH ⟨#[112,114,111,118,105,115,105,111,110,32,116,97,120,32,109,49,100,48,32,99,104,97,114,103,101,58,32,114,97,116,101,46,115,99,97,108,101,40,115,117,98,40,102,97,99,116,46,105,110,99,111,109,101,44,32,111,119,110,46,97,105,100,41,41]⟩ (.p gG):=⟨⟨#[114,97,116,101,46,115,99,97,108,101,40,115,117,98,40,102,97,99,116,46,105,110,99,111,109,101,44,32,111,119,110,46,97,105,100,41,41]⟩,false,⟨#[]⟩,⟨#[]⟩,⟨by decide,[112,114,111,118,105,115,105,111,110,32,116,97,120,32,109,49,100,48,32,99,104,97,114,103,101],by decide+kernel,by decide,by decide+kernel,by decide+kernel⟩,by decide+kernel,by decide+kernel,by decide,by decide+kernel,(fun h=>by cases h),fun _=>⟨rfl,rfl⟩⟩
theorem je.of {s:ByteArray} {aX:List Ln} {ls:List ByteArray} (h1:s.size<=1000000) (h2:eU s=ls) (h3:aX.length=fU s) (h4:aX.length<=500) (h5:∀i (h:i<aX.length) (h':i<ls.length),nH ls[i] aX[i]):je s aX:=by
 subst h2;exact⟨h1,h3,h4,h5⟩
theorem Vg:je Jc OB:=by
 refine je.of (ls:=[⟨#[102,97,99,116,32,105,110,99,111,109,101,32,109,49,100,48]⟩,⟨#[102,97,99,116,32,115,105,110,103,108,101,32,116,114,117,116,104]⟩,⟨#[115,99,104,101,100,117,108,101,32,115,99,97,108,101,32,109,49,100,48,58,32,48,32,49,47,49,48,44,32,49,48,48,48,32,49,47,53]⟩,⟨#[112,114,111,118,105,115,105,111,110,32,97,105,100,32,109,49,100,48,32,115,116,101,112,32,49,48,32,99,97,112,32,53,48,48,58,32,105,102,40,102,97,99,116,46,115,105,110,103,108,101,44,32,36,49,48,48,44,32,100,105,118,40,111,119,110,46,116,97,120,44,32,52,41,41]⟩,⟨#[112,114,111,118,105,115,105,111,110,32,116,97,120,32,109,49,100,48,32,99,104,97,114,103,101,58,32,114,97,116,101,46,115,99,97,108,101,40,115,117,98,40,102,97,99,116,46,105,110,99,111,109,101,44,32,111,119,110,46,97,105,100,41,41]⟩,⟨#[]⟩]) (by decide+kernel) (by decide+kernel) (by decide+kernel) (by decide) ?_;intro i h h'
 match i with
 |0=>exact OC
 |1=>exact OD
 |2=>exact Yz
 |3=>exact YA
 |4=>exact YB
 |n+5=>exact absurd h (by simp[OB])
theorem Vh:je Vf [.f iM,.f iO,.s kS,.p iI]:=by
 refine je.of (ls:=[⟨#[102,97,99,116,32,105,110,99,111,109,101,32,109,49,100,48]⟩,⟨#[102,97,99,116,32,115,105,110,103,108,101,32,116,114,117,116,104]⟩,⟨#[115,99,104,101,100,117,108,101,32,115,99,97,108,101,32,109,49,100,48,58,32,48,32,49,47,49,48,44,32,49,48,48,48,32,49,47,53]⟩,⟨#[112,114,111,118,105,115,105,111,110,32,97,105,100,32,109,49,100,48,32,115,116,101,112,32,49,48,32,99,97,112,32,53,48,48,58,32,105,102,40,102,97,99,116,46,115,105,110,103,108,101,44,32,36,49,48,48,44,32,100,105,118,40,111,119,110,46,116,97,120,44,32,52,41,41]⟩,⟨#[112,114,111,118,105,115,105,111,110,32,116,97,120,32,109,49,100,48,32,99,104,97,114,103,101,58,32,114,97,116,101,46,115,99,97,108,101,40,115,117,98,40,102,97,99,116,46,105,110,99,111,109,101,44,32,111,119,110,46,97,105,100,41,41]⟩]) (by decide+kernel) (by decide+kernel) (by decide+kernel) (by decide) ?_;intro i h h'
 match i with
 |0=>exact OC
 |1=>exact OD
 |2=>exact Yz
 |3=>exact YA
 |n+4=>exact absurd h (by simp)
theorem Vj:je aaQ [.p gG]:=by
 refine je.of (ls:=[⟨#[112,114,111,118,105,115,105,111,110,32,116,97,120,32,109,49,100,48,32,99,104,97,114,103,101,58,32,114,97,116,101,46,115,99,97,108,101,40,115,117,98,40,102,97,99,116,46,105,110,99,111,109,101,44,32,111,119,110,46,97,105,100,41,41]⟩,⟨#[]⟩]) (by decide+kernel) (by decide+kernel) (by decide+kernel) (by decide) ?_;intro i h h'
 match i with
 |0=>exact YB
 |n+1=>exact absurd h (by simp)
theorem Vk:je aaR [.f iO,.f iM]:=by
 refine je.of (ls:=[⟨#[102,97,99,116,32,115,105,110,103,108,101,32,116,114,117,116,104]⟩,⟨#[102,97,99,116,32,105,110,99,111,109,101,32,109,49,100,48]⟩,⟨#[]⟩]) (by decide+kernel) (by decide+kernel) (by decide+kernel) (by decide) ?_;intro i h h'
 match i with
 |0=>exact OD
 |1=>exact OC
 |n+2=>exact absurd h (by simp)
theorem Jd:dD OB=tK:=rfl
theorem Je:bg tK=0:=by decide+kernel
theorem Rw:(⟨(dh tK).toArray⟩:ByteArray)=Jc:=by decide+kernel
theorem OE:dh tK≠[]/\(dh tK).length<=1000000000000:=by decide+kernel
theorem aaS:kN Jc OB=(tK,0,0):=by
 unfold kN;rw[if_neg (by decide+kernel),Jd,Je,if_neg (by decide),Rw,if_neg (fun h=>h rfl)]
theorem aaT:kN Vf [.f iM,.f iO,.s kS,.p iI]=(⟨[],[],[]⟩,5,11):=by
 unfold kN;rw[if_pos (by decide+kernel),show fU Vf=4 by decide+kernel];rfl
theorem aaU:bg (dD [.f iM,.f iO,.s kS,.p iI])=12:=by decide+kernel
theorem OG:bg (dD [.p gG])=12:=by decide+kernel
theorem aaV:kN aaQ [.p gG]=(⟨[],[],[]⟩,0,12):=by
 unfold kN;rw[if_neg (by decide+kernel),OG,if_pos (by decide)]
theorem OH:bg (dD [.f iO,.f iM])=11:=by decide+kernel
theorem aaW:kN aaR [.f iO,.f iM]=(⟨[],[],[]⟩,0,11):=by
 unfold kN;rw[if_neg (by decide+kernel),OH,if_pos (by decide)]
theorem YC:bg ⟨[⟨⟨#[97,105,100]⟩,iM.ty⟩,iO],[kS],[iI,gG]⟩=14:=by decide+kernel
theorem aaX:bg ⟨[iM,iO],[kS],[gG]⟩=12:=by decide+kernel
theorem Vl:bg ⟨[iM,iO],[kS],[gG,iI]⟩=11:=by decide+kernel
theorem aaY:bg ⟨[iM,iO],[kS],[Io,gG]⟩=1:=by decide+kernel
theorem aaZ:bg ⟨[iM,iO],[kS],[Ip,gG]⟩=1:=by decide+kernel
theorem YD:bg ⟨[iM,iO],[kS],[iI,Iq]⟩=13:=by decide+kernel
theorem YE:bg ⟨[],[],[]⟩=0:=by decide+kernel
theorem aa0:(dW tK).length=9:=by decide+kernel
theorem afT:dI ⟨#[97,95,49]⟩=true:=by decide+kernel
theorem afU:dI ⟨#[49,97]⟩=false:=by decide+kernel
theorem qy (fs:List Dc) (ss:List Sc) (ps:List Pv) (hf:fs.length<=1000) (hs:∀s∈ss,s=kS) (hs':ss.length<=1000) (hp:∀p∈ps,p=iI∨p=gG∨p=Io∨p=Ip∨p=Iq) (hp':ps.length<=1000):nV ⟨fs,ss,ps⟩:=by
 refine⟨hf,hs',hp',fun s h=>?_,fun p h=>?_⟩
 ·rw[hs s h];decide
 ·rcases hp p h with rfl|rfl|rfl|rfl|rfl<;>exact⟨by decide,by decide,by decide⟩
def Jf (c:UInt8):Bool:= !(decide (c=10)||decide (c=32)||decide (c=44)||decide (c=58))
def yt (l:List UInt8):Prop:=∀c∈l,Jf c=true
theorem yt.no {l:List UInt8} (h:yt l) {c:UInt8} (hc:Jf c=false):c∉l:=fun k=>by rw[h c k] at hc;cases hc
theorem AQ {s:ByteArray} (h:dI s=true):yt s.data.toList:=fun c hc=>by
 unfold dI nameB at h;rw[Bool.and_eq_true,List.all_eq_true] at h;have:=qH (fun c=> !GK c||Jf c) (fun _=>true) (by decide+kernel) c;simpa [h.2 c hc] using this
theorem qN {a:Ra} (h:okR a=true):yt (aO a).data.toList:=fun c hc=>by
 have:=qH (fun c=> !oG.contains c||Jf c) (fun _=>true) (by decide+kernel) c;rw[JW h c hc] at this;simpa using this
theorem YF:∀m∈seven,∀d∈seven,(bU ⟨false,m,d⟩).data.toList.all Jf=true:=by decide+kernel
theorem rQ {t:Ty} (h:mD t=true):t=⟨true,0,0⟩∨(t.truth=false/\t.aN∈seven/\t.days∈seven):=by
 obtain⟨b,m,d⟩:=t;unfold mD at h;cases b
 ·simp only[Bool.false_eq_true,if_false,Bool.and_eq_true,decide_eq_true_eq] at h;exact .inr ⟨rfl,ku h.1.1 h.1.2,ku h.2.1 h.2.2⟩
 ·simp only[if_true,Bool.and_eq_true,decide_eq_true_eq] at h;rw[h.1,h.2];exact .inl rfl
theorem OI {t:Ty} (h:mD t=true):yt (bU t).data.toList:=by
 rcases rQ h with rfl|⟨h1,h2,h3⟩
 ·exact List.all_eq_true.1 (by decide)
 ·obtain⟨b,m,d⟩:=t;dsimp only at h1;subst h1;exact List.all_eq_true.1 (YF m h2 d h3)
theorem OJ {t u:Ty} (h:mD t=true) (k:mD u=true) (e:bU t=bU u):t=u:=by
 rcases rQ h with rfl|⟨h1,h2,h3⟩<;>rcases rQ k with rfl|⟨k1,k2,k3⟩
 ·rfl
 ·obtain⟨b,m,d⟩:=u;dsimp only at k1;subst k1;have:=yI m k2 d k3;rw[<-e] at this;exact absurd this (by decide)
 ·obtain⟨b,m,d⟩:=t;dsimp only at h1;subst h1;have:=yI m h2 d h3;rw[e] at this;exact absurd this (by decide)
 ·obtain⟨b,m,d⟩:=t;obtain⟨b',m',d'⟩:=u;dsimp only at h1 k1;subst h1 k1;obtain⟨rfl,rfl⟩:=Ky m h2 d h3 m' k2 d' k3 (by rw[e]);rfl
theorem OL:∀l:List (List UInt8),(∀a∈l,(10:UInt8)∉a)->(10:UInt8)∉jk l
 |[],_=>List.not_mem_nil
 |a::l,h=>by
  have h1:=h a (List.mem_cons_self ..);have h2:=OL l fun x hx=>h x (List.mem_cons_of_mem _ hx)
  unfold jk;split
  ·exact h1
  ·simp[h1,h2]
theorem afV {n:Nd} (h:aQ n=0) {ops:List (List UInt8)} (ho:∀a∈ops,(10:UInt8)∉a):(10:UInt8)∉txt n ops:=by
 obtain⟨w1,w2,w3,w4,w5⟩:=jC h
 have hw:(10:UInt8)∉(aB n.op).word:=by
  have hl:n.op.toNat<iQ.length:=by show _<25;omega
  have:∀s∈iQ,(10:UInt8)∉s.word:=by decide
  unfold aB;rw[List.getD_eq_getElem?_getD,List.getElem?_eq_getElem hl];exact this _ (List.getElem_mem hl)
 have hn:(10:UInt8)∉n.name.data.toList:=by
  cases hb:(aB n.op).dF
  ·rw[w3 hb];simp
  ·exact (AQ (w5 hb)).no (by decide)
 have hr:n.op≠4->((aB n.op).lit=true∨(aB n.op).dJ=true)->(10:UInt8)∉(aO n.num).data.toList:=fun h4 hl=>(qN (by
  unfold gX aV at w4;rw[if_neg h4] at w4;split at w4
  ·simp only[Bool.and_eq_true] at w4;exact w4.1.1
  ·split at w4
   ·simp only[Bool.and_eq_true] at w4;exact w4.1.1.1
   ·simp_all)).no (by decide)
 have hj:=OL ops ho;unfold txt;split
 ·split<;>decide
 ·next h4=>
  simp only[List.mem_append,not_or]
  refine⟨⟨⟨⟨⟨hw,hn⟩,?_⟩,?_⟩,?_⟩,?_⟩
  ·split
   ·next hl=>exact hr h4 (.inl hl)
   ·simp
  ·split<;>decide
  ·split
   ·next hl=>simp[hr h4 (.inr hl)]
   ·simp
  ·split<;>simp[hj]
theorem Rx:∀(e:List Nd) (st:List (List UInt8)),(∀n∈e,aQ n=0)->(∀a∈st,(10:UInt8)∉a)->∀a∈runT e st,(10:UInt8)∉a
 |[],_,_,h=>h
 |n::e,st,hw,h=>Rx e (BX st n) (fun m hm=>hw m (List.mem_cons_of_mem _ hm)) (fun a ha=>by
  rcases List.mem_cons.1 ha with rfl|ha
  ·exact afV (hw n (List.mem_cons_self ..)) fun a ha=>h a (List.mem_of_mem_take (List.mem_reverse.1 ha))
  ·exact h a (List.mem_of_mem_drop ha))
theorem aa1 {e:List Nd} (h:bQ e=0):(10:UInt8)∉textE e:=by
 have:=Rx e [] (xO h) (fun _ ha=>by cases ha);unfold textE;cases hr:runT e [] with
 |nil=>simp
 |cons a r=>rw[hr] at this;exact this a (List.mem_cons_self ..)
def yu (b:Bk):List UInt8:=(aO b.fr).data.toList++([32]++(aO b.rt).data.toList)
def mY:Ln->List ByteArray
 |.f d=>[yh,d.name,bU d.ty]
 |.s x=>[uY,x.name,bU ⟨false,x.aN,x.days⟩]
 |.p x=>vW::x.name::bU x.ty::lN x.dS (!dZ x) (aO x.step) (aO x.cap)
def Dt:Ln->Option (List UInt8)
 |.f _=>none
 |.s x=>some (fE [44,32] (x.bI.map yu))
 |.p x=>some (textE x.body)
def KI:Option (List UInt8)->List UInt8
 |none=>[]
 |some r=>[58,32]++r
def kU (n:Ln):List UInt8:=fE [32] ((mY n).map fun w=>w.data.toList)++KI (Dt n)
def vH:Ln->Prop
 |.f d=>dI d.name=true/\mD d.ty=true
 |.s x=>dI x.name=true/\mD ⟨false,x.aN,x.days⟩=true/\x.bI≠[]/\x.bI.length<=8/\∀b∈x.bI,aV b.fr=true/\aV b.rt=true
 |.p x=>dI x.name=true/\mD x.ty=true/\bQ x.body=0/\(dZ x=false->aV x.step=true/\aV x.cap=true)
theorem xG {a:Ra} (h:aV a=true):okR a=true:=(qM h).1
theorem Ry {n:Ln} (h:vH n):∀w∈mY n,yt w.data.toList:=by
 have hk:yt yh.data.toList/\yt uY.data.toList/\yt vW.data.toList/\yt zG.data.toList/\yt Ii.data.toList/\yt Lc.data.toList:=by unfold yt;decide
 cases n with
 |f d=>simp only[mY,List.forall_mem_cons];exact⟨hk.1,AQ h.1,OI h.2,fun _ h=>by cases h⟩
 |s x=>simp only[mY,List.forall_mem_cons];exact⟨hk.2.1,AQ h.1,OI h.2.1,fun _ h=>by cases h⟩
 |p x=>
  simp only[mY,List.forall_mem_cons]
  refine⟨hk.2.2.1,AQ h.1,OI h.2.1,fun w hw=>?_⟩;unfold lN at hw;rcases List.mem_append.1 hw with hw|hw
  ·split at hw
   ·rw[List.mem_singleton.1 hw];exact hk.2.2.2.1
   ·cases hw
  ·cases hp:dZ x<;>rw[hp] at hw
   ·have:=h.2.2.2 hp;simp only[Bool.not_false,if_true,List.mem_cons,List.not_mem_nil,or_false] at hw;rcases hw with rfl|rfl|rfl|rfl
    ·exact hk.2.2.2.2.1
    ·exact qN (xG this.1)
    ·exact hk.2.2.2.2.2
    ·exact qN (xG this.2)
   ·cases hw
theorem yw {sep:List UInt8} {c:UInt8}:∀{ps:List (List UInt8)},c∈fE sep ps->c∈sep∨∃p∈ps,c∈p
 |[],h=>by cases h
 |[p],h=>.inr ⟨p,List.mem_singleton.2 rfl,h⟩
 |p::q::r,h=>by
  rcases List.mem_append.1 h with h|h
  ·exact .inr ⟨p,List.mem_cons_self ..,h⟩
  ·rcases List.mem_append.1 h with h|h
   ·exact .inl h
   ·rcases yw (ps:=q::r) h with h|⟨x,hx,h⟩
    ·exact .inl h
    ·exact .inr ⟨x,List.mem_cons_of_mem _ hx,h⟩
theorem yx {sep p:List UInt8}:∀{ps:List (List UInt8)},p∈ps->p.length<=(fE sep ps).length
 |[q],h=>by rw[List.mem_singleton.1 h];exact Nat.le_refl _
 |q::a::r,h=>by
  show _<=(q++(sep++fE sep (a::r))).length;rw[List.length_append,List.length_append];rcases List.mem_cons.1 h with rfl|h
  ·omega
  ·have:=yx (sep:=sep) h;omega
theorem Du (sep:List UInt8):∀ls:List (List UInt8),fE sep (ls++[[]])=ls.flatMap (·++sep)
 |[]=>rfl
 |[a]=>by simp[fE]
 |a::b::r=>by
  have:=Du sep (b::r);show a++(sep++fE sep (b::r++[[]]))=_;rw[this];simp
theorem vV.of {ws:List ByteArray} (h0:ws≠[]) (hc:∀w∈ws,yt w.data.toList) (r:Option (List UInt8)) (hs:(fE [32] (ws.map fun w=>w.data.toList)++KI r).length<=1000000):vV ⟨(fE [32] (ws.map fun w=>w.data.toList)++KI r).toArray⟩ ws ⟨(r.getD []).toArray⟩ r.isSome:=by
 have hn:∀c,Jf c=false->c≠32->c∉fE [32] (ws.map fun w=>w.data.toList):=fun c h1 h2 h=>by
  rcases yw h with h|⟨p,hp,h⟩
  ·exact h2 (List.mem_singleton.1 h)
  ·obtain⟨w,hw,rfl⟩:=List.mem_map.1 hp;exact (hc w hw).no h1 h
 obtain⟨h1,h2⟩:=vP 32 [] (ws.map fun w=>w.data.toList) (by simpa using h0) (fun p hp=>by
  obtain⟨w,hw,rfl⟩:=List.mem_map.1 hp;exact (hc w hw).no (by decide))
 rw[List.length_map] at h1;rw[List.map_map,show ((fun p:List UInt8=>(⟨p.toArray⟩:ByteArray)) ∘ fun w:ByteArray=>w.data.toList)=id from rfl,List.map_id] at h2;refine⟨hs,_,?_,?_,h1,h2⟩
 ·cases r with
  |none=>show Lib.cut (_++[]) _=_;rw[List.append_nil];exact QI (hn 58 (by decide) (by decide))
  |some r=>exact IW r (hn 58 (by decide) (by decide))
 ·rw[List.length_append] at hs;omega
theorem adf {n:Ln} (h:vH n) (hs:(kU n).length<=1000000):nH ⟨(kU n).toArray⟩ n:=by
 have hW:=vV.of (by cases n<;>simp[mY]) (Ry h) (Dt n) hs;have hR:∀r,Dt n=some r->r.length<=1000000:=fun r e=>by unfold kU at hs;rw[e,List.length_append] at hs;simp[KI] at hs;omega
 have hA:∀w∈mY n,w.size<=1000000:=fun w hw=>by
  have:=yx (sep:=[32]) (List.mem_map.2 ⟨w,hw,rfl⟩:w.data.toList∈(mY n).map fun w=>w.data.toList);unfold kU at hs;rw[List.length_append] at hs;rw[Lib.size_eq];omega
 cases n with
 |f d=>exact⟨_,hW,h⟩
 |s x=>
  obtain⟨h1,h2,h3,h4,h5⟩:=h;have hr:=hR _ rfl
  obtain⟨k1,k2⟩:=vP 44 [32] (x.bI.map yu) (by simpa using h3) (fun p hp=>by
   obtain⟨b,hb,rfl⟩:=List.mem_map.1 hp;have g:=h5 b hb;simp[yu,(qN (xG g.1)).no (c:=44) (by decide),(qN (xG g.2)).no (c:=44) (by decide)])
  rw[List.length_map] at k1;refine⟨_,hW,h1,h2,DY.of hr k2 k1 (by simp) (by omega) fun i hi hi'=>?_⟩;have g:=h5 _ (List.getElem_mem hi);have hl:=yx (sep:=[44,32]) (List.mem_map.2 ⟨_,List.getElem_mem hi,rfl⟩:yu x.bI[i]∈x.bI.map yu);simp only[List.getElem_map]
  have hb:(yu x.bI[i]).length=(aO x.bI[i].fr).data.toList.length+(1+(aO x.bI[i].rt).data.toList.length):=by unfold yu;rw[List.length_append,List.length_append];rfl
  exact⟨(show (yu x.bI[i]).length<=_ by omega),_,_,IW _ ((qN (xG g.1)).no (by decide)),by omega,by omega,nD _ (xG g.1),nD _ (xG g.2)⟩
 |p x=>
  obtain⟨h1,h2,h3,h4⟩:=h;have hr:=hR _ rfl;refine⟨_,_,_,_,hW,h1,h2,?_,?_,fun hp=>?_,fun hp=>?_⟩
  ·show (textE x.body).length<=_;omega
  ·show zh (textE x.body)=_;unfold zh;rw[(Um _ _).2 ⟨h3,rfl⟩]
  ·have hp':dZ x=false:=by simpa using hp
   obtain⟨g1,g2⟩:=h4 hp';have e1:=hA (aO x.step) (by simp[mY,lN,hp']);have e2:=hA (aO x.cap) (by simp[mY,lN,hp']);exact⟨by omega,by omega,nD _ (xG g1),nD _ (xG g2)⟩
  ·have hp':dZ x=true:=by simpa using hp
   unfold dZ at hp';simpa using hp'
def jP (l:Lw):List Ln:=l.facts.map .f++(l.aU.map .s++l.aH.map .p)
theorem Rz (l:Lw):dD (jP l)=l:=by
 have hf:∀(fs:List Dc) (m:Lw),(fs.map Ln.f).foldl Lw.add m=⟨m.facts++fs,m.aU,m.aH⟩:=fun fs=>by
  induction fs with
  |nil=>intro m;simp
  |cons a r ih=>intro m;rw[List.map_cons,List.foldl_cons,ih];simp[Lw.add]
 have hs:∀(fs:List Sc) (m:Lw),(fs.map Ln.s).foldl Lw.add m=⟨m.facts,m.aU++fs,m.aH⟩:=fun fs=>by
  induction fs with
  |nil=>intro m;simp
  |cons a r ih=>intro m;rw[List.map_cons,List.foldl_cons,ih];simp[Lw.add]
 have hp:∀(fs:List Pv) (m:Lw),(fs.map Ln.p).foldl Lw.add m=⟨m.facts,m.aU,m.aH++fs⟩:=fun fs=>by
  induction fs with
  |nil=>intro m;simp
  |cons a r ih=>intro m;rw[List.map_cons,List.foldl_cons,ih];simp[Lw.add]
 unfold dD jP;rw[List.foldl_append,List.foldl_append,hf,hs,hp];simp
theorem OO:∀(r:List Bk) (k:Nat) (b:Bk),xw k (b::r)=(tH k).data.toList++([32]++fE [44,32] ((b::r).map yu))
 |[],k,b=>by simp[xw,bkW,bF,fE,yu,nY]
 |c::r,k,b=>by
  have:=OO r (k+1) c;rw[xw,this];simp[bkW,bF,fE,yu,nY,tH]
theorem line_text {n:Ln} (h:vH n):(match n with|.f d=>uw d|.s x=>vw x|.p x=>rZ x)=kU n++[10]:=by
 cases n with
 |f d=>simp[uw,U6,bF,kU,mY,Dt,KI,fE,yh,Ib,nY,uV]
 |s x=>
  obtain⟨nm,m,d,bI⟩:=x;cases bI with
  |nil=>exact absurd rfl h.2.2.1
  |cons b r=>
   show bF _++xw 0 (b::r)++bF _=_;rw[OO];simp[aay,bF,kU,mY,Dt,KI,fE,uY,U4,nY,uV,tH]
 |p x=>
  have hb:bodyT x.body=⟨(textE x.body).toArray⟩:=by unfold bodyT;rw[if_pos h.2.2.1]
  show rZ x=_;unfold rZ;rw[hb];cases hc:x.dS<;>cases hp:dZ x<;>simp[pvW,stW,bF,kU,mY,lN,Dt,KI,fE,vW,Og,nY,uV,Rj,U5,zG,Oh,Ii,sCap,Lc,hc,hp]
theorem adi {n:Ln} (h:vH n):(10:UInt8)∉kU n:=by
 unfold kU;rw[List.mem_append,not_or];refine⟨fun k=>?_,?_⟩
 ·rcases yw k with k|⟨p,hp,k⟩
  ·revert k;decide
  ·obtain⟨w,hw,rfl⟩:=List.mem_map.1 hp;exact (Ry h w hw).no (by decide) k
 ·cases n with
  |f d=>exact List.not_mem_nil
  |s x=>
   show _∉[58,32]++_;intro k;rcases List.mem_append.1 k with k|k
   ·revert k;decide
   rcases yw k with k|⟨p,hp,k⟩
   ·revert k;decide
   ·obtain⟨b,hb,rfl⟩:=List.mem_map.1 hp;have g:=h.2.2.2.2 b hb;exact absurd k (by simp[yu,(qN (xG g.1)).no (c:=10) (by decide),(qN (xG g.2)).no (c:=10) (by decide)])
  |p x=>show _∉[58,32]++_;simp[aa1 h.2.2.1]
theorem FP {l:Lw} (h:∀n∈jP l,vH n):dh l=fE [10] ((jP l).map kU++[[]]):=by
 have ht:∀n∈jP l,(match n with|.f d=>uw d|.s x=>vw x|.p x=>rZ x)=kU n++[10]:=fun n hn=>line_text (h n hn)
 have h2:dh l=(jP l).flatMap fun n=>match n with|.f d=>uw d|.s x=>vw x|.p x=>rZ x:=by
  unfold dh jP;rw[List.flatMap_append,List.flatMap_append,List.flatMap_map,List.flatMap_map,List.flatMap_map,List.append_assoc]
 rw[h2,Du,List.flatMap_map,List.flatMap_def,List.flatMap_def,List.map_congr_left ht]
theorem Vm {l:Lw} (h:∀n∈jP l,vH n):(jP l).length=fU ⟨(dh l).toArray⟩/\eU ⟨(dh l).toArray⟩=((jP l).map kU++[[]]).map fun p:List UInt8=>(⟨p.toArray⟩:ByteArray):=by
 obtain⟨h1,h2⟩:=vP 10 [] ((jP l).map kU++[[]]) (by simp) (fun p hp=>by
  rcases List.mem_append.1 hp with hp|hp
  ·obtain⟨n,hn,rfl⟩:=List.mem_map.1 hp;exact adi (h n hn)
  ·rw[List.mem_singleton.1 hp];exact List.not_mem_nil)
 rw[<-FP h] at h1 h2;exact⟨by rw[List.length_append,List.length_map] at h1;exact (Nat.succ.inj h1).symm,h2⟩
theorem RD {l:Lw} (h:∀n∈jP l,vH n) (hn:(jP l).length<=500) (hs:(dh l).length<=1000000):je ⟨(dh l).toArray⟩ (jP l):=by
 obtain⟨h1,h2⟩:=Vm h;refine je.of hs h2 h1 hn fun i hi hi'=>?_
 have hg:=h _ (List.getElem_mem hi)
 have he:∀hj,(((jP l).map kU++[[]]).map fun p:List UInt8=>(⟨p.toArray⟩:ByteArray))[i]'hj=⟨(kU (jP l)[i]).toArray⟩:=fun hj=>by
  rw[List.getElem_map,List.getElem_append_left (by simpa using hi),List.getElem_map]
 rw[he];refine adf hg (Nat.le_trans ?_ hs);rw[FP h];exact yx (List.mem_append_left _ (List.mem_map_of_mem (List.getElem_mem hi)))
theorem AU:∀{l:List Int},gK l=0->∀x∈l,x=0
 |[],_,x,hx=>by cases hx
 |z::r,h,x,hx=>by
  rw[um] at h;by_cases hz:z=0
  ·rw[if_pos hz] at h;rcases List.mem_cons.1 hx with rfl|hx
   ·exact hz
   ·exact AU h x hx
  ·rw[if_neg hz] at h;exact absurd h hz
theorem adk {l:Lw} (h:bg l=0):(l.facts.length<=20/\l.aU.length<=8/\l.aH.length<=30)/\mg l=0/\pG l=true/\(∀s∈l.aU,iH s.bI=0)/\∀p∈l.aH,jm (dW l) p=0:=by
 unfold bg at h;split at h
 ·cases h
 next h0=>
 split at h
 ·next h1=>exact absurd h h1
 next h1=>
 split at h
 ·cases h
 next h2=>
 split at h
 ·next h3=>exact absurd h h3
 next h3=>
 refine⟨by omega,Classical.not_not.1 h1,by cases ht:pG l<;>simp_all,fun s hs=>?_,fun p hp=>?_⟩
 ·exact AU (Classical.not_not.1 h3) _ (List.mem_map_of_mem (f:=fun s:Sc=>iH s.bI) hs)
 ·exact AU h _ (List.mem_map_of_mem hp)
theorem FQ {t:Ty} (h:bH t=true):mD t=true:=by
 unfold bH at h;split at h
 ·obtain rfl:=of_decide_eq_true h;rfl
 ·next ht=>
  unfold gu at h;unfold mD;rw[if_neg ht];simp only[Bool.and_eq_true,decide_eq_true_eq] at h⊢;omega
theorem YH {b:List Bk} (h:iH b=0):b≠[]/\b.length<=8/\∀x∈b,aV x.fr=true/\aV x.rt=true:=by
 unfold iH at h;split at h
 ·cases h
 split at h
 ·cases h
 split at h
 ·cases h
 split at h
 ·cases h
 next h1 h2 _ h4=>
 refine⟨fun e=>h2 (by rw[e];rfl),by omega,fun x hx=>?_⟩
 have hu:jT x=false:=by
  cases hc:jT x
  ·rfl
  ·exact absurd (List.any_eq_true.2 ⟨x,hx,hc⟩) h4
 have e:jT x=(!aV x.fr|| !aV x.rt):=rfl;rw[e] at hu;simpa using hu
theorem aa2 {sg:List Sg} {p:Pv} (h:jm sg p=0):bQ p.body=0/\(dZ p=false->aV p.step=true/\aV p.cap=true):=by
 unfold jm at h;split at h
 ·next h1=>exact absurd h h1
 next h1=>
 split at h
 ·cases h
 split at h
 ·cases h
 next h3=>
 refine⟨?_,fun hp=>?_⟩
 ·have h1:=Classical.not_not.1 h1;unfold iU gJ at h1;split at h1
  ·next hc=>exact hc
  ·next hc=>
   dsimp only at h1;rw[if_neg hc] at h1;exact h1
 ·have hc:kZ p=true:=by
   cases hk:kZ p
   ·exact absurd (by simp[hp,hk]) h3
   ·rfl
  have e:kZ p=(!p.ty.truth&&(aV p.step&&(aV p.cap&&_))):=rfl;rw[e] at hc;simp only[Bool.and_eq_true] at hc;exact⟨hc.2.1,hc.2.2.1⟩
theorem qO {l:Lw} (h:bg l=0):(jP l).length<=500/\∀n∈jP l,vH n:=by
 obtain⟨h0,h1,h2,h3,h4⟩:=adk h
 have hn:∀x∈(Aq l).flatten,dI x=true:=by
  unfold mg CY at h1;split at h1
  ·next hk=>exact List.all_eq_true.1 hk
  ·cases h1
 unfold pG at h2;simp only[Bool.and_eq_true,List.all_eq_true] at h2;refine⟨by unfold jP;simp;omega,fun n hn'=>?_⟩;unfold Aq at hn;simp only[List.flatten_cons,List.flatten_nil,List.append_nil,List.forall_mem_append,List.forall_mem_map] at hn;rcases List.mem_append.1 hn' with hx|hx
 ·obtain⟨d,hd,rfl⟩:=List.mem_map.1 hx;exact⟨hn.1 d hd,FQ (h2.1 d hd)⟩
 rcases List.mem_append.1 hx with hx|hx
 ·obtain⟨d,hd,rfl⟩:=List.mem_map.1 hx;exact⟨hn.2.1 d hd,FQ (t:=⟨false,d.aN,d.days⟩) (h2.2.2 d hd),YH (h3 d hd)⟩
 ·obtain⟨d,hd,rfl⟩:=List.mem_map.1 hx;exact⟨hn.2.2 d hd,FQ (h2.2.1 d hd),aa2 (h4 d hd)⟩
theorem aa3 {s:ByteArray} {a b:Ln} (ha:nH s a) (hb:nH s b):a=b:=by
 have hw:∀{ws vs:List ByteArray} {r r':ByteArray} {c c':Bool},vV s ws r c->vV s vs r' c'->ws=vs/\r=r':=fun h k=>by
  obtain⟨_,x,h1,_,_,h2⟩:=h;obtain⟨_,y,k1,_,_,k2⟩:=k;rw[h1] at k1;injection k1 with e1 e2;injection e2 with e2 e3;subst e1;rw[h2] at k2;exact⟨k2,ByteArray.ext (Array.ext' e2)⟩
 have hk:yh≠uY/\yh≠vW/\uY≠vW:=by decide
 cases a with
 |f d=>cases b with
  |f x=>
   obtain⟨_,h1,h2,h3⟩:=ha;obtain⟨_,k1,k2,k3⟩:=hb;have e:=(hw h1 k1).1;simp only[List.cons.injEq,and_true,true_and] at e;obtain⟨n,t⟩:=d;obtain⟨n',t'⟩:=x;obtain rfl:=OJ h3 k3 e.2;obtain rfl:n=n':=e.1;rfl
  |s x=>obtain⟨_,h1,_⟩:=ha;obtain⟨_,k1,_⟩:=hb;exact absurd (List.cons.inj (hw h1 k1).1).1 hk.1
  |p x=>obtain⟨_,h1,_⟩:=ha;obtain⟨_,_,_,_,k1,_⟩:=hb;exact absurd (List.cons.inj (hw h1 k1).1).1 hk.2.1
 |s d=>cases b with
  |f x=>obtain⟨_,h1,_⟩:=ha;obtain⟨_,k1,_⟩:=hb;exact absurd (List.cons.inj (hw h1 k1).1).1.symm hk.1
  |s x=>
   obtain⟨r,h1,h2,h3,h4⟩:=ha;obtain⟨_,k1,k2,k3,k4⟩:=hb;obtain⟨e,rfl⟩:=hw h1 k1;simp only[List.cons.injEq,and_true,true_and] at e;obtain⟨n,m,t,bs⟩:=d;obtain⟨n',m',t',bs'⟩:=x;obtain rfl:n=n':=e.1;obtain⟨_,rfl,rfl⟩:=Ty.mk.inj (OJ h3 k3 e.2);have hl:bs.length=bs'.length:=h4.len.symm.trans k4.len
   obtain rfl:bs=bs':=List.ext_getElem hl fun i hi hi'=>by
    have hj:i<(lq r).length:=by rw[h4.len];exact hi
    obtain⟨_,x1,y1,p1,_,_,p2,p3⟩:=h4.ok i hi hj;obtain⟨_,x2,y2,q1,_,_,q2,q3⟩:=k4.ok i hi' hj;rw[p1] at q1;injection q1 with e1 e2;injection e2 with e2 e3;subst e1 e2;rw[p2] at q2;rw[p3] at q3;have g1:bs[i].fr=bs'[i].fr:=(Prod.mk.inj q2).1;have g2:bs[i].rt=bs'[i].rt:=(Prod.mk.inj q3).1;cases h1:bs[i];cases h2:bs'[i];rw[h1,h2] at g1 g2;simp only[Bk.mk.injEq];exact⟨g1,g2⟩
   rfl
  |p x=>obtain⟨_,h1,_⟩:=ha;obtain⟨_,_,_,_,k1,_⟩:=hb;exact absurd (List.cons.inj (hw h1 k1).1).1 hk.2.2
 |p d=>cases b with
  |f x=>obtain⟨_,_,_,_,h1,_⟩:=ha;obtain⟨_,k1,_⟩:=hb;exact absurd (List.cons.inj (hw h1 k1).1).1.symm hk.2.1
  |s x=>obtain⟨_,_,_,_,h1,_⟩:=ha;obtain⟨_,k1,_⟩:=hb;exact absurd (List.cons.inj (hw h1 k1).1).1.symm hk.2.2
  |p x=>
   obtain⟨r,sp,u,v,h1,h2,h3,h4,h5,h6,h7⟩:=ha;obtain⟨r',sp',u',v',k1,k2,k3,k4,k5,k6,k7⟩:=hb;obtain⟨e,rfl⟩:=hw h1 k1;simp only[List.cons.injEq,true_and] at e;obtain⟨n,t,c,st,cp,b⟩:=d;obtain⟨n',t',c',st',cp',b'⟩:=x;obtain rfl:n=n':=e.1;obtain rfl:=OJ h3 k3 e.2.1;rw[h5] at k5;obtain rfl:b=b':=(Prod.mk.inj k5).1;have e2:=e.2.2;have hks:zG≠Ii:=by decide
   cases c<;>cases c'<;>cases sp<;>cases sp'<;>simp[lN,hks,hks.symm] at e2
   all_goals first
    |(obtain⟨rfl,rfl⟩:=h7 rfl;obtain⟨rfl,rfl⟩:=k7 rfl;rfl)
    |(obtain⟨rfl,rfl⟩:=e2
      obtain⟨_,_,a1,a2⟩:=h6 rfl;obtain⟨_,_,b1,b2⟩:=k6 rfl;rw[a1] at b1;rw[a2] at b2;obtain rfl:st=st':=(Prod.mk.inj b1).1;obtain rfl:cp=cp':=(Prod.mk.inj b2).1;rfl)
theorem aa4 {l m:Lw} (hl:bg l=0) (hm:bg m=0) (hs:(dh l).length<=1000000) (h:dh l=dh m):l=m:=by
 obtain⟨n1,g1⟩:=qO hl;obtain⟨n2,g2⟩:=qO hm;have o1:=RD g1 n1 hs;have o2:=RD g2 n2 (h ▸ hs);rw[<-h] at o2
 have he:jP l=jP m:=List.ext_getElem (o1.n.trans o2.n.symm) fun i hi hi'=>by
  have hj:i<(eU ⟨(dh l).toArray⟩).length:=by rw[rP _ _ (Nat.le_refl _),<-o1.n];omega
  exact aa3 (o1.ok i hi hj) (o2.ok i hi' hj)
 rw[<-Rz l,he,Rz]
theorem FT {sep:List UInt8} {K:Nat}:∀{ps:List (List UInt8)},(∀p∈ps,p.length<=K)->(fE sep ps).length<=ps.length*(K+sep.length)
 |[],_=>Nat.zero_le _
 |[p],h=>by
  have:=h p (List.mem_singleton.2 rfl);show p.length<=1*_;omega
 |p::q::r,h=>by
  have h1:=h p (List.mem_cons_self ..);have h2:=FT (sep:=sep) (ps:=q::r) fun x hx=>h x (List.mem_cons_of_mem _ hx)
  show (p++(sep++fE sep (q::r))).length<=((q::r).length+1)*_;rw[List.length_append,List.length_append,Nat.add_mul];omega
theorem YI:∀m∈seven,∀d∈seven,(bU ⟨false,m,d⟩).size<=302:=by decide+kernel
theorem OQ {t:Ty} (h:mD t=true):(bU t).size<=302:=by
 rcases rQ h with rfl|⟨h1,h2,h3⟩
 ·decide
 ·obtain⟨b,m,d⟩:=t;dsimp only at h1;subst h1;exact YI m h2 d h3
theorem DZ {a:Ra} (h:aV a=true):(aO a).size<=302:=CB a (qM h).2.1 (qM h).2.2
theorem adl {n:Ln} (h:vH n):(mY n).length<=8/\∀w∈mY n,w.size<=302:=by
 have hk:yh.size<=302/\uY.size<=302/\vW.size<=302/\zG.size<=302/\Ii.size<=302/\Lc.size<=302:=by decide
 cases n with
 |f d=>have:=lT h.1;simp only[mY,List.forall_mem_cons];exact⟨by simp,hk.1,by omega,OQ h.2,fun _ h=>by cases h⟩
 |s x=>have:=lT h.1;simp only[mY,List.forall_mem_cons];exact⟨by simp,hk.2.1,by omega,OQ h.2.1,fun _ h=>by cases h⟩
 |p x=>
  have:=lT h.1;simp only[mY,List.forall_mem_cons]
  refine⟨by cases x.dS<;>cases dZ x<;>simp[lN],hk.2.2.1,by omega,OQ h.2.1,fun w hw=>?_⟩;unfold lN at hw;rcases List.mem_append.1 hw with hw|hw
  ·split at hw
   ·rw[List.mem_singleton.1 hw];exact hk.2.2.2.1
   ·cases hw
  ·cases hp:dZ x<;>rw[hp] at hw
   ·have:=h.2.2.2 hp;simp only[Bool.not_false,if_true,List.mem_cons,List.not_mem_nil,or_false] at hw;rcases hw with rfl|rfl|rfl|rfl
    ·exact hk.2.2.2.2.1
    ·exact DZ this.1
    ·exact hk.2.2.2.2.2
    ·exact DZ this.2
   ·cases hw
theorem aa5 {n:Ln} (h:vH n):(kU n).length<=50000:=by
 obtain⟨h1,h2⟩:=adl h
 have k:=FT (sep:=[32]) (K:=302) (ps:=(mY n).map fun w=>w.data.toList) fun p hp=>by
  obtain⟨w,hw,rfl⟩:=List.mem_map.1 hp;have:=h2 w hw;rwa[Lib.size_eq] at this
 rw[List.length_map] at k;have k2:=Nat.mul_le_mul_right (302+[(32:UInt8)].length) h1;have k3:(302:Nat)+[(32:UInt8)].length=303:=rfl;rw[k3] at k k2
 have hr:∀r,Dt n=some r->r.length<=45000:=fun r e=>by
  cases n with
  |f d=>cases e
  |s x=>
   injection e with e;subst e
   have a:=FT (sep:=[44,32]) (K:=605) (ps:=x.bI.map yu) fun p hp=>by
    obtain⟨b,hb,rfl⟩:=List.mem_map.1 hp;have g:=h.2.2.2.2 b hb;have e1:=DZ g.1;have e2:=DZ g.2;rw[Lib.size_eq] at e1 e2;unfold yu;simp only[List.length_append,List.length_cons,List.length_nil];omega
   rw[List.length_map] at a;have b:=Nat.mul_le_mul_right (605+[(44:UInt8),32].length) h.2.2.2.1;have c:(605:Nat)+[(44:UInt8),32].length=607:=rfl;rw[c] at a b;omega
  |p x=>injection e with e;subst e;have:=PO h.2.2.1;omega
 unfold kU;rw[List.length_append];cases hx:Dt n with
 |none=>show _+0<=_;omega
 |some r=>have:=hr r hx;simp only[KI,List.length_append,List.length_cons,List.length_nil];omega
theorem OT {l:Lw} (h:bg l=0):(dh l).length<=(jP l).length*50001:=by
 have hg:=(qO h).2;rw[FP hg,Du];generalize jP l=ns at*
 induction ns with
 |nil=>exact Nat.zero_le _
 |cons n r ih=>
  have h1:=aa5 (hg n (List.mem_cons_self ..));have h2:=ih fun x hx=>hg x (List.mem_cons_of_mem _ hx)
  rw[List.map_cons,List.flatMap_cons,List.length_append,List.length_append,show (n::r).length=r.length+1 from rfl,Nat.add_mul];show _+1+_<=_;omega
end Go.Proofs.YtimokmplkpbmdaaGreatDoor
