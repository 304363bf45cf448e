/- A part of the proof: Ut Uw Ux. -/
import Derived.Test.YtimokmplkpbmdaaGreatDoorB38
import Derived.Test.YtimokmplkpbmdaaGreatDoorB40
set_option linter.all false
set_option maxRecDepth 100000
set_option maxHeartbeats 0
namespace Go.Proofs.YtimokmplkpbmdaaGreatDoor
open Go.RowKit Go.Shelf
attribute [local go_sem] Oper.semAt_some
theorem PX.stq {w0 X Y:World} {R b B:Nat} {l:Lw} {cs:List Value} (h:PX w0 X R l) (hq:Stq b B X Y) (hb:Blk X b 9 cs) (h1:w0.heap.size<=b) (h2:w0.heap.size<=B):PX w0 Y R l:=by
 obtain⟨ss,ps,fv,sv,pv,h⟩:=h;refine⟨ss,ps,fv,sv,pv,h.tf (t:=9) ⟨hq.size,fun k cs' t' fr hk ht=>?_⟩ ⟨hq.os.trans h.bl.os,hq.tape.trans h.bl.tape,hq.output.trans h.bl.output,Nat.le_trans h.bl.size hq.size,fun k hk=>?_⟩ (by decide) (by decide) (by decide) (by decide) (by decide) (by decide)⟩
 ·refine hq.same k _ hk ?_ (.inr rfl);rintro rfl;rw[show X.heap[k]?=_ from hb] at hk;injection hk with hk;injection hk with _ e _;exact ht e.symm
 ·have h3:=h.bl.block k hk;have h4:k<X.heap.size:=Nat.lt_of_lt_of_le hk h.bl.size;rw[<-h3,Array.getElem?_eq_getElem h4];exact hq.same k _ (Array.getElem?_eq_getElem h4) (by omega) (.inl (by omega))
def lawOf (lns:List Ln):Lw:=lns.foldl Lw.add ⟨[],[],[]⟩
theorem lawOf_snoc (lns:List Ln) (x:Ln):lawOf (lns++[x])=(lawOf lns).add x:=by unfold lawOf;rw[List.foldl_append];rfl
theorem lawOf_len (lns:List Ln):(lawOf lns).facts.length<=lns.length/\(lawOf lns).schs.length<=lns.length/\(lawOf lns).provs.length<=lns.length:=by
 suffices h:∀(l:Lw),(lns.foldl Lw.add l).facts.length<=l.facts.length+lns.length/\(lns.foldl Lw.add l).schs.length<=l.schs.length+lns.length/\(lns.foldl Lw.add l).provs.length<=l.provs.length+lns.length by
  have:=h ⟨[],[],[]⟩;simpa [lawOf] using this
 induction lns with
 |nil=>intro l;simp
 |cons a r ih=>
  intro l;have h:=ih (l.add a);rw[List.foldl_cons,List.length_cons];cases a<;>simp only[Lw.add,List.length_append,List.length_cons,List.length_nil] at h⊢<;>omega
structure LinesOk (s:ByteArray) (lns:List Ln):Prop where
 size:s.size<=1000000
 n:lns.length=cntL s
 max:lns.length<=500
 ok:∀i (h:i<lns.length) (h':i<(linesB s).length),LineOk (linesB s)[i] lns[i]
def lastB (s:ByteArray):ByteArray:=(linesB s).getLastD ⟨#[]⟩
def parseR (s:ByteArray) (lns:List Ln):Lw × Int × Int:=
 if lastB s≠⟨#[]⟩ then (⟨[],[],[]⟩,(cntL s:Int)+1,11) else
 if checkL (lawOf lns)≠0 then (⟨[],[],[]⟩,0,checkL (lawOf lns)) else
 if (⟨(textL (lawOf lns)).toArray⟩:ByteArray)≠s then (⟨[],[],[]⟩,0,11) else (lawOf lns,0,0)
structure PI (w:World) (s:ByteArray) (lns:List Ln) (b:Nat) (k:Nat) (W:World):Prop where
 px:PX w W (b+4) (lawOf (lns.take k))
 b0:Blk W b 9 [.string s]
 b1:Blk W (b+1) 28 [.slice none 0 0,.slice none 0 0,.slice none 0 0]
 b2:Blk W (b+2) 3 [.int .i64 0]
 b3:Blk W (b+3) 46 [.int .i64 0]
 b5:Blk W (b+5) 3 [.int .i64 k]
 b6:∃cs,Blk W (b+6) 9 cs
 b7:∃cs,Blk W (b+7) 9 cs
 b8:∃cs,Blk W (b+8) 3 cs
 last:k=cntL s+1->lastB s=⟨#[]⟩
structure PJ (w:World) (s:ByteArray) (b:Nat) (W:World):Prop where
 ne:lastB s≠⟨#[]⟩
 bl:Below w.heap.size w W
 b1:Blk W (b+1) 28 [.slice none 0 0,.slice none 0 0,.slice none 0 0]
 b2:Blk W (b+2) 3 [.int .i64 ((cntL s:Int)+1)]
 b3:Blk W (b+3) 46 [.int .i64 11]
theorem Stq.blk {b B k:Nat} {X Y:World} {t:TypeId} {cs:List Value} (h:Stq b B X Y) (hb:Blk X k t cs) (hk:k≠b):Blk Y k t cs:=h.same k _ hb hk (.inr rfl)
theorem PI.stq {w X Y:World} {s:ByteArray} {lns:List Ln} {b B k:Nat} (h:PI w s lns b k X) (hq:Stq (b+6) B X Y) (h1:w.heap.size<=b) (h2:w.heap.size<=B):PI w s lns b k Y:=by
 obtain⟨cs,hc⟩:=h.b6;obtain⟨c7,hc7⟩:=h.b7;obtain⟨c8,hc8⟩:=h.b8;exact⟨h.px.stq hq hc (by omega) h2,hq.blk h.b0 (by omega),hq.blk h.b1 (by omega),hq.blk h.b2 (by omega),hq.blk h.b3 (by omega),hq.blk h.b5 (by omega),hq.typ _ _ hc,⟨c7,hq.blk hc7 (by omega)⟩,⟨c8,hq.blk hc8 (by omega)⟩,h.last⟩
theorem PJ.stq {w X Y:World} {s:ByteArray} {b B:Nat} (h:PJ w s b X) (hq:Stq (b+6) B X Y) (h1:w.heap.size<=b) (h2:w.heap.size<=B):PJ w s b Y:=
 ⟨h.ne,⟨hq.os.trans h.bl.os,hq.tape.trans h.bl.tape,hq.output.trans h.bl.output,Nat.le_trans h.bl.size hq.size,fun k hk=>by
   have h3:=h.bl.block k hk;have h4:k<X.heap.size:=Nat.lt_of_lt_of_le hk h.bl.size;rw[<-h3,Array.getElem?_eq_getElem h4];exact hq.same k _ (Array.getElem?_eq_getElem h4) (by omega) (.inl (by omega))⟩,hq.blk h.b1 (by omega),hq.blk h.b2 (by omega),hq.blk h.b3 (by omega)⟩
theorem lines_at {s:ByteArray} {pre:List ByteArray} {x:ByteArray} (h:pre++[x]<+:linesB s):∃(h':pre.length<(linesB s).length),(linesB s)[pre.length]=x:=by
 obtain⟨t,ht⟩:=h;refine⟨by rw[<-ht];simp,?_⟩;simp only[<-ht]
 simp
theorem last_at {s:ByteArray} (h':cntL s<(linesB s).length):(linesB s)[cntL s]=lastB s:=by
 have hl:=linesB_len s.size s (Nat.le_refl _);unfold lastB;rw[List.getLastD_eq_getLast?,List.getLast?_eq_getElem?,hl,Nat.add_sub_cancel,List.getElem?_eq_getElem h'];rfl
def RetP (r:Lw × Int × Int) (w:World) (e:Ending) (w':World):Prop:=∃(f sc p:Hd) (ss:List (Sc × Hd)) (ps:List (Pv × Hd)),e=.returned (.tuple #[lawV f sc p,.int .i64 r.2.1,.int .i64 r.2.2])/\LawAt w' r.1 ss ps f sc p/\Below w.heap.size w w'
theorem LawAt.empty (w:World):LawAt w ⟨[],[],[]⟩ [] [] ⟨none,0,0⟩ ⟨none,0,0⟩ ⟨none,0,0⟩:=⟨RowAt.nil _ _,RowAt.nil _ _,RowAt.nil _ _,rfl,rfl,(fun _ h=>by cases h),(fun _ h=>by cases h)⟩
theorem PT.fresh {w W:World} {R:Nat} (h:Blk W R 28 [.slice none 0 0,.slice none 0 0,.slice none 0 0]) (hb:Below w.heap.size w W) (hR:w.heap.size<=R):PX w W R ⟨[],[],[]⟩:=
 ⟨[],[],_,_,_,hR,hb,h,World.ownsRow_nil _ _ _ _,World.ownsRow_nil _ _ _ _,World.ownsRow_nil _ _ _ _,rfl,rfl,(fun _ h=>by cases h),(fun _ h=>by cases h)⟩
theorem Blk.newAt {w:World} {n:Nat} (h:w.heap.size=n) (t:TypeId) (cs:Array Value):Blk (w.alloc (.cells cs t)) n t cs.toList:=h ▸ Blk.new w t cs
def law0:List Value:=[.slice none 0 0,.slice none 0 0,.slice none 0 0]
structure PN (s:ByteArray) (w:World) (b:Nat) (W:World):Prop where
 size:W.heap.size=b+9
 bl:Below w.heap.size w W
 b0:Blk W b 9 [.string s]
 b1:Blk W (b+1) 28 law0
 b2:Blk W (b+2) 3 [.int .i64 0]
 b3:Blk W (b+3) 46 [.int .i64 0]
 b4:Blk W (b+4) 28 law0
 b5:Blk W (b+5) 3 [.int .i64 0]
 b6:Blk W (b+6) 9 [.string s]
 b7:Blk W (b+7) 9 [.string sLf]
 b8:Blk W (b+8) 3 [.int .i64 0]
theorem pn_new (s:ByteArray) (w W6 W:World) (h6:W6=(((((w.alloc (.cells #[.string s] 9)).alloc (.cells #[.slice none 0 0,.slice none 0 0,.slice none 0 0] 28)).alloc (.cells #[.int .i64 0] 3)).alloc (.cells #[.int .i64 0] 46)).alloc (.cells #[.slice none 0 0,.slice none 0 0,.slice none 0 0] 28)).alloc (.cells #[.int .i64 0] 3))
  (hW:W=((W6.alloc (.cells #[.string s] 9)).alloc (.cells #[.string sLf] 9)).alloc (.cells #[.int .i64 0] 3)):PN s w w.heap.size W/\W6.heap.size=w.heap.size+6:=by
 subst h6;subst hW;have z:∀(W:World) (o:Obj) (n:Nat),W.heap.size=n->(W.alloc o).heap.size=n+1:=fun W o n h=>by rw[World.size_alloc,h]
 have z0:w.heap.size=w.heap.size:=rfl;have z1:=z _ (.cells #[.string s] 9) _ z0;have z2:=z _ (.cells #[.slice none 0 0,.slice none 0 0,.slice none 0 0] 28) _ z1;have z3:=z _ (.cells #[.int .i64 0] 3) _ z2;have z4:=z _ (.cells #[.int .i64 0] 46) _ z3;have z5:=z _ (.cells #[.slice none 0 0,.slice none 0 0,.slice none 0 0] 28) _ z4;have z6:=z _ (.cells #[.int .i64 0] 3) _ z5;have z7:=z _ (.cells #[.string s] 9) _ z6;have z8:=z _ (.cells #[.string sLf] 9) _ z7;have z9:=z _ (.cells #[.int .i64 0] 3) _ z8;refine⟨⟨z9,?_,((((((((Blk.new w _ _).alloc _).alloc _).alloc _).alloc _).alloc _).alloc _).alloc _).alloc _,(((((((Blk.newAt z1 _ _).alloc _).alloc _).alloc _).alloc _).alloc _).alloc _).alloc _,((((((Blk.newAt z2 _ _).alloc _).alloc _).alloc _).alloc _).alloc _).alloc _,(((((Blk.newAt z3 _ _).alloc _).alloc _).alloc _).alloc _).alloc _,((((Blk.newAt z4 _ _).alloc _).alloc _).alloc _).alloc _,(((Blk.newAt z5 _ _).alloc _).alloc _).alloc _,((Blk.newAt z6 _ _).alloc _).alloc _,(Blk.newAt z7 _ _).alloc _,Blk.newAt z8 _ _⟩,z6⟩;exact (((((((((Below.refl _ w).alloc (by omega) _).alloc (by omega) _).alloc (by omega) _).alloc (by omega) _).alloc (by omega) _).alloc (by omega) _).alloc (by omega) _).alloc (by omega) _).alloc (by omega) _
theorem cell_kept {w w':World} {b:Nat} {v:Value} (h:w.cell? ⟨b,0,none⟩=some v) (hk:∀o,w.heap[b]?=some o->w'.heap[b]?=some o):w'.cell? ⟨b,0,none⟩=some v:=by
 have e:w'.heap[b]?=w.heap[b]?:=by
  cases ho:w.heap[b]? with
  |none=>unfold World.cell? at h;simp only[ho] at h;cases h
  |some o=>exact hk o ho
 exact (World.cell?_of_block e).trans h
theorem PX.bl {w0 w:World} {R:Nat} {l:Lw} (h:PX w0 w R l):Below w0.heap.size w0 w:=by
 obtain⟨_,_,_,_,_,h⟩:=h;exact h.bl
theorem PX.setI {w0 w:World} {R B:Nat} {l:Lw} {cs:List Value} (h:PX w0 w R l) (hB:Blk w B 3 cs) (h0:w0.heap.size<=B) (u:Value):PX w0 (w.setCell ⟨B,0,none⟩ u) R l:=by
 obtain⟨ss,ps,fv,sv,pv,h⟩:=h;exact⟨ss,ps,fv,sv,pv,h.tf (TF.set (e:=3) hB 0 u) (h.bl.setCell (p:=⟨B,0,none⟩) h0 u) (by decide) (by decide) (by decide) (by decide) (by decide) (by decide)⟩
structure PE (w:World) (s:ByteArray) (lns:List Ln) (b:Nat) (k:Nat) (W:World):Prop where
 wb:w.heap.size=b
 px:PX w W (b+4) (lawOf (lns.take k))
 b0:Blk W b 9 [.string s]
 b1:Blk W (b+1) 28 [.slice none 0 0,.slice none 0 0,.slice none 0 0]
 b2:Blk W (b+2) 3 [.int .i64 0]
 b3:Blk W (b+3) 46 [.int .i64 0]
 b5:Blk W (b+5) 3 [.int .i64 ((k:Int)+1)]
 b6:∃cs,Blk W (b+6) 9 cs
 b7:∃cs,Blk W (b+7) 9 cs
 b8:∃cs,Blk W (b+8) 3 cs
theorem PI.step {w W:World} {s:ByteArray} {lns:List Ln} {b k:Nat} (hw:w.heap.size=b) (h:PI w s lns b k W):PE w s lns b k (W.setCell ⟨b+5,0,none⟩ (.int .i64 ((k:Int)+1))):=by
 obtain⟨cs,hc⟩:=h.b6;obtain⟨c7,hc7⟩:=h.b7;obtain⟨c8,hc8⟩:=h.b8;exact⟨hw,h.px.setI h.b5 (by omega) _,h.b0.other (p:=⟨b+5,0,none⟩) (by show b≠b+5;omega) _,h.b1.other (p:=⟨b+5,0,none⟩) (by show b+1≠b+5;omega) _,h.b2.other (p:=⟨b+5,0,none⟩) (by show b+2≠b+5;omega) _,h.b3.other (p:=⟨b+5,0,none⟩) (by show b+3≠b+5;omega) _,h.b5.set 0 _,⟨cs,hc.other (p:=⟨b+5,0,none⟩) (by show b+6≠b+5;omega) _⟩,⟨c7,hc7.other (p:=⟨b+5,0,none⟩) (by show b+7≠b+5;omega) _⟩,⟨c8,hc8.other (p:=⟨b+5,0,none⟩) (by show b+8≠b+5;omega) _⟩⟩
theorem FR.blk {R B:Nat} {W W':World} {t:TypeId} {cs:List Value} (h:FR R W W') (hb:Blk W B t cs) (hR:B≠R) (ht:t≠36/\t≠39/\t≠45):Blk W' B t cs:=
 h.keep B _ hb hR (fun cs' t' fr e=>by injection e with _ e2 _;exact e2 ▸ ht)
theorem PE.fr5 {w W W':World} {s:ByteArray} {lns:List Ln} {b k:Nat} (h:PE w s lns b k W) (hf:FR (b+4) W.drew W'):Blk W' (b+5) 3 [.int .i64 ((k:Int)+1)]:=hf.blk h.b5.drew (by omega) (by decide)
theorem PE.fr0 {w W W':World} {s:ByteArray} {lns:List Ln} {b k:Nat} (h:PE w s lns b k W) (hf:FR (b+4) W.drew W'):Blk W' b 9 [.string s]:=hf.blk h.b0.drew (by omega) (by decide)
theorem PE.next {w W W':World} {s:ByteArray} {lns:List Ln} {b k:Nat} {l':Lw} (h:PE w s lns b k W) (hpx:PX w W' (b+4) l') (hl:l'=lawOf (lns.take (k+1))) (hf:FR (b+4) W.drew W') (hlast:k+1=cntL s+1->lastB s=⟨#[]⟩):PI w s lns b (k+1) W':=by
 obtain⟨cs,hc⟩:=h.b6;obtain⟨c7,hc7⟩:=h.b7;obtain⟨c8,hc8⟩:=h.b8;exact⟨hl ▸ hpx,h.fr0 hf,hf.blk h.b1.drew (by omega) (by decide),hf.blk h.b2.drew (by omega) (by decide),hf.blk h.b3.drew (by omega) (by decide),h.fr5 hf,⟨cs,hf.blk hc.drew (by omega) (by decide)⟩,⟨c7,hf.blk hc7.drew (by omega) (by decide)⟩,⟨c8,hf.blk hc8.drew (by omega) (by decide)⟩,hlast⟩
theorem PE.keepsF {w W W1 W':World} {s:ByteArray} {lns:List Ln} {b k:Nat} (hI:PI w s lns b k W) (hs:∀(q:Nat) (o:Obj),W.heap[q]?=some o->q≠b+5->W1.heap[q]?=some o) (hz:W.heap.size<=W1.heap.size) (hf:FR (b+4) W1.drew W') (B:Nat):KeepsFrom B W W':=by
 refine⟨Nat.le_trans hz hf.size,fun q o _ hq ho=>?_⟩
 have h5:q≠b+5:=by
  rintro rfl;rw[show W.heap[b+5]?=_ from hI.b5] at hq;injection hq with hq;subst hq;cases ho
 have h4:q≠b+4:=by
  rintro rfl;obtain⟨_,_,_,_,_,hp⟩:=hI.px;rw[show W.heap[b+4]?=_ from hp.blk] at hq;injection hq with hq;subst hq;cases ho
 exact hf.keep q o (hs q o hq h5) h4 (fun cs t fr e=>by subst e;cases ho)
theorem PE.keepsK {w W W1 W':World} {s:ByteArray} {lns:List Ln} {b k:Nat} {K:Nat->Prop} {l':Lw} (hw:w.heap.size=b) (hKi:∀q,K q↔(q<b∨q=b+7∨q=b+8)) (hI:PI w s lns b k W) (hs:∀(q:Nat) (o:Obj),W.heap[q]?=some o->q≠b+5->W1.heap[q]?=some o) (hz:W.heap.size<=W1.heap.size) (hpx:PX w W' (b+4) l') (hf:FR (b+4) W1.drew W'):Kb (fun q=>K q∨q=b+6) W W':=by
 refine⟨Nat.le_trans hz hf.size,fun q o hq hk=>?_⟩
 have hB:∀(t:TypeId) (cs:List Value),q≠b+5->q≠b+4->Blk W q t cs->(t≠36/\t≠39/\t≠45)->W'.heap[q]?=some o:=fun t cs h5 h4 hb ht=>by
  rw[show W.heap[q]?=_ from hb] at hq;rw[<-hq];exact hf.blk (R:=b+4) (W:=W1.drew) (hs q _ hb h5) h4 ht
 obtain⟨c6,hc6⟩:=hI.b6;obtain⟨c7,hc7⟩:=hI.b7;obtain⟨c8,hc8⟩:=hI.b8;rcases hk with hk|rfl
 ·rcases (hKi q).1 hk with h|rfl|rfl
  ·rw[<-hw] at h;rw[hpx.bl.block q h,<-hI.px.bl.block q h];exact hq
  ·exact hB _ _ (by omega) (by omega) hc7 (by decide)
  ·exact hB _ _ (by omega) (by omega) hc8 (by decide)
 ·exact hB _ _ (by omega) (by omega) hc6 (by decide)
def endW (W:World) (b:Nat) (v1 v2 v3 n c:Value):World:=((((W.setCell ⟨b+1,0,none⟩ v1).setCell ⟨b+1,1,none⟩ v2).setCell ⟨b+1,2,none⟩ v3).setCell ⟨b+2,0,none⟩ n).setCell ⟨b+3,0,none⟩ c
theorem endW_other (W:World) (b:Nat) (v1 v2 v3 n c:Value) (k:Nat) (h1:k≠b+1) (h2:k≠b+2) (h3:k≠b+3):(endW W b v1 v2 v3 n c).heap[k]?=W.heap[k]?:=by
 unfold endW;rw[Below.heap_setCell _ _ _ k (show k≠b+3 from h3),Below.heap_setCell _ _ _ k (show k≠b+2 from h2),Below.heap_setCell _ _ _ k (show k≠b+1 from h1),Below.heap_setCell _ _ _ k (show k≠b+1 from h1),Below.heap_setCell _ _ _ k (show k≠b+1 from h1)]
theorem endW_blk {W:World} {b:Nat} {a1 a2 a3 a4 a5:Value} (v1 v2 v3 n c:Value) (h1:Blk W (b+1) 28 [a1,a2,a3]) (h2:Blk W (b+2) 3 [a4]) (h3:Blk W (b+3) 46 [a5]):
  Blk (endW W b v1 v2 v3 n c) (b+1) 28 [v1,v2,v3]/\Blk (endW W b v1 v2 v3 n c) (b+2) 3 [n]/\Blk (endW W b v1 v2 v3 n c) (b+3) 46 [c]:=by
 have q1:Blk (((W.setCell ⟨b+1,0,none⟩ v1).setCell ⟨b+1,1,none⟩ v2).setCell ⟨b+1,2,none⟩ v3) (b+1) 28 [v1,v2,v3]:=((h1.set 0 _).set 1 _).set 2 _;have q2:Blk (((W.setCell ⟨b+1,0,none⟩ v1).setCell ⟨b+1,1,none⟩ v2).setCell ⟨b+1,2,none⟩ v3) (b+2) 3 [a4]:=((h2.other (p:=⟨b+1,0,none⟩) (by show b+2≠b+1;omega) _).other (p:=⟨b+1,1,none⟩) (by show b+2≠b+1;omega) _).other (p:=⟨b+1,2,none⟩) (by show b+2≠b+1;omega) _;have q3:Blk (((W.setCell ⟨b+1,0,none⟩ v1).setCell ⟨b+1,1,none⟩ v2).setCell ⟨b+1,2,none⟩ v3) (b+3) 46 [a5]:=((h3.other (p:=⟨b+1,0,none⟩) (by show b+3≠b+1;omega) _).other (p:=⟨b+1,1,none⟩) (by show b+3≠b+1;omega) _).other (p:=⟨b+1,2,none⟩) (by show b+3≠b+1;omega) _;exact⟨(q1.other (p:=⟨b+2,0,none⟩) (by show b+1≠b+2;omega) _).other (p:=⟨b+3,0,none⟩) (by show b+1≠b+3;omega) _,(q2.set 0 _).other (p:=⟨b+3,0,none⟩) (by show b+2≠b+3;omega) _,(q3.other (p:=⟨b+2,0,none⟩) (by show b+3≠b+2;omega) _).set 0 _⟩
theorem endW_below {w W:World} {b:Nat} (h:Below w.heap.size w W) (hw:w.heap.size=b) (v1 v2 v3 n c:Value):Below w.heap.size w (endW W b v1 v2 v3 n c):=
 ((((h.setCell (p:=⟨b+1,0,none⟩) (by show _<=b+1;omega) _).setCell (p:=⟨b+1,1,none⟩) (by show _<=b+1;omega) _).setCell (p:=⟨b+1,2,none⟩) (by show _<=b+1;omega) _).setCell (p:=⟨b+2,0,none⟩) (by show _<=b+2;omega) _).setCell (p:=⟨b+3,0,none⟩) (by show _<=b+3;omega) _
def stopW (W:World) (b k:Nat):World:=endW W b (.slice none 0 0) (.slice none 0 0) (.slice none 0 0) (.int .i64 ((k:Int)+1)) (.int .i64 11)
theorem PE.stop {w W:World} {s:ByteArray} {lns:List Ln} {b k:Nat} (h:PE w s lns b k W) (hk:k=cntL s) (hx:lastB s≠⟨#[]⟩):PJ w s b (stopW W b k):=by
 subst hk;obtain⟨h1,h2,h3⟩:=endW_blk (.slice none 0 0) (.slice none 0 0) (.slice none 0 0) (.int .i64 ((cntL s:Int)+1)) (.int .i64 11) h.b1 h.b2 h.b3;exact⟨hx,endW_below h.px.bl h.wb _ _ _ _ _,h1,h2,h3⟩
theorem own_up {w w':World} {R B e s n:Nat} {v:Value} {xs:List Value} (ho:w.ownsRow B e s v n xs) (hB:R<=B) (hk:∀(k:Nat) (cs:Array Value) (t:TypeId) (fr:Nat × Nat),R<=k->w.heap[k]?=some (.cells cs t fr)->w'.heap[k]?=some (.cells cs t fr)):w'.ownsRow B e s v n xs:=by
 refine⟨ho.1,ho.2.imp id ?_⟩;rintro⟨g,cap,cur,h1,h2,h3,h4⟩;exact⟨g,cap,cur,h1,h2,hk _ _ _ _ (by omega) h3,h4⟩
theorem PT.up {w0 w w':World} {R:Nat} {l:Lw} {ss:List (Sc × Hd)} {ps:List (Pv × Hd)} {fv sv pv:Value} (h:PT w0 w R l ss ps fv sv pv) (hb:Below w0.heap.size w0 w') (hk:∀(k:Nat) (cs:Array Value) (t:TypeId) (fr:Nat × Nat),R<=k->w.heap[k]?=some (.cells cs t fr)->w'.heap[k]?=some (.cells cs t fr)):PT w0 w' R l ss ps fv sv pv:=
 ⟨h.r,hb,hk _ _ _ _ (Nat.le_refl _) h.blk,own_up h.f (Nat.le_succ _) hk,own_up h.s (Nat.le_succ _) hk,own_up h.p (Nat.le_succ _) hk,h.sl,h.pl,fun x hx=>⟨(h.sb x hx).1,own_up (h.sb x hx).2 (Nat.le_succ _) hk⟩,fun x hx=>⟨(h.pb x hx).1,own_up (h.pb x hx).2 (Nat.le_succ _) hk⟩⟩
theorem put_blk {W:World} {k D:Nat} {t:TypeId} {cs:List Value} {o:Obj} (h:Blk W k t cs) (hk:k≠D):Blk (W.putObj D o) k t cs:=(World.putObj_heap_other (by omega)).trans h
theorem put_below {w W:World} {D:Nat} {o o':Obj} (h:Below w.heap.size w W) (hD:w.heap.size<=D) (hK:W.heap[D]?=some o'):Below w.heap.size w (W.putObj D o):=
 h.trans ((Below.refl _ W).grown (grownBy_putObj' W D o) (by have:=lt_of_some hK;omega) (fun k e=>by cases e;omega))
theorem stop_keepsF {W W1:World} {B b k:Nat} (h:KeepsFrom B W W1):KeepsFrom B W (stopW W1 b k):=by
 unfold stopW endW;exact h.trans (((((KeepsOthers.setCell _ _ _).trans (KeepsOthers.setCell _ _ _)).trans (KeepsOthers.setCell _ _ _)).trans (KeepsOthers.setCell _ _ _)).trans (KeepsOthers.setCell _ _ _) |>.from B)
theorem PE.drew {w W:World} {s:ByteArray} {lns:List Ln} {b k:Nat} (h:PE w s lns b k W):PE w s lns b k W.drew:=by
 obtain⟨cs,hc⟩:=h.b6;obtain⟨c7,hc7⟩:=h.b7;obtain⟨c8,hc8⟩:=h.b8;exact⟨h.wb,h.px.below (Below.refl _ _).drew,h.b0.drew,h.b1.drew,h.b2.drew,h.b3.drew,h.b5.drew,⟨cs,hc.drew⟩,⟨c7,hc7.drew⟩,⟨c8,hc8.drew⟩⟩
theorem uParse_in (s:ByteArray) (lns:List Ln) (w:World) (hL:LaidK w) (hok:LinesOk s lns) (hF:FineL (lawOf lns)) (hT:checkL (lawOf lns)=0->FineT (lawOf lns)/\textL (lawOf lns)≠[]/\(textL (lawOf lns)).length<=1000000000000):
  CallsIn Fence.wide 6 Tryz.prog 12 #[.string s] w (RetP (parseR s lns) w):=by
 have HLK:Hid (∀W,Below w.heap.size w W->LaidK W):=fun W hb=>hL.below hb
 have HOK:=zH hok;have HFL:=zH hF;have HTT:=zH hT;have HSQ:Hid (∀(W:World) (k:Nat),CallsIn Fence.wide k Tryz.prog 32 #[.string s,.string ⟨#[10]⟩] W _):=fun W k=>(callsIn_wide (n:=k)).2 (splitSeq_any s W)
 clear hL hok hF hT;refine callsIn_of_wp_marks Tryz.func12 rfl trivial ?_ rfl;simp only[Tryz.ntmps12,List.size_toArray,List.length_cons,List.length_nil,Nat.reduceAdd,Nat.reduceSub,Array.replicate_succ,Array.replicate_zero,List.push_toArray,List.append_toArray,List.nil_append,List.cons_append]
 gi_wp2_with fail
 obtain⟨W6,hW6⟩:=zE ((((((w.alloc (.cells #[.string s] 9)).alloc (.cells #[.slice none 0 0,.slice none 0 0,.slice none 0 0] 28)).alloc (.cells #[.int .i64 0] 3)).alloc (.cells #[.int .i64 0] 46)).alloc (.cells #[.slice none 0 0,.slice none 0 0,.slice none 0 0] 28)).alloc (.cells #[.int .i64 0] 3));simp only[<-hW6]
 refine⟨trivial,?_⟩;refine (HSQ.out W6 _).mono ?_;rintro e W9 ⟨rfl,hW9⟩;obtain⟨hpn,hs6⟩:=pn_new s w W6 W9 hW6 hW9;have HPN:=zH hpn;obtain⟨b,hb⟩:=zE w.heap.size;rw[<-hb] at hs6 HPN;have HBW:=zH hb;simp only[hs6,<-hb,Nat.add_assoc,Nat.reduceAdd]
 clear hW6 hW9 hpn hs6 hb HSQ
 gi_wp2_with fail
 obtain⟨K,HKI⟩:∃K:Nat->Prop,Hid (∀k,K k↔(k<b∨k=b+7∨k=b+8)):=⟨_,fun _=>Iff.rfl⟩
 have hsz:=HOK.out.size
 refine wpIn_rangeFunc_K rfl (by omega) (gf:=127) (lb:=#[.pointer (some ⟨b+7,0,none⟩),.pointer (some ⟨b+6,0,none⟩),.pointer (some ⟨b+8,0,none⟩)]) rfl trivial (enters_of Tryz.func127 (by kernel_rfl) rfl)
  (enc:=fun x:ByteArray=>.string x) (b:=b+6) (K:=K) (by rw[HPN.out.size];omega) (fun k hk=>by rw[HPN.out.size];have:=(HKI.out k).1 hk;omega)
  (splitSeq1_K 5 (by omega) (b+7) (b+6) (b+8) (by omega) (by omega) K ((HKI.out _).2 (by omega)) ((HKI.out _).2 (by omega)) s W9 HPN.out.b7 HPN.out.b6 HPN.out.b8 (by omega) ?maxlen (fun h=>by have:=(HKI.out _).1 h;omega)) rfl
  (fun pre W=>PI w s lns b pre.length W) (fun _ W=>PJ w s b W) (fun pre X Y h hq=>h.stq hq (by rw[HBW.out];exact Nat.le_refl _) HPN.out.bl.size) (fun pre X Y h hq=>h.stq hq (by rw[HBW.out];exact Nat.le_refl _) HPN.out.bl.size) ?start
  (fun x=>{tmps:=#[.string s,.pointer (some ⟨b,0,none⟩),.pointer (some ⟨b+1,0,none⟩),.pointer (some ⟨b+2,0,none⟩),.pointer (some ⟨b+3,0,none⟩),.pointer (some ⟨b+4,0,none⟩),.pointer (some ⟨b+5,0,none⟩),.string x,undef,undef,undef,.string s,.func (.func 127) #[] #[.pointer (some ⟨b+7,0,none⟩),.pointer (some ⟨b+6,0,none⟩),.pointer (some ⟨b+8,0,none⟩)],.string x,undef,undef,undef,undef,undef,undef,undef,undef,undef,undef,undef,undef,undef,undef,undef,undef,undef,undef,undef,undef,undef,undef,undef,undef,undef,undef,undef,undef,undef,undef,undef,undef,undef,undef,undef,undef,undef,undef,undef],defers:=[]}) ?assign ?body ?done ?stop
 case maxlen=>
  intro W hk;obtain⟨m,hm⟩:=(HLK.out w (Below.refl _ _)).e.base.cut.2;refine⟨m,cell_kept hm fun o ho=>?_⟩;have h2:2<w.heap.size:=lt_of_some ho;exact hk.same 2 o ((HPN.out.bl.block 2 h2).trans ho) ((HKI.out 2).2 (.inl (by rw[HBW.out];exact h2)))
 case start=>
  exact⟨PT.fresh HPN.out.b4 HPN.out.bl (by rw[HBW.out];omega),HPN.out.b0,HPN.out.b1,HPN.out.b2,HPN.out.b3,HPN.out.b5,⟨_,HPN.out.b6⟩,⟨_,HPN.out.b7⟩,⟨_,HPN.out.b8⟩,(fun h=>by simp at h)⟩
 case assign=>
  intro l x W K' hK'
  gi_wp2
  exact hK'
 case body=>
  intro l pre x W hI hNx;have hlx:(linesB s)[pre.length]?=some x:=by obtain⟨h',e⟩:=lines_at hNx;rw[List.getElem?_eq_getElem h',e]
  have hll:=linesB_len s.size s (Nat.le_refl _);have hpl:(pre++[x]).length=pre.length+1:=by simp
  have hmx:=HOK.out.max;have hnl:=HOK.out.n;obtain⟨k,hkk⟩:=zF pre.length;have hI:PI w s lns b pre.length W:=hI;rw[hkk] at hI hlx;have HPL:Hid ((pre++[x]).length=k+1):=by show _=_;rw[hpl,hkk]
  have hklt:k<(linesB s).length:=(List.getElem?_eq_some_iff.1 hlx).1;have HLX:=zH hlx;clear hNx hpl hsz hkk hlx;have HI:=zH hI;have hk1:(k:Int)<=600:=by omega
  have hc5:=hI.b5.cells;have hf5:=hI.b5.froz;have hc0:=hI.b0.cells;have h05:¬b=b+5:=by omega
  clear hI
  gi_wp2_with fail
  have HE1:Hid (PE w s lns b k (W.setCell ⟨b+5,0,none⟩ (.int .i64 ((k:Int)+1)))):=HI.out.step HBW.out.symm;have HS1:Hid (∀(q:Nat) (o:Obj),W.heap[q]?=some o->q≠b+5->(W.setCell ⟨b+5,0,none⟩ (.int .i64 ((k:Int)+1))).heap[q]?=some o):=fun q o h1 h2=>(Below.heap_setCell W ⟨b+5,0,none⟩ _ q h2).trans h1
  have HZ1:Hid (W.heap.size<=(W.setCell ⟨b+5,0,none⟩ (.int .i64 ((k:Int)+1))).heap.size):=by show _<=_;simp[World.setCell]
  generalize W.setCell ⟨b+5,0,none⟩ (.int .i64 ((k:Int)+1))=W1 at*;clear hc5 hf5 hc0;have hc5:=HE1.out.b5.cells;have hc0:=HE1.out.b0.cells
  have HCN:Hid (∀(W':World) (m:Nat),Below w.heap.size w W'->CallsIn Fence.wide m Tryz.prog 33 #[.string s,.string ⟨#[10]⟩] W' fun e w'=>e=.returned (.int .i64 (cntL s))/\w'=W'):=fun W' m hb=>by
   obtain⟨mm,hm⟩:=(HLK.out W' hb).e.base.cut.2;exact (callsIn_wide (n:=m)).2 (Tryz.strings_Count_any s ⟨#[10]⟩ mm W' (by have:=HOK.out.size;omega) hm (by decide))
  have HB1:=zH HE1.out.px.bl;have hcn6:(cntL s:Int)<=600:=by omega
  by_cases hkc:k<cntL s
  ·have hle:(k:Int)+1<=(cntL s:Int):=by omega
   have hnl2:k<lns.length:=by omega
   obtain⟨lnx,hlnx⟩:∃q,lns[k]=q:=⟨_,rfl⟩
   have HLO:Hid (LineOk x lnx):=by
    have h1:=HOK.out.ok k hnl2 hklt;have h2:(linesB s)[k]=x:=(List.getElem?_eq_some_iff.1 HLX.out).2;rw[h2,hlnx] at h1;exact h1
   have hle3:=lawOf_len (lns.take k);have htl:(lns.take k).length<=500:=by rw[List.length_take];omega
   have HLN:Hid (∀m,CallsIn Fence.wide m Tryz.prog 34 #[.pointer (some ⟨b+4,0,none⟩),.string x] W1.drew fun e w'=>e=.returned (.bool true)/\PX w w' (b+4) ((lawOf (lns.take k)).add lnx)/\FR (b+4) W1.drew w'):=fun m=>
    (callsIn_wide (n:=m)).2 (line_any w W1.drew (b+4) (lawOf (lns.take k)) x lnx (HE1.out.px.below (Below.refl _ _).drew) (HLK.out _ HB1.out.drew) (by omega) (by omega) (by omega) HLO.out)
   have HLW:Hid ((lawOf (lns.take k)).add lnx=lawOf (lns.take (k+1))):=by show _=_;rw[List.take_succ_eq_append_getElem hnl2,lawOf_snoc,hlnx]
   have HKC:=zH hkc;clear hle3 htl hkc hlnx;have hkn:¬(k:Int)+1>(cntL s:Int):=by omega
   have hmix:Tryz.prog.follows .mixedOrders=true:=by kernel_rfl
   refine Code.wpIn_mono (Q:=fun e a w'=>e=.normal/\a=({tmps:=#[.string s,.pointer (some ⟨b,0,none⟩),.pointer (some ⟨b+1,0,none⟩),.pointer (some ⟨b+2,0,none⟩),.pointer (some ⟨b+3,0,none⟩),.pointer (some ⟨b+4,0,none⟩),.pointer (some ⟨b+5,0,none⟩),.string x,undef,undef,undef,.string s,.func (.func 127) #[] #[.pointer (some ⟨b+7,0,none⟩),.pointer (some ⟨b+6,0,none⟩),.pointer (some ⟨b+8,0,none⟩)],.string x,.int .i64 (k:Int),.int .i64 ((k:Int)+1),.int .i64 ((k:Int)+1),.string s,.int .i64 (cntL s:Int),.bool true,.bool true,.string x,.bool true,.bool false,.bool false,.bool false,.int .i64 ((k:Int)+1),.string s,.int .i64 (cntL s:Int),.bool false,.bool false,undef,undef,.bool false,.bool false,undef,undef,undef,undef,undef,undef,undef,undef,undef,undef,undef,undef,undef,undef,undef,undef,undef,undef],defers:=[]}:Act)/\PX w w' (b+4) ((lawOf (lns.take k)).add lnx)/\FR (b+4) W1.drew w') ?_ ?_
   ·rintro e a w2 ⟨rfl,rfl,hpx2,hfr2⟩
    gi_wp2
    refine⟨PE.keepsF HI.out HS1.out HZ1.out hfr2 _,PE.keepsK HBW.out.symm HKI.out HI.out HS1.out HZ1.out hpx2 hfr2,?_⟩;show PI w s lns b (pre++[x]).length _;rw[HPL.out];exact HE1.out.next hpx2 HLW.out hfr2 (fun h=>by have:=HKC.out;omega)
   ·gi_region_with_o (first
     |(refine⟨trivial,?_⟩;gi_at_call 33;refine (CallsIn.inRound l (HCN.out _ _ (by first|exact HB1.out.drew|exact HB2.out))).mono ?_;rintro e w' ⟨rfl,rfl⟩)
     |(refine⟨trivial,?_⟩;gi_at_call 34;refine (CallsIn.inRound l (HLN.out _)).mono ?_;rintro e w2 ⟨rfl,hpx2,hfr2⟩;have HB2:=zH hpx2.bl;have HPX2:=zH hpx2;have HFR2:=zH hfr2;clear hpx2 hfr2;have hd5:=(HE1.out.fr5 HFR2.out).cells;have hd0:=(HE1.out.fr0 HFR2.out).cells))
    all_goals exact⟨rfl,rfl,HPX2.out,HFR2.out⟩
  ·have hkc':k=cntL s:=by omega
   have hxl:x=lastB s:=by
    subst hkc';have h1:=last_at hklt;have h2:=(List.getElem?_eq_some_iff.1 HLX.out).2;exact h2.symm.trans h1
   have hgt:(cntL s:Int)<(k:Int)+1:=by omega
   have hnle:¬(k:Int)+1<=(cntL s:Int):=by omega
   have hmix:Tryz.prog.follows .mixedOrders=true:=by kernel_rfl
   have HLT:Hid (lawOf (lns.take k)=lawOf (lns.take (k+1))):=by show _=_;rw[List.take_of_length_le (by omega),List.take_of_length_le (by omega)]
   have HPXd:Hid (PX w W1.drew (b+4) (lawOf (lns.take k))):=HE1.out.px.below (Below.refl _ _).drew;have HFRd:Hid (FR (b+4) W1.drew W1.drew):=FR.below (Below.refl _ _);by_cases hx0:lastB s=⟨#[]⟩
   ·have hx1:x=⟨#[]⟩:=hxl.trans hx0;subst hx1;have HX0:=zH hx0;clear hxl hx0 hkc' HLX;refine Code.wpIn_mono (Q:=fun e a w'=>e=.normal/\a=({tmps:=#[.string s,.pointer (some ⟨b,0,none⟩),.pointer (some ⟨b+1,0,none⟩),.pointer (some ⟨b+2,0,none⟩),.pointer (some ⟨b+3,0,none⟩),.pointer (some ⟨b+4,0,none⟩),.pointer (some ⟨b+5,0,none⟩),.string ⟨#[]⟩,undef,undef,undef,.string s,.func (.func 127) #[] #[.pointer (some ⟨b+7,0,none⟩),.pointer (some ⟨b+6,0,none⟩),.pointer (some ⟨b+8,0,none⟩)],.string ⟨#[]⟩,.int .i64 (k:Int),.int .i64 ((k:Int)+1),.int .i64 ((k:Int)+1),.string s,.int .i64 (cntL s:Int),.bool false,.bool false,undef,undef,undef,.bool false,.bool false,.int .i64 ((k:Int)+1),.string s,.int .i64 (cntL s:Int),.bool true,.bool true,.string ⟨#[]⟩,.bool false,.bool false,.bool false,undef,undef,undef,undef,undef,undef,undef,undef,undef,undef,undef,undef,undef,undef,undef,undef,undef,undef],defers:=[]}:Act)/\w'=W1.drew) ?_ ?_
    ·rintro e a w2 ⟨rfl,rfl,rfl⟩
     gi_wp2
     refine⟨PE.keepsF HI.out HS1.out HZ1.out HFRd.out _,PE.keepsK HBW.out.symm HKI.out HI.out HS1.out HZ1.out HPXd.out HFRd.out,?_⟩;show PI w s lns b (pre++[_]).length _;rw[HPL.out];exact HE1.out.next HPXd.out HLT.out HFRd.out (fun _=>HX0.out)
    ·gi_region_with_o (first|(refine⟨trivial,?_⟩;gi_at_call 33;refine (CallsIn.inRound l (HCN.out _ _ HB1.out.drew)).mono ?_;rintro e w' ⟨rfl,rfl⟩)|refine⟨trivial,?_⟩)
     all_goals exact⟨rfl,rfl,rfl⟩
   ·have HX0:=zH hx0;have HKE:=zH hkc'
    have hne:(x.toList==[])=false:=by
     rw[beq_eq_false_iff_ne];intro h;refine hx0 (hxl.symm.trans ?_);rw[ByteArray.toList_eq] at h;cases x with|mk d=>cases d with|mk l=>cases h;rfl
    clear hxl hx0 hkc' HLX;refine Code.wpIn_mono (Q:=fun e a w'=>e=.normal/\a=({tmps:=#[.string s,.pointer (some ⟨b,0,none⟩),.pointer (some ⟨b+1,0,none⟩),.pointer (some ⟨b+2,0,none⟩),.pointer (some ⟨b+3,0,none⟩),.pointer (some ⟨b+4,0,none⟩),.pointer (some ⟨b+5,0,none⟩),.string x,undef,undef,undef,.string s,.func (.func 127) #[] #[.pointer (some ⟨b+7,0,none⟩),.pointer (some ⟨b+6,0,none⟩),.pointer (some ⟨b+8,0,none⟩)],.string x,.int .i64 (k:Int),.int .i64 ((k:Int)+1),.int .i64 ((k:Int)+1),.string s,.int .i64 (cntL s:Int),.bool false,.bool false,undef,undef,undef,.bool false,.bool false,.int .i64 ((k:Int)+1),.string s,.int .i64 (cntL s:Int),.bool true,.bool true,.string x,.bool true,.bool true,.bool true,undef,undef,undef,undef,undef,undef,undef,undef,undef,undef,undef,undef,undef,undef,undef,undef,undef,undef],defers:=[]}:Act)/\w'=W1.drew) ?_ ?_
    ·rintro e a w2 ⟨rfl,rfl,rfl⟩;clear HCN;have hr1:=HE1.out.b1.cells;have hg1:=HE1.out.b1.froz;have hr2:=HE1.out.b2.cells;have hg2:=HE1.out.b2.froz;have hr3:=HE1.out.b3.cells;have hg3:=HE1.out.b3.froz;have n12:¬b+1=b+2:=by omega
     have n13:¬b+1=b+3:=by omega
     have n23:¬b+2=b+3:=by omega
     have n21:¬b+2=b+1:=by omega
     have n31:¬b+3=b+1:=by omega
     have n32:¬b+3=b+2:=by omega
     gi_wp2_with fail
     gi_region_with_o (fail)
     all_goals gi_wp2
     all_goals exact (show postK _ _ _ _ _ _ Exit.ret _ (stopW W1.drew.drew b k) from⟨stop_keepsF (PE.keepsF HI.out HS1.out HZ1.out (FR.below (Below.refl _ _).drew) _),HE1.out.drew.drew.stop HKE.out HX0.out⟩)
    ·gi_region_with_o (first|(refine⟨trivial,?_⟩;gi_at_call 33;refine (CallsIn.inRound l (HCN.out _ _ HB1.out.drew)).mono ?_;rintro e w' ⟨rfl,rfl⟩)|refine⟨trivial,?_⟩)
     all_goals exact⟨rfl,rfl,rfl⟩
 case done=>
  rintro D xs W hD rfl hI hK;have hll:=linesB_len s.size s (Nat.le_refl _);rw[hll] at hI;have hl0:=hI.last rfl;have htk:lns.take (cntL s+1)=lns:=List.take_of_length_le (by rw[HOK.out.n];omega);obtain⟨ss,ps,fv,sv,pv,hPT⟩:=hI.px;rw[htk] at hPT;obtain⟨f,sc,p,rfl,rfl,rfl,hlaw⟩:=hPT.law;have hDs:b+9<=D:=by rw[<-HPN.out.size];exact hD
  have HDS:Hid (b+9<=D):=hDs;have HPT:=zH hPT;have HBL:=zH hPT.bl;have HCK:Hid (∀m,CallsIn Fence.wide m Tryz.prog 10 #[.agg #[.slice f.a f.n f.c,.slice sc.a sc.n sc.c,.slice p.a p.n p.c]] W fun e w'=>e=.returned (.int .i64 (checkL (lawOf lns)))/\Below W.heap.size W w'):=fun m=>(callsIn_wide (n:=m)).2 (uCheck_any _ _ _ f sc p W (HLK.out _ hPT.bl) hlaw HFL.out)
  have HTX:Hid (∀m W',Below W.heap.size W W'->CallsIn Fence.wide m Tryz.prog 11 #[.agg #[.slice f.a f.n f.c,.slice sc.a sc.n sc.c,.slice p.a p.n p.c]] W' fun e w'=>e=.returned (textR0 (lawOf lns))/\Below W'.heap.size W' w'):=fun m W' hb=>(callsIn_wide (n:=m)).2 (uText_any _ _ _ f sc p W' (HLK.out _ (bstep HBL.out hb)) (hlaw.below hb) HFL.out HTT.out)
  have HPR:Hid (parseR s lns=if checkL (lawOf lns)≠0 then (⟨[],[],[]⟩,0,checkL (lawOf lns)) else if (⟨(textL (lawOf lns)).toArray⟩:ByteArray)≠s then (⟨[],[],[]⟩,0,11) else (lawOf lns,0,0)):=by show _=_;unfold parseR;rw[if_neg (fun h=>h hl0)]
  have HR1:=zH hI.b1;have HR2:=zH hI.b2;have HR3:=zH hI.b3;have HR0:=zH hI.b0;have HKD:=zH hK;have hc4:=hPT.blk.cells;unfold textR0 at HTX;obtain⟨z,hz⟩:=zF (checkL (lawOf lns));obtain⟨T,hT⟩:=zF ((⟨(textL (lawOf lns)).toArray⟩:ByteArray));rw[hz] at HCK;rw[hz,hT] at HPR;simp only[hz] at HTX;clear hz;clear hll hl0 htk hPT hlaw hDs hI hK HTT
  gi_wp2_with fail
  refine⟨trivial,?_⟩;refine (HCK.out _).mono ?_;rintro e w2 ⟨rfl,hb2⟩;have hr1:=(HR1.out.below hb2 HR1.out.lt).cells;have hg1:=(HR1.out.below hb2 HR1.out.lt).froz;have hr2:=(HR2.out.below hb2 HR2.out.lt).cells;have hg2:=(HR2.out.below hb2 HR2.out.lt).froz;have hr3:=(HR3.out.below hb2 HR3.out.lt).cells;have hg3:=(HR3.out.below hb2 HR3.out.lt).froz;have HB2:=zH hb2;have n12:¬b+1=b+2:=by omega
  have n13:¬b+1=b+3:=by omega
  have n23:¬b+2=b+3:=by omega
  have n21:¬b+2=b+1:=by omega
  have n31:¬b+3=b+1:=by omega
  have n32:¬b+3=b+2:=by omega
  clear hb2 hc4;by_cases hz0:z=0
  ·subst hz0;rw[if_neg (fun h=>h rfl)] at HPR;simp only[if_true,hT] at HTX;have hc4:=(HPT.out.blk.below HB2.out HPT.out.blk.lt).cells;clear hr1 hg1 hr2 hg2 hr3 hg3
   gi_wp2_with fail
   refine⟨trivial,?_⟩;refine (HTX.out _ _ HB2.out).mono ?_;rintro e w3 ⟨rfl,hb3⟩;have HB3:=zH (bstep HB2.out hb3);have hr1:=(HR1.out.below HB3.out HR1.out.lt).cells;have hg1:=(HR1.out.below HB3.out HR1.out.lt).froz;have hr2:=(HR2.out.below HB3.out HR2.out.lt).cells;have hg2:=(HR2.out.below HB3.out HR2.out.lt).froz;have hr3:=(HR3.out.below HB3.out HR3.out.lt).cells;have hg3:=(HR3.out.below HB3.out HR3.out.lt).froz;have hc4:=(HPT.out.blk.below HB3.out HPT.out.blk.lt).cells;have hc0:=(HR0.out.below HB3.out HR0.out.lt).cells;clear hb3;by_cases hTs:T=s
   ·rw[if_neg (fun h=>h hTs)] at HPR;obtain rfl:=hTs;clear hT
    gi_wp2
    have hKE:(endW w3 b (.slice f.a f.n f.c) (.slice sc.a sc.n sc.c) (.slice p.a p.n p.c) (.int .i64 0) (.int .i64 0)).heap[D]?=some (.deferred (some [])):=(endW_other w3 b (.slice f.a f.n f.c) (.slice sc.a sc.n sc.c) (.slice p.a p.n p.c) (.int .i64 0) (.int .i64 0) D (by have:=HDS.out;omega) (by have:=HDS.out;omega) (by have:=HDS.out;omega)).trans ((HB3.out.block D (lt_of_some HKD.out)).trans HKD.out);refine⟨by simp,.inl ⟨_,_,rfl,run_takeDeferred hKE,?_⟩⟩;obtain⟨e1,e2,e3⟩:=endW_blk (.slice f.a f.n f.c) (.slice sc.a sc.n sc.c) (.slice p.a p.n p.c) (.int .i64 0) (.int .i64 0) (HR1.out.below HB3.out HR1.out.lt) (HR2.out.below HB3.out HR2.out.lt) (HR3.out.below HB3.out HR3.out.lt);have c1:=(put_blk (o:=.deferred none) e1 (show b+1≠D by have:=HDS.out;omega)).cells;have c2:=(put_blk (o:=.deferred none) e2 (show b+2≠D by have:=HDS.out;omega)).cells;have c3:=(put_blk (o:=.deferred none) e3 (show b+3≠D by have:=HDS.out;omega)).cells;unfold endW at c1 c2 c3;have hbE:Below w.heap.size w ((endW w3 b (.slice f.a f.n f.c) (.slice sc.a sc.n sc.c) (.slice p.a p.n p.c) (.int .i64 0) (.int .i64 0)).putObj D (.deferred none)):=put_below (endW_below (bstep HBL.out HB3.out) HBW.out.symm _ _ _ _ _) (by have h1:=HDS.out;have h2:=HBW.out;omega) hKE;refine⟨.tuple #[.agg #[.slice f.a f.n f.c,.slice sc.a sc.n sc.c,.slice p.a p.n p.c],.int .i64 0,.int .i64 0],by simp[results,Tryz.results12,go_sem,c1,c2,c3],?_⟩
    have hPE:=(HPT.out.below HB3.out).up hbE (fun k cs t fr hk hh=>(World.putObj_heap_other (by
     rintro rfl;have h1:=(HB3.out.block k (lt_of_some HKD.out)).trans HKD.out;rw[hh] at h1;injection h1 with h1;cases h1)).trans ((endW_other w3 b _ _ _ _ _ k (by omega) (by omega) (by omega)).trans hh))
    obtain⟨f',sc',p',q1,q2,q3,hlw⟩:=hPE.law;refine⟨f',sc',p',ss,ps,?_,by rw[HPR.out];exact hlw,hbE⟩;rw[HPR.out,q1,q2,q3];rfl
   ·rw[if_pos hTs] at HPR
    have hne:(T.toList==s.toList)=false:=by
     rw[beq_eq_false_iff_ne];intro h;rw[ByteArray.toList_eq,ByteArray.toList_eq] at h;refine hTs ?_;cases T with|mk d=>cases s with|mk d'=>cases d with|mk l=>cases d' with|mk l'=>cases h;rfl
    clear hT hTs
    gi_wp2
    have hKE:(endW w3 b (.slice none 0 0) (.slice none 0 0) (.slice none 0 0) (.int .i64 0) (.int .i64 11)).heap[D]?=some (.deferred (some [])):=(endW_other w3 b (.slice none 0 0) (.slice none 0 0) (.slice none 0 0) (.int .i64 0) (.int .i64 11) D (by have:=HDS.out;omega) (by have:=HDS.out;omega) (by have:=HDS.out;omega)).trans ((HB3.out.block D (lt_of_some HKD.out)).trans HKD.out);refine⟨by simp,.inl ⟨_,_,rfl,run_takeDeferred hKE,?_⟩⟩;obtain⟨e1,e2,e3⟩:=endW_blk (.slice none 0 0) (.slice none 0 0) (.slice none 0 0) (.int .i64 0) (.int .i64 11) (HR1.out.below HB3.out HR1.out.lt) (HR2.out.below HB3.out HR2.out.lt) (HR3.out.below HB3.out HR3.out.lt);have c1:=(put_blk (o:=.deferred none) e1 (show b+1≠D by have:=HDS.out;omega)).cells;have c2:=(put_blk (o:=.deferred none) e2 (show b+2≠D by have:=HDS.out;omega)).cells;have c3:=(put_blk (o:=.deferred none) e3 (show b+3≠D by have:=HDS.out;omega)).cells;unfold endW at c1 c2 c3;have hbE:Below w.heap.size w ((endW w3 b (.slice none 0 0) (.slice none 0 0) (.slice none 0 0) (.int .i64 0) (.int .i64 11)).putObj D (.deferred none)):=put_below (endW_below (bstep HBL.out HB3.out) HBW.out.symm _ _ _ _ _) (by have h1:=HDS.out;have h2:=HBW.out;omega) hKE;refine⟨.tuple #[.agg #[.slice none 0 0,.slice none 0 0,.slice none 0 0],.int .i64 0,.int .i64 11],by simp[results,Tryz.results12,go_sem,c1,c2,c3],?_⟩;refine⟨⟨none,0,0⟩,⟨none,0,0⟩,⟨none,0,0⟩,[],[],?_,?_,hbE⟩
    ·rw[HPR.out];rfl
    ·rw[HPR.out];exact LawAt.empty _
  ·rw[if_pos hz0] at HPR
   gi_wp2
   have hKE:(endW w2 b (.slice none 0 0) (.slice none 0 0) (.slice none 0 0) (.int .i64 0) (.int .i64 z)).heap[D]?=some (.deferred (some [])):=(endW_other w2 b (.slice none 0 0) (.slice none 0 0) (.slice none 0 0) (.int .i64 0) (.int .i64 z) D (by have:=HDS.out;omega) (by have:=HDS.out;omega) (by have:=HDS.out;omega)).trans ((HB2.out.block D (lt_of_some HKD.out)).trans HKD.out);refine⟨by simp,.inl ⟨_,_,rfl,run_takeDeferred hKE,?_⟩⟩;obtain⟨e1,e2,e3⟩:=endW_blk (.slice none 0 0) (.slice none 0 0) (.slice none 0 0) (.int .i64 0) (.int .i64 z) (HR1.out.below HB2.out HR1.out.lt) (HR2.out.below HB2.out HR2.out.lt) (HR3.out.below HB2.out HR3.out.lt);have c1:=(put_blk (o:=.deferred none) e1 (show b+1≠D by have:=HDS.out;omega)).cells;have c2:=(put_blk (o:=.deferred none) e2 (show b+2≠D by have:=HDS.out;omega)).cells;have c3:=(put_blk (o:=.deferred none) e3 (show b+3≠D by have:=HDS.out;omega)).cells;unfold endW at c1 c2 c3;have hbE:Below w.heap.size w ((endW w2 b (.slice none 0 0) (.slice none 0 0) (.slice none 0 0) (.int .i64 0) (.int .i64 z)).putObj D (.deferred none)):=put_below (endW_below (bstep HBL.out HB2.out) HBW.out.symm _ _ _ _ _) (by have h1:=HDS.out;have h2:=HBW.out;omega) hKE;refine⟨.tuple #[.agg #[.slice none 0 0,.slice none 0 0,.slice none 0 0],.int .i64 0,.int .i64 z],by simp[results,Tryz.results12,go_sem,c1,c2,c3],?_⟩;refine⟨⟨none,0,0⟩,⟨none,0,0⟩,⟨none,0,0⟩,[],[],?_,?_,hbE⟩
   ·rw[HPR.out];rfl
   ·rw[HPR.out];exact LawAt.empty _
 case stop=>
  rintro D pre W hD _ hJ hK;have c1:=hJ.b1.cells;have c2:=hJ.b2.cells;have c3:=hJ.b3.cells
  gi_wp2
  refine⟨by simp,.inl ⟨_,_,rfl,run_takeDeferred hK,?_⟩⟩;have hDs:=HPN.out.size;have c1:=(put_blk (o:=.deferred none) hJ.b1 (show b+1≠D by omega)).cells;have c2:=(put_blk (o:=.deferred none) hJ.b2 (show b+2≠D by omega)).cells;have c3:=(put_blk (o:=.deferred none) hJ.b3 (show b+3≠D by omega)).cells;refine⟨.tuple #[.agg #[.slice none 0 0,.slice none 0 0,.slice none 0 0],.int .i64 ((cntL s:Int)+1),.int .i64 11],by simp[results,Tryz.results12,go_sem,c1,c2,c3],?_⟩;refine⟨⟨none,0,0⟩,⟨none,0,0⟩,⟨none,0,0⟩,[],[],?_,?_,put_below hJ.bl (by have:=HBW.out;omega) hK⟩
  ·unfold parseR lawV;rw[if_pos hJ.ne]
  ·unfold parseR;rw[if_pos hJ.ne];exact LawAt.empty _
end Go.Proofs.YtimokmplkpbmdaaGreatDoor
namespace Go.Proofs.YtimokmplkpbmdaaGreatDoor
open Go.RowKit
instance (a:Ra):Decidable (FineR a):=by unfold FineR;infer_instance
instance (b:Bk):Decidable (FineB b):=by unfold FineB;infer_instance
instance (n:Nd):Decidable (Fine n):=by unfold Fine;infer_instance
def sanB1:List Nd:=[⟨5,⟨false,⟨#[]⟩,⟨#[]⟩⟩,⟨#[115,105,110,103,108,101]⟩⟩,⟨1,⟨false,⟨#[100]⟩,⟨#[1]⟩⟩,⟨#[]⟩⟩,⟨6,⟨false,⟨#[]⟩,⟨#[]⟩⟩,⟨#[116,97,120]⟩⟩,⟨3,⟨false,⟨#[4]⟩,⟨#[1]⟩⟩,⟨#[]⟩⟩,⟨12,⟨false,⟨#[]⟩,⟨#[]⟩⟩,⟨#[]⟩⟩,⟨15,⟨false,⟨#[]⟩,⟨#[]⟩⟩,⟨#[]⟩⟩]
def sanB2:List Nd:=[⟨5,⟨false,⟨#[]⟩,⟨#[]⟩⟩,⟨#[105,110,99,111,109,101]⟩⟩,⟨6,⟨false,⟨#[]⟩,⟨#[]⟩⟩,⟨#[97,105,100]⟩⟩,⟨10,⟨false,⟨#[]⟩,⟨#[]⟩⟩,⟨#[]⟩⟩,⟨24,⟨false,⟨#[]⟩,⟨#[]⟩⟩,⟨#[115,99,97,108,101]⟩⟩]
def sanF1:Dc:=⟨⟨#[105,110,99,111,109,101]⟩,⟨false,1,0⟩⟩
def sanF2:Dc:=⟨⟨#[115,105,110,103,108,101]⟩,⟨true,0,0⟩⟩
def sanS:Sc:=⟨⟨#[115,99,97,108,101]⟩,1,0,[⟨⟨false,⟨#[]⟩,⟨#[1]⟩⟩,⟨false,⟨#[1]⟩,⟨#[10]⟩⟩⟩,⟨⟨false,⟨#[3,232]⟩,⟨#[1]⟩⟩,⟨false,⟨#[1]⟩,⟨#[5]⟩⟩⟩]⟩
def sanP1:Pv:=⟨⟨#[97,105,100]⟩,⟨false,1,0⟩,false,⟨false,⟨#[10]⟩,⟨#[1]⟩⟩,⟨false,⟨#[1,244]⟩,⟨#[1]⟩⟩,sanB1⟩
def sanP2:Pv:=⟨⟨#[116,97,120]⟩,⟨false,1,0⟩,true,⟨false,⟨#[]⟩,⟨#[]⟩⟩,⟨false,⟨#[]⟩,⟨#[]⟩⟩,sanB2⟩
def sanP1h:Pv:=⟨⟨#[97,105,100]⟩,⟨false,1,0⟩,false,⟨false,⟨#[10]⟩,⟨#[1]⟩⟩,⟨false,⟨#[1,249]⟩,⟨#[1]⟩⟩,sanB1⟩
def sanP1z:Pv:=⟨⟨#[97,105,100]⟩,⟨false,1,0⟩,false,⟨false,⟨#[]⟩,⟨#[1]⟩⟩,⟨false,⟨#[1,244]⟩,⟨#[1]⟩⟩,sanB1⟩
def sanP2p:Pv:=⟨⟨#[116,97,120]⟩,⟨false,0,0⟩,true,⟨false,⟨#[]⟩,⟨#[]⟩⟩,⟨false,⟨#[]⟩,⟨#[]⟩⟩,sanB2⟩
def sanL:Lw:=⟨[sanF1,sanF2],[sanS],[sanP1,sanP2]⟩
def sanN:List Ln:=[.f sanF1,.f sanF2,.s sanS,.p sanP1,.p sanP2]
def sanT:ByteArray:=⟨(([102,97,99,116,32,105,110,99,111,109,101,32,109,49,100,48,10,102,97,99,116,32,115,105,110,103,108,101,32,116,114,117,116,104,10,115,99,104,101,100,117,108,101,32,115,99,97,108,101,32,109].append [49,100,48,58,32,48,32,49,47,49,48,44,32,49,48,48,48,32,49,47,53,10,112,114,111,118,105,115,105,111,110,32,97,105,100,32,109,49,100,48,32,115,116,101,112,32,49,48,32,99,97]).append ([112,32,53,48,48,58,32,105,102,40,102,97,99,116,46,115,105,110,103,108,101,44,32,36,49,48,48,44,32,100,105,118,40,111,119,110,46,116,97,120,44,32,52,41,41,10,112,114,111,118,105].append [115,105,111,110,32,116,97,120,32,109,49,100,48,32,99,104,97,114,103,101,58,32,114,97,116,101,46,115,99,97,108,101,40,115,117,98,40,102,97,99,116,46,105,110,99,111,109,101,44,32,111,119,110,46,97,105,100,41,41,10])).toArray⟩
def sanU:ByteArray:=⟨#[102,97,99,116,32,105,110,99,111,109,101,32,109,49,100,48,10,102,97,99,116,32,115,105,110,103,108,101,32,116,114,117,116,104,10,115,99,104,101,100,117,108,101,32,115,99,97,108,101,32,109,49,100,48,58,32,48,32,49,47,49,48,44,32,49,48,48,48,32,49,47,53,10,112,114,111,118,105,115,105,111,110,32,97,105,100,32,109,49,100,48,32,115,116,101,112,32,49,48,32,99,97,112,32,53,48,48,58,32,105,102,40,102,97,99,116,46,115,105,110,103,108,101,44,32,36,49,48,48,44,32,100,105,118,40,111,119,110,46,116,97,120,44,32,52,41,41,10,112,114,111,118,105,115,105,111,110,32,116,97,120,32,109,49,100,48,32,99,104,97,114,103,101,58,32,114,97,116,101,46,115,99,97,108,101,40,115,117,98,40,102,97,99,116,46,105,110,99,111,109,101,44,32,111,119,110,46,97,105,100,41,41]⟩
def sanV:ByteArray:=⟨([112,114,111,118,105,115,105,111,110,32,116,97,120,32,109,49,100,48,32,99,104,97,114,103,101,58,32,114,97,116,101,46].append [115,99,97,108,101,40,115,117,98,40,102,97,99,116,46,105,110,99,111,109,101,44,32,111,119,110,46,97,105,100,41,41,10]).toArray⟩
def sanW:ByteArray:=⟨#[102,97,99,116,32,115,105,110,103,108,101,32,116,114,117,116,104,10,102,97,99,116,32,105,110,99,111,109,101,32,109,49,100,48,10]⟩
theorem san_l1:LineOk ⟨#[102,97,99,116,32,105,110,99,111,109,101,32,109,49,100,48]⟩ (.f sanF1):=⟨⟨#[]⟩,⟨by decide,[102,97,99,116,32,105,110,99,111,109,101,32,109,49,100,48],by decide+kernel,by decide,by decide+kernel,by decide+kernel⟩,by decide+kernel,by decide+kernel⟩
theorem san_l2:LineOk ⟨#[102,97,99,116,32,115,105,110,103,108,101,32,116,114,117,116,104]⟩ (.f sanF2):=⟨⟨#[]⟩,⟨by decide,[102,97,99,116,32,115,105,110,103,108,101,32,116,114,117,116,104],by decide+kernel,by decide,by decide+kernel,by decide+kernel⟩,by decide+kernel,by decide+kernel⟩
theorem RestB.of {rest:ByteArray} {brs:List Bk} {ps:List ByteArray} (h1:rest.size<=1000000) (h2:piecesB rest=ps) (h3:Lib.countB rest ⟨#[44,32]⟩+1=brs.length) (h4:ps.length=brs.length) (h5:brs.length<=1000) (h6:∀i (h:i<brs.length) (h':i<ps.length),PieceB ps[i] brs[i]):RestB rest brs:=by
 subst h2;exact⟨h1,h3,h4,h5,h6⟩
theorem san_l3:LineOk ⟨#[115,99,104,101,100,117,108,101,32,115,99,97,108,101,32,109,49,100,48,58,32,48,32,49,47,49,48,44,32,49,48,48,48,32,49,47,53]⟩ (.s sanS):=by
 refine⟨⟨#[48,32,49,47,49,48,44,32,49,48,48,48,32,49,47,53]⟩,⟨by decide,[115,99,104,101,100,117,108,101,32,115,99,97,108,101,32,109,49,100,48],by decide+kernel,by decide,by decide+kernel,by decide+kernel⟩,by decide+kernel,by decide+kernel,RestB.of (ps:=[⟨#[48,32,49,47,49,48]⟩,⟨#[49,48,48,48,32,49,47,53]⟩]) (by decide) (by decide+kernel) (by decide+kernel) rfl (by decide) ?_⟩;intro i h h'
 match i with
 |0=>exact (show PieceB ⟨#[48,32,49,47,49,48]⟩ ⟨⟨false,⟨#[]⟩,⟨#[1]⟩⟩,⟨false,⟨#[1]⟩,⟨#[10]⟩⟩⟩ from⟨by decide,[48],[49,47,49,48],by decide+kernel,by decide,by decide,by decide+kernel,by decide+kernel⟩)
 |1=>exact (show PieceB ⟨#[49,48,48,48,32,49,47,53]⟩ ⟨⟨false,⟨#[3,232]⟩,⟨#[1]⟩⟩,⟨false,⟨#[1]⟩,⟨#[5]⟩⟩⟩ from⟨by decide,[49,48,48,48],[49,47,53],by decide+kernel,by decide,by decide,by decide+kernel,by decide+kernel⟩)
 |n+2=>exact absurd h' (by simp)
theorem san_l4:LineOk ⟨#[112,114,111,118,105,115,105,111,110,32,97,105,100,32,109,49,100,48,32,115,116,101,112,32,49,48,32,99,97,112,32,53,48,48,58,32,105,102,40,102,97,99,116,46,115,105,110,103,108,101,44,32,36,49,48,48,44,32,100,105,118,40,111,119,110,46,116,97,120,44,32,52,41,41]⟩ (.p sanP1):=⟨⟨#[105,102,40,102,97,99,116,46,115,105,110,103,108,101,44,32,36,49,48,48,44,32,100,105,118,40,111,119,110,46,116,97,120,44,32,52,41,41]⟩,true,⟨#[49,48]⟩,⟨#[53,48,48]⟩,⟨by decide,[112,114,111,118,105,115,105,111,110,32,97,105,100,32,109,49,100,48,32,115,116,101,112,32,49,48,32,99,97,112,32,53,48,48],by decide+kernel,by decide,by decide+kernel,by decide+kernel⟩,by decide+kernel,by decide+kernel,by decide,by decide+kernel,fun _=>⟨by decide,by decide,by decide+kernel,by decide+kernel⟩,fun h=>by cases h⟩
theorem san_l5:LineOk ⟨#[112,114,111,118,105,115,105,111,110,32,116,97,120,32,109,49,100,48,32,99,104,97,114,103,101,58,32,114,97,116,101,46,115,99,97,108,101,40,115,117,98,40,102,97,99,116,46,105,110,99,111,109,101,44,32,111,119,110,46,97,105,100,41,41]⟩ (.p sanP2):=⟨⟨#[114,97,116,101,46,115,99,97,108,101,40,115,117,98,40,102,97,99,116,46,105,110,99,111,109,101,44,32,111,119,110,46,97,105,100,41,41]⟩,false,⟨#[]⟩,⟨#[]⟩,⟨by decide,[112,114,111,118,105,115,105,111,110,32,116,97,120,32,109,49,100,48,32,99,104,97,114,103,101],by decide+kernel,by decide,by decide+kernel,by decide+kernel⟩,by decide+kernel,by decide+kernel,by decide,by decide+kernel,(fun h=>by cases h),fun _=>⟨rfl,rfl⟩⟩
theorem LinesOk.of {s:ByteArray} {lns:List Ln} {ls:List ByteArray} (h1:s.size<=1000000) (h2:linesB s=ls) (h3:lns.length=cntL s) (h4:lns.length<=500) (h5:∀i (h:i<lns.length) (h':i<ls.length),LineOk ls[i] lns[i]):LinesOk s lns:=by
 subst h2;exact⟨h1,h3,h4,h5⟩
theorem san_linesT:LinesOk sanT sanN:=by
 refine LinesOk.of (ls:=[⟨#[102,97,99,116,32,105,110,99,111,109,101,32,109,49,100,48]⟩,⟨#[102,97,99,116,32,115,105,110,103,108,101,32,116,114,117,116,104]⟩,⟨#[115,99,104,101,100,117,108,101,32,115,99,97,108,101,32,109,49,100,48,58,32,48,32,49,47,49,48,44,32,49,48,48,48,32,49,47,53]⟩,⟨#[112,114,111,118,105,115,105,111,110,32,97,105,100,32,109,49,100,48,32,115,116,101,112,32,49,48,32,99,97,112,32,53,48,48,58,32,105,102,40,102,97,99,116,46,115,105,110,103,108,101,44,32,36,49,48,48,44,32,100,105,118,40,111,119,110,46,116,97,120,44,32,52,41,41]⟩,⟨#[112,114,111,118,105,115,105,111,110,32,116,97,120,32,109,49,100,48,32,99,104,97,114,103,101,58,32,114,97,116,101,46,115,99,97,108,101,40,115,117,98,40,102,97,99,116,46,105,110,99,111,109,101,44,32,111,119,110,46,97,105,100,41,41]⟩,⟨#[]⟩]) (by decide+kernel) (by decide+kernel) (by decide+kernel) (by decide) ?_;intro i h h'
 match i with
 |0=>exact san_l1
 |1=>exact san_l2
 |2=>exact san_l3
 |3=>exact san_l4
 |4=>exact san_l5
 |n+5=>exact absurd h (by simp[sanN])
theorem san_linesU:LinesOk sanU [.f sanF1,.f sanF2,.s sanS,.p sanP1]:=by
 refine LinesOk.of (ls:=[⟨#[102,97,99,116,32,105,110,99,111,109,101,32,109,49,100,48]⟩,⟨#[102,97,99,116,32,115,105,110,103,108,101,32,116,114,117,116,104]⟩,⟨#[115,99,104,101,100,117,108,101,32,115,99,97,108,101,32,109,49,100,48,58,32,48,32,49,47,49,48,44,32,49,48,48,48,32,49,47,53]⟩,⟨#[112,114,111,118,105,115,105,111,110,32,97,105,100,32,109,49,100,48,32,115,116,101,112,32,49,48,32,99,97,112,32,53,48,48,58,32,105,102,40,102,97,99,116,46,115,105,110,103,108,101,44,32,36,49,48,48,44,32,100,105,118,40,111,119,110,46,116,97,120,44,32,52,41,41]⟩,⟨#[112,114,111,118,105,115,105,111,110,32,116,97,120,32,109,49,100,48,32,99,104,97,114,103,101,58,32,114,97,116,101,46,115,99,97,108,101,40,115,117,98,40,102,97,99,116,46,105,110,99,111,109,101,44,32,111,119,110,46,97,105,100,41,41]⟩]) (by decide+kernel) (by decide+kernel) (by decide+kernel) (by decide) ?_;intro i h h'
 match i with
 |0=>exact san_l1
 |1=>exact san_l2
 |2=>exact san_l3
 |3=>exact san_l4
 |n+4=>exact absurd h (by simp)
theorem san_linesV:LinesOk sanV [.p sanP2]:=by
 refine LinesOk.of (ls:=[⟨#[112,114,111,118,105,115,105,111,110,32,116,97,120,32,109,49,100,48,32,99,104,97,114,103,101,58,32,114,97,116,101,46,115,99,97,108,101,40,115,117,98,40,102,97,99,116,46,105,110,99,111,109,101,44,32,111,119,110,46,97,105,100,41,41]⟩,⟨#[]⟩]) (by decide+kernel) (by decide+kernel) (by decide+kernel) (by decide) ?_;intro i h h'
 match i with
 |0=>exact san_l5
 |n+1=>exact absurd h (by simp)
theorem san_linesW:LinesOk sanW [.f sanF2,.f sanF1]:=by
 refine LinesOk.of (ls:=[⟨#[102,97,99,116,32,115,105,110,103,108,101,32,116,114,117,116,104]⟩,⟨#[102,97,99,116,32,105,110,99,111,109,101,32,109,49,100,48]⟩,⟨#[]⟩]) (by decide+kernel) (by decide+kernel) (by decide+kernel) (by decide) ?_;intro i h h'
 match i with
 |0=>exact san_l2
 |1=>exact san_l1
 |n+2=>exact absurd h (by simp)
theorem san_law:lawOf sanN=sanL:=rfl
theorem san_chk:checkL sanL=0:=by decide+kernel
theorem san_txt:(⟨(textL sanL).toArray⟩:ByteArray)=sanT:=by decide+kernel
theorem san_txt0:textL sanL≠[]/\(textL sanL).length<=1000000000000:=by decide+kernel
theorem san_parT:parseR sanT sanN=(sanL,0,0):=by
 unfold parseR;rw[if_neg (by decide+kernel),san_law,san_chk,if_neg (by decide),san_txt,if_neg (fun h=>h rfl)]
theorem san_parU:parseR sanU [.f sanF1,.f sanF2,.s sanS,.p sanP1]=(⟨[],[],[]⟩,5,11):=by
 unfold parseR;rw[if_pos (by decide+kernel),show cntL sanU=4 by decide+kernel];rfl
theorem san_chkU:checkL (lawOf [.f sanF1,.f sanF2,.s sanS,.p sanP1])=12:=by decide+kernel
theorem san_chkV:checkL (lawOf [.p sanP2])=12:=by decide+kernel
theorem san_parV:parseR sanV [.p sanP2]=(⟨[],[],[]⟩,0,12):=by
 unfold parseR;rw[if_neg (by decide+kernel),san_chkV,if_pos (by decide)]
theorem san_chkW:checkL (lawOf [.f sanF2,.f sanF1])=11:=by decide+kernel
theorem san_parW:parseR sanW [.f sanF2,.f sanF1]=(⟨[],[],[]⟩,0,11):=by
 unfold parseR;rw[if_neg (by decide+kernel),san_chkW,if_pos (by decide)]
theorem san_twice:checkL ⟨[⟨⟨#[97,105,100]⟩,sanF1.ty⟩,sanF2],[sanS],[sanP1,sanP2]⟩=14:=by decide+kernel
theorem san_less:checkL ⟨[sanF1,sanF2],[sanS],[sanP2]⟩=12:=by decide+kernel
theorem san_turned:checkL ⟨[sanF1,sanF2],[sanS],[sanP2,sanP1]⟩=11:=by decide+kernel
theorem san_high:checkL ⟨[sanF1,sanF2],[sanS],[sanP1h,sanP2]⟩=1:=by decide+kernel
theorem san_zero:checkL ⟨[sanF1,sanF2],[sanS],[sanP1z,sanP2]⟩=1:=by decide+kernel
theorem san_plain:checkL ⟨[sanF1,sanF2],[sanS],[sanP1,sanP2p]⟩=13:=by decide+kernel
theorem san_empty:checkL ⟨[],[],[]⟩=0:=by decide+kernel
theorem san_sigs:(sigsL sanL).length=9:=by decide+kernel
theorem san_a1:nameOk ⟨#[97,95,49]⟩=true:=by decide+kernel
theorem san_1a:nameOk ⟨#[49,97]⟩=false:=by decide+kernel
theorem san_fine (fs:List Dc) (ss:List Sc) (ps:List Pv) (hf:fs.length<=1000) (hs:∀s∈ss,s=sanS) (hs':ss.length<=1000) (hp:∀p∈ps,p=sanP1∨p=sanP2∨p=sanP1h∨p=sanP1z∨p=sanP2p) (hp':ps.length<=1000):FineL ⟨fs,ss,ps⟩:=by
 refine⟨hf,hs',hp',fun s h=>?_,fun p h=>?_⟩
 ·rw[hs s h];decide
 ·rcases hp p h with rfl|rfl|rfl|rfl|rfl<;>exact⟨by decide,by decide,by decide⟩
theorem uParse_any (s:ByteArray) (lns:List Ln) (w:World) (hL:LaidK w) (hok:LinesOk s lns) (hF:FineL (lawOf lns)) (hT:checkL (lawOf lns)=0->FineT (lawOf lns)/\textL (lawOf lns)≠[]/\(textL (lawOf lns)).length<=1000000000000):
  Calls Tryz.prog 12 #[.string s] w (RetP (parseR s lns) w):=(callsIn_wide (n:=6)).1 (uParse_in s lns w hL hok hF hT)
instance (t:Ty):Decidable (FineTy t):=by unfold FineTy;infer_instance
theorem san_fineT:FineT sanL:=⟨by decide,by decide,by decide,by decide⟩
theorem san_fineL:FineL sanL:=san_fine _ _ _ (by decide) (fun s h=>List.mem_singleton.1 h) (by decide) (fun p h=>by simp at h;rcases h with rfl|rfl<;>simp) (by decide)
theorem parse_no {s:ByteArray} {lns:List Ln} {n c:Int} {w:World} (hL:LaidK w) (hok:LinesOk s lns) (hF:FineL (lawOf lns)) (hc:checkL (lawOf lns)≠0) (hp:parseR s lns=(⟨[],[],[]⟩,n,c)):
  Calls Tryz.prog 12 #[.string s] w fun e w'=>∃f sc p:Hd,e=.returned (.tuple #[.agg #[.slice f.a f.n f.c,.slice sc.a sc.n sc.c,.slice p.a p.n p.c],.int .i64 n,.int .i64 c])/\Below w.heap.size w w':=by
 refine (uParse_any s lns w hL hok hF (fun h=>absurd h hc)).mono ?_;rintro e w' ⟨f,sc,p,ss,ps,rfl,_,hb⟩;rw[hp];exact⟨f,sc,p,rfl,hb⟩
theorem map_one {α β:Type} {l:List (α × β)} {a:α} (h:l.map Prod.fst=[a]):∃x,l=[(a,x)]:=by
 match l,h with
 |[⟨y,x⟩],h=>exact⟨x,by have:=(List.cons.inj h).1;rw[<-this]⟩
theorem map_two {α β:Type} {l:List (α × β)} {a b:α} (h:l.map Prod.fst=[a,b]):∃x y,l=[(a,x),(b,y)]:=by
 match l,h with
 |[⟨y,x⟩,⟨y',x'⟩],h=>exact⟨x,x',by have h1:=(List.cons.inj h).1;have h2:=(List.cons.inj (List.cons.inj h).2).1;rw[<-h1,<-h2]⟩
theorem parse_yes (w:World) (hL:LaidK w):Calls Tryz.prog 12 #[.string sanT] w fun e w'=>∃(fa sa pa:Option Addr) (fc sc pc:Nat) (x y1 y2:Hd),e=.returned (.tuple #[.agg #[.slice fa 2 fc,.slice sa 1 sc,.slice pa 2 pc],.int .i64 0,.int .i64 0])/\
  LawAt w' sanL [(sanS,x)] [(sanP1,y1),(sanP2,y2)] ⟨fa,2,fc⟩ ⟨sa,1,sc⟩ ⟨pa,2,pc⟩/\Below w.heap.size w w':=by
 refine (uParse_any sanT sanN w hL san_linesT (by rw[san_law];exact san_fineL) (fun _=>by rw[san_law];exact⟨san_fineT,san_txt0⟩)).mono ?_;rintro e w' ⟨f,sc,p,ss,ps,rfl,hl,hb⟩;rw[san_parT] at hl⊢;obtain⟨fa,fn,fc⟩:=f;obtain⟨sa,sn,sc⟩:=sc;obtain⟨pa,pn,pc⟩:=p;obtain⟨x,rfl⟩:=map_one hl.sl;obtain⟨y1,y2,rfl⟩:=map_two hl.pl;obtain rfl:fn=2:=hl.f.len;obtain rfl:sn=1:=hl.s.len;obtain rfl:pn=2:=hl.p.len;exact⟨fa,sa,pa,fc,sc,pc,x,y1,y2,rfl,hl,hb⟩
theorem rd_get {w:World} {A:Option Addr} {cs:List Value} (h:Rd w A cs) (h0:0<cs.length):∃b o,A=some ⟨b,o,none⟩/\b<w.heap.size/\∀i v,cs[i]?=some v->w.cell? ⟨b,o+i,none⟩=some v:=by
 obtain⟨b,o,hA,hb,hc⟩:=h.at_ h0;exact⟨b,o,hA,hb,fun i v hv=>by obtain⟨hi,e⟩:=List.getElem?_eq_some_iff.1 hv;rw[<-e];exact hc i hi⟩
end Go.Proofs.YtimokmplkpbmdaaGreatDoor
