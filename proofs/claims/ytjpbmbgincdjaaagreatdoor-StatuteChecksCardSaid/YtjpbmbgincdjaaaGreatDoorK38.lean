/- Part: Ut Uw Ux Uz J3 J4. -/
import Derived.Test.YtjpbmbgincdjaaaGreatDoorK35
import Derived.Test.YtjpbmbgincdjaaaGreatDoorK37
set_option linter.all false
set_option maxRecDepth 100000
set_option maxHeartbeats 0
namespace Go.Proofs.YtjpbmbgincdjaaaGreatDoor
open Go.RowKit Go.Shelf List World Tryz
attribute [local go_sem] Oper.semAt_some
def dP (dG:List Ln):Lw:=dG.foldl Lw.add ⟨[],[],[]⟩
theorem Wq (dG:List Ln) (x:Ln):dP (dG++[x])=(dP dG).add x:=by unfold dP;rw[foldl_append];rfl
theorem Zp (dG:List Ln):(dP dG).facts.length<=dG.length/\(dP dG).aH.length<=dG.length/\(dP dG).ay.length<=dG.length:=by
 suffices h:∀(l:Lw),(dG.foldl Lw.add l).facts.length<=l.facts.length+dG.length/\(dG.foldl Lw.add l).aH.length<=l.aH.length+dG.length/\(dG.foldl Lw.add l).ay.length<=l.ay.length+dG.length by
  have:=h ⟨[],[],[]⟩;simpa [dP] using this
 induction dG with
 |nil=>intro l;simp
 |cons a r ih=>
  intro l;have h:=ih (l.add a);rw[foldl_cons,length_cons];cases a<;>simp only[Lw.add,length_append,length_cons,length_nil] at h⊢<;>omega
structure kH (s:ByteArray) (dG:List Ln):Prop where
 size:s.size<=1000000
 n:dG.length=gW s
 max:dG.length<=500
 ok:∀i (h:i<dG.length) (h':i<(gY s).length),uK (gY s)[i] dG[i]
def lastB (s:ByteArray):ByteArray:=(gY s).getLastD ⟨#[]⟩
def lD (s:ByteArray) (dG:List Ln):Lw × Int × Int:=
 if lastB s≠⟨#[]⟩ then (⟨[],[],[]⟩,(gW s:Int)+1,11) else
 if aT (dP dG)≠0 then (⟨[],[],[]⟩,0,aT (dP dG)) else
 if (⟨(eu (dP dG)).toArray⟩:ByteArray)≠s then (⟨[],[],[]⟩,0,11) else (dP dG,0,0)
theorem abH {s:ByteArray} {pre:List ByteArray} {x:ByteArray} (h:pre++[x]<+:gY s):∃(h':pre.length<(gY s).length),(gY s)[pre.length]=x:=by
 obtain⟨t,ht⟩:=h;refine⟨by rw[<-ht];simp,?_⟩;simp only[<-ht]
 simp
theorem last_at {s:ByteArray} (h':gW s<(gY s).length):(gY s)[gW s]=lastB s:=by
 have hl:=vH s.size s (Nat.le_refl _);unfold lastB;rw[getLastD_eq_getLast?,getLast?_eq_getElem?,hl,Nat.add_sub_cancel,getElem?_eq_getElem h'];rfl
def ahP (r:Lw × Int × Int) (w:World) (e:Ending) (w':World):Prop:=∃(f sc p:Hd) (ss:List (Sc × Hd)) (ps:List (Pv × Hd)),e=.returned (.tuple #[nD f sc p,.int .i64 r.2.1,.int .i64 r.2.2])/\iQ w' r.1 ss ps f sc p/\Below w.heap.size w w'
theorem iQ.empty (w:World):iQ w ⟨[],[],[]⟩ [] [] ⟨none,0,0⟩ ⟨none,0,0⟩ ⟨none,0,0⟩:=⟨dB.nil _ _,dB.nil _ _,dB.nil _ _,rfl,rfl,(fun _ h=>by cases h),(fun _ h=>by cases h)⟩
section
variable {w W W1 X Y:World} {s:ByteArray} {b B D k:Nat} {l l':Lw} {n n':Int} {t:TypeId} {cs:List Value} {v1 v2 v3 v4 v5 a1 a2 a3 a4 a5:Value}
theorem wQ.bl (hq:wQ b B X Y) (h:Below w.heap.size w X) (h1:w.heap.size<=b) (h2:w.heap.size<=B):Below w.heap.size w Y:=
 ⟨hq.os.trans h.os,hq.tape.trans h.tape,hq.output.trans h.output,Nat.le_trans h.size hq.size,fun q hk=>by
   have h4:q<X.heap.size:=Nat.lt_of_lt_of_le hk h.size;rw[<-h.block q hk,Array.getElem?_eq_getElem h4];exact hq.same q _ (Array.getElem?_eq_getElem h4) (by omega) (.inl (by omega))⟩
theorem PX.Zq (h:PX w X k l) (hq:wQ b B X Y) (hb:aj X b 9 cs) (h1:w.heap.size<=b) (h2:w.heap.size<=B):PX w Y k l:=by
 obtain⟨ss,ps,fv,sv,pv,h⟩:=h;refine⟨ss,ps,fv,sv,pv,h.tf (t:=9) ⟨hq.size,fun k cs' t' fr hk ht=>hq.same k _ hk ?_ (.inr rfl)⟩ (hq.bl h.bl h1 h2) (by decide) (by decide) (by decide) (by decide) (by decide) (by decide)⟩;rintro rfl;rw[show X.heap[k]?=_ from hb] at hk;injection hk with hk;injection hk with _ e _;exact ht e.symm
theorem PX.bl (h:PX w W k l):Below w.heap.size w W:=by
 obtain⟨_,_,_,_,_,h⟩:=h;exact h.bl
theorem PX.amL (h:PX w W k l) (hB:aj W B 3 cs) (h0:w.heap.size<=B) (u:Value):PX w (W.setCell ⟨B,0,none⟩ u) k l:=by
 obtain⟨ss,ps,fv,sv,pv,h⟩:=h;exact⟨ss,ps,fv,sv,pv,h.tf (TF.set (e:=3) hB 0 u) (h.bl.setCell (p:=⟨B,0,none⟩) h0 u) (by decide) (by decide) (by decide) (by decide) (by decide) (by decide)⟩
theorem PT.fresh (h:aj W k 29 [.slice none 0 0,.slice none 0 0,.slice none 0 0]) (hb:Below w.heap.size w W) (hR:w.heap.size<=k):PX w W k ⟨[],[],[]⟩:=
 ⟨[],[],_,_,_,hR,hb,h,ownsRow_nil _ _ _ _,ownsRow_nil _ _ _ _,ownsRow_nil _ _ _ _,rfl,rfl,(fun _ h=>by cases h),(fun _ h=>by cases h)⟩
def NR (t:TypeId):Prop:=t≠53/\t≠71/\t≠59
instance:Decidable (NR t):=inferInstanceAs (Decidable (_/\_))
structure RZ (b:Nat) (v1 v2 v3 v4 v5:Value) (W:World):Prop where
 b1:aj W (b+1) 29 [v1,v2,v3]
 b2:aj W (b+2) 3 [v4]
 b3:aj W (b+3) 33 [v5]
theorem RZ.mv (h:RZ b v1 v2 v3 v4 v5 X) (hk:∀k t cs,k<b+4->NR t->aj X k t cs->aj Y k t cs):RZ b v1 v2 v3 v4 v5 Y:=
 ⟨hk _ _ _ (by omega) (by decide) h.b1,hk _ _ _ (by omega) (by decide) h.b2,hk _ _ _ (by omega) (by decide) h.b3⟩
def endW (W:World) (b:Nat) (v1 v2 v3 n c:Value):World:=((((W.setCell ⟨b+1,0,none⟩ v1).setCell ⟨b+1,1,none⟩ v2).setCell ⟨b+1,2,none⟩ v3).setCell ⟨b+2,0,none⟩ n).setCell ⟨b+3,0,none⟩ c
theorem Ii (h:k<=b∨b+3<k):(endW W b v1 v2 v3 v4 v5).heap[k]?=W.heap[k]?:=by
 have h1:k≠b+1:=by omega
 have h2:k≠b+2:=by omega
 have h3:k≠b+3:=by omega
 unfold endW;rw[Below.heap_setCell _ _ _ k h3,Below.heap_setCell _ _ _ k h2,Below.heap_setCell _ _ _ k h1,Below.heap_setCell _ _ _ k h1,Below.heap_setCell _ _ _ k h1]
theorem RZ.set (h:RZ b a1 a2 a3 a4 a5 W):RZ b v1 v2 v3 v4 v5 (endW W b v1 v2 v3 v4 v5):=
 have e (i:Nat) (u:Value) {X:World} {k:Nat} {t:TypeId} {cs:List Value} {q:Nat} (hb:aj X k t cs) (hk:k≠q):aj (X.setCell ⟨q,i,none⟩ u) k t cs:=hb.other (p:=⟨q,i,none⟩) hk u
 ⟨e _ _ (e _ _ (((h.b1.set 0 _).set 1 _).set 2 _) (by omega)) (by omega),e _ _ ((e _ _ (e _ _ (e _ _ h.b2 (by omega)) (by omega)) (by omega)).set 0 _) (by omega),(e _ _ (e _ _ (e _ _ (e _ _ h.b3 (by omega)) (by omega)) (by omega)) (by omega)).set 0 _⟩
theorem Ij (h:Below w.heap.size w W) (hw:w.heap.size=b):Below w.heap.size w (endW W b v1 v2 v3 v4 v5):=
 have e {X:World} (q i:Nat) (u:Value) (h:Below w.heap.size w X) (hq:b<=q):Below w.heap.size w (X.setCell ⟨q,i,none⟩ u):=h.setCell (p:=⟨q,i,none⟩) (by show _<=q;omega) u
 e _ _ _ (e _ _ _ (e _ _ _ (e _ _ _ (e _ _ _ h (by omega)) (by omega)) (by omega)) (by omega)) (by omega)
theorem xG:(endW W b v1 v2 v3 v4 v5).drew=endW W.drew b v1 v2 v3 v4 v5:=by unfold endW;simp only[setCell_drew]
theorem Ws (h:KeepsFrom B X W):KeepsFrom B X (endW W b v1 v2 v3 v4 v5):=
 h.trans (((((KeepsOthers.setCell _ _ _).trans (KeepsOthers.setCell _ _ _)).trans (KeepsOthers.setCell _ _ _)).trans (KeepsOthers.setCell _ _ _)).trans (KeepsOthers.setCell _ _ _) |>.from B)
structure PI (w:World) (s:ByteArray) (b:Nat) (l:Lw) (n:Int) (W:World):Prop where
 px:PX w W (b+4) l
 b0:aj W b 9 [.string s]
 rz:RZ b (.slice none 0 0) (.slice none 0 0) (.slice none 0 0) (.int .i64 0) (.int .i64 0) W
 b5:aj W (b+5) 3 [.int .i64 n]
 b6:∃cs,aj W (b+6) 9 cs
 b7:∃cs,aj W (b+7) 9 cs
 b8:∃cs,aj W (b+8) 3 cs
theorem PI.mv (h:PI w s b l n X) (hp:PX w Y (b+4) l') (hk:∀k t cs,k≠b+4->k≠b+5->k≠b+6->NR t->aj X k t cs->aj Y k t cs) (h5:aj Y (b+5) 3 [.int .i64 n']) (h6:∃cs,aj Y (b+6) 9 cs):PI w s b l' n' Y:=
 ⟨hp,hk _ _ _ (by omega) (by omega) (by omega) (by decide) h.b0,h.rz.mv fun k t cs hk'=>hk k t cs (by omega) (by omega) (by omega),h5,h6,h.b7.imp fun _=>hk _ _ _ (by omega) (by omega) (by omega) (by decide),h.b8.imp fun _=>hk _ _ _ (by omega) (by omega) (by omega) (by decide)⟩
theorem PI.Zq (h:PI w s b l n X) (hq:wQ (b+6) B X Y) (h1:w.heap.size<=b) (h2:w.heap.size<=B):PI w s b l n Y:=
 h.b6.elim fun _ hc=>h.mv (h.px.Zq hq hc (by omega) h2) (fun _ _ _ _ _ h6 _ hb=>hq.same _ _ hb h6 (.inr rfl)) (hq.same _ _ h.b5 (by omega) (.inr rfl)) (hq.typ _ _ hc)
structure KW (b:Nat) (X Y:World):Prop where
 size:X.heap.size<=Y.heap.size
 keep:∀(q:Nat) (o:Obj),X.heap[q]?=some o->q≠b+4->q≠b+5->(∀cs t fr,o=.cells cs t fr->NR t)->Y.heap[q]?=some o
theorem KW.set:KW b W (W.setCell ⟨b+5,0,none⟩ v1):=⟨by simp[World.setCell],fun q _ h _ h5 _=>(Below.heap_setCell W _ _ q h5).trans h⟩
theorem KW.fr (h:KW b W W1) (hf:FR (b+4) W1 Y):KW b W Y:=⟨Nat.le_trans h.size hf.size,fun q o h1 h4 h5 ho=>hf.keep q o (h.keep q o h1 h4 h5 ho) h4 ho⟩
theorem KW.blk (h:KW b X Y) (h4:k≠b+4) (h5:k≠b+5) (ht:NR t) (hb:aj X k t cs):aj Y k t cs:=h.keep k _ hb h4 h5 fun _ _ _ e=>by injection e with _ e _;exact e ▸ ht
theorem PI.next (h:PI w s b l n X) (hk:KW b X Y) (hp:PX w Y (b+4) l') (h5:aj Y (b+5) 3 [.int .i64 n']):PI w s b l' n' Y:=
 h.mv hp (fun _ _ _ h4 h5 _ ht hb=>hk.blk h4 h5 ht hb) h5 (h.b6.imp fun _ hb=>hk.blk (by omega) (by omega) (by decide) hb)
theorem PI.step (h:PI w s b l n W) (hw:w.heap.size=b):PI w s b l n' (W.setCell ⟨b+5,0,none⟩ (.int .i64 n')):=h.next .set (h.px.amL h.b5 (by omega) _) (h.b5.set 0 _)
theorem PI.fr (h:PI w s b l n W) (hp:PX w Y (b+4) l') (hf:FR (b+4) W Y):PI w s b l' n Y:=
 h.next ((⟨Nat.le_refl _,fun _ _ h _ _ _=>h⟩:KW b W W).fr hf) hp (hf.keep _ _ h.b5 (by omega) fun _ _ _ e=>by injection e with _ e _;exact e ▸ (by decide))
theorem PI.kf (h:PI w s b l n W) (hk:KW b W Y) (B:Nat):KeepsFrom B W Y:=by
 refine⟨hk.size,fun q o _ hq ho=>hk.keep q o hq ?_ ?_ fun cs t fr e=>by subst e;cases ho⟩<;>rintro rfl
 ·obtain⟨_,_,_,_,_,hp⟩:=h.px;rw[show W.heap[b+4]?=_ from hp.blk] at hq;injection hq with hq;subst hq;cases ho
 ·rw[show W.heap[b+5]?=_ from h.b5] at hq;injection hq with hq;subst hq;cases ho
theorem PI.kk (h:PI w s b l n W) (hk:KW b W Y) (hw:w.heap.size=b) {K:Nat->Prop} (hK:∀q,K q↔(q<b∨q=b+7∨q=b+8)) (hp:PX w Y (b+4) l'):Kb (fun q=>K q∨q=b+6) W Y:=by
 refine⟨hk.size,fun q o hq hk'=>?_⟩
 have hB:∀t cs,q≠b+5->q≠b+4->aj W q t cs->NR t->Y.heap[q]?=some o:=fun t cs h5 h4 hb ht=>by
  rw[show W.heap[q]?=_ from hb] at hq;rw[<-hq];exact hk.blk h4 h5 ht hb
 obtain⟨_,c6⟩:=h.b6;obtain⟨_,c7⟩:=h.b7;obtain⟨_,c8⟩:=h.b8;rw[hK] at hk';rcases hk' with (k|rfl|rfl)|rfl
 ·rw[<-hw] at k;rw[hp.bl.block q k,<-h.px.bl.block q k];exact hq
 ·exact hB _ _ (by omega) (by omega) c7 (by decide)
 ·exact hB _ _ (by omega) (by omega) c8 (by decide)
 ·exact hB _ _ (by omega) (by omega) c6 (by decide)
structure PJ (w:World) (s:ByteArray) (b:Nat) (W:World):Prop where
 ne:lastB s≠⟨#[]⟩
 bl:Below w.heap.size w W
 rz:RZ b (.slice none 0 0) (.slice none 0 0) (.slice none 0 0) (.int .i64 ((gW s:Int)+1)) (.int .i64 11) W
theorem PJ.Zq (h:PJ w s b X) (hq:wQ (b+6) B X Y) (h1:w.heap.size<=b) (h2:w.heap.size<=B):PJ w s b Y:=
 ⟨h.ne,hq.bl h.bl (by omega) h2,h.rz.mv fun k _ _ _ _ hb=>hq.same _ _ hb (by omega) (.inr rfl)⟩
theorem CJ {e:TypeId} {R s n:Nat} (ho:X.ownsRow B e s v1 n cs) (hB:R<=B) (hk:∀(k:Nat) (cs:Array Value) (t:TypeId) (fr:Nat × Nat),R<=k->X.heap[k]?=some (.cells cs t fr)->Y.heap[k]?=some (.cells cs t fr)):Y.ownsRow B e s v1 n cs:=by
 refine⟨ho.1,ho.2.imp id ?_⟩;rintro⟨g,cap,cur,h1,h2,h3,h4⟩;exact⟨g,cap,cur,h1,h2,hk _ _ _ _ (by omega) h3,h4⟩
theorem PT.up {ss:List (Sc × Hd)} {ps:List (Pv × Hd)} (h:PT w X k l ss ps v1 v2 v3) (hb:Below w.heap.size w Y) (hk:∀(q:Nat) (cs:Array Value) (t:TypeId) (fr:Nat × Nat),k<=q->X.heap[q]?=some (.cells cs t fr)->Y.heap[q]?=some (.cells cs t fr)):PT w Y k l ss ps v1 v2 v3:=
 ⟨h.r,hb,hk _ _ _ _ (Nat.le_refl _) h.blk,CJ h.f (Nat.le_succ _) hk,CJ h.s (Nat.le_succ _) hk,CJ h.p (Nat.le_succ _) hk,h.sl,h.pl,fun x hx=>⟨(h.sb x hx).1,CJ (h.sb x hx).2 (Nat.le_succ _) hk⟩,fun x hx=>⟨(h.pb x hx).1,CJ (h.pb x hx).2 (Nat.le_succ _) hk⟩⟩
theorem RZ.fin (h:RZ b v1 v2 v3 v4 v5 X) (hbl:Below w.heap.size w X) (hw:w.heap.size=b) (hD:b+9<=D) (hK:X.heap[D]?=some (.deferred (some []))):RZ b v1 v2 v3 v4 v5 (X.putObj D (.deferred none))/\Below w.heap.size w (X.putObj D (.deferred none)):=
 ⟨h.mv fun k _ _ _ _ hb=>(putObj_heap_other (by omega)).trans hb,hbl.trans ((Below.refl _ X).grown (grownBy_putObj' X D _) (by have:=lt_of_some hK;omega) fun k e=>by cases e;omega)⟩
theorem aj.newAt {n:Nat} (h:w.heap.size=n) (t:TypeId) (cs:Array Value):aj (w.alloc (.cells cs t)) n t cs.toList:=h ▸ aj.new w t cs
structure PN (s:ByteArray) (w:World) (b:Nat) (W:World):Prop where
 size:W.heap.size=b+9
 pi:PI w s b ⟨[],[],[]⟩ 0 W
 b6:aj W (b+6) 9 [.string s]
 b7:aj W (b+7) 9 [.string kD]
 b8:aj W (b+8) 3 [.int .i64 0]
theorem cell_kept {w w':World} {b:Nat} {v:Value} (h:w.cell? ⟨b,0,none⟩=some v) (hk:∀o,w.heap[b]?=some o->w'.heap[b]?=some o):w'.cell? ⟨b,0,none⟩=some v:=by
 have e:w'.heap[b]?=w.heap[b]?:=by
  cases ho:w.heap[b]? with
  |none=>unfold World.cell? at h;simp only[ho] at h;cases h
  |some o=>exact hk o ho
 exact (cell?_of_block e).trans h
theorem ahQ (hW:W=((((((((w.alloc (.cells #[.string s] 9)).alloc (.cells #[.slice none 0 0,.slice none 0 0,.slice none 0 0] 29)).alloc (.cells #[.int .i64 0] 3)).alloc (.cells #[.int .i64 0] 33)).alloc (.cells #[.slice none 0 0,.slice none 0 0,.slice none 0 0] 29)).alloc (.cells #[.int .i64 0] 3)).alloc (.cells #[.string s] 9)).alloc (.cells #[.string kD] 9)).alloc (.cells #[.int .i64 0] 3)):PN s w w.heap.size W:=by
 subst hW;refine⟨by simp,⟨PT.fresh ?_ ?_ (by omega),?_,⟨?_,?_,?_⟩,?_,⟨[.string s],?_⟩,⟨[.string kD],?_⟩,⟨[.int .i64 0],?_⟩⟩,?_,?_,?_⟩
 all_goals repeat (first|(refine aj.newAt ?_ _ _;simp only[size_alloc];done)|refine aj.alloc ?_ _|exact Below.refl _ _|refine Below.alloc ?_ (by first|omega|(simp only[size_alloc];omega)) _)
end
theorem Zr (s:ByteArray) (dG:List Ln) (w:World) (hL:bT w) (hok:kH s dG) (hF:lW (dP dG)) (hT:aT (dP dG)=0->zL (dP dG)/\eu (dP dG)≠[]/\(eu (dP dG)).length<=1000000000000):
  CallsIn Fence.wide 6 prog 13 #[.string s] w (ahP (lD s dG) w):=by
 have jR:Hid (∀W,Below w.heap.size w W->bT W):=fun W hb=>hL.below hb
 have qJ:=zH hok;have HFL:=zH hF;have OA:=zH hT;have HSQ:Hid (∀(W:World) (k:Nat),CallsIn Fence.wide k prog 33 #[.string s,.string ⟨#[10]⟩] W _):=fun W k=>(callsIn_wide (n:=k)).2 (Px s W)
 clear hL hok hF hT;refine callsIn_of_wp_marks func13 rfl trivial ?_ rfl;simp only[ntmps13,size_toArray,length_cons,length_nil,Nat.reduceAdd,Nat.reduceSub,Array.replicate_succ,Array.replicate_zero,push_toArray,append_toArray,nil_append,cons_append]
 gi_wp2_with fail
 refine⟨trivial,(HSQ.out _ _).mono ?_⟩;rintro e W9 ⟨rfl,hW9⟩;have wJ:=zH (ahQ hW9);obtain⟨b,hb⟩:=zE w.heap.size;rw[<-hb] at wJ;have iY:=zH hb;simp only[size_alloc,<-hb,Nat.add_assoc,Nat.reduceAdd]
 clear hW9 hb HSQ
 gi_wp2_with fail
 obtain⟨K,TS⟩:∃K:Nat->Prop,Hid (∀k,K k↔(k<b∨k=b+7∨k=b+8)):=⟨_,fun _=>Iff.rfl⟩
 have hsz:=qJ.out.size;have hs9:=wJ.out.size
 refine Fh rfl (by omega) (gf:=137) (lb:=#[.pointer (some ⟨b+7,0,none⟩),.pointer (some ⟨b+6,0,none⟩),.pointer (some ⟨b+8,0,none⟩)]) rfl trivial (enters_of func137 (by kernel_rfl) rfl)
  (enc:=fun x:ByteArray=>.string x) (b:=b+6) (K:=K) (by omega) (fun k hk=>by have:=(TS.out k).1 hk;omega)
  (QV 5 (by omega) (b+7) (b+6) (b+8) (by omega) (by omega) K ((TS.out _).2 (by omega)) ((TS.out _).2 (by omega)) s W9 wJ.out.b7 wJ.out.b6 wJ.out.b8 (by omega) ?ahR (fun h=>by have:=(TS.out _).1 h;omega)) rfl
  (fun pre W=>PI w s b (dP (dG.take pre.length)) pre.length W/\(pre.length=gW s+1->lastB s=⟨#[]⟩)) (fun _ W=>PJ w s b W) (fun pre X Y h hq=>⟨h.1.Zq hq (by rw[iY.out];exact Nat.le_refl _) wJ.out.pi.px.bl.size,h.2⟩) (fun pre X Y h hq=>h.Zq hq (by rw[iY.out];exact Nat.le_refl _) wJ.out.pi.px.bl.size) ⟨wJ.out.pi,(fun h=>by simp at h)⟩ ?a1 ?assign ?body ?done ?stop
 case ahR=>
  intro W hk;obtain⟨m,hm⟩:=(jR.out w (Below.refl _ _)).e.base.cut.2;refine⟨m,cell_kept hm fun o ho=>?_⟩;have h2:2<w.heap.size:=lt_of_some ho;exact hk.same 2 o ((wJ.out.pi.px.bl.block 2 h2).trans ho) ((TS.out 2).2 (.inl (by rw[iY.out];exact h2)))
 case assign=>
  intro l x W K' hK'
  gi_wp2
  exact hK'
 case body=>
  rintro l pre x W ⟨hI,-⟩ hNx;obtain⟨hkl,hx⟩:=abH hNx;have hll:=vH s.size s (Nat.le_refl _);have hmx:=qJ.out.max;have hnl:=qJ.out.n;obtain⟨k,hkk⟩:=zF pre.length;have hpl:(pre++[x]).length=k+1:=by rw[<-hkk];simp
  rw[hkk] at hI;have hkl':k<(gY s).length:=by omega
  simp only[hkk] at hx;have HX:=zH hx;clear hNx hsz;have HI:=zH hI;have lV:=zH iY.out.symm;have hk1:(k:Int)<=600:=by omega
  have apb:(gW s:Int)<=600:=by omega
  have TJ:Hid (∀Y a,KW b W Y->PI w s b (dP (dG.take (k+1))) ((k:Int)+1) Y->(k=gW s->lastB s=⟨#[]⟩)->LQ W9.heap.size (fun q=>K q∨q=b+6) (fun pre W=>PI w s b (dP (dG.take pre.length)) pre.length W/\(pre.length=gW s+1->lastB s=⟨#[]⟩)) (fun _ W=>PJ w s b W) (pre++[x]) W .normal a Y):=fun Y a h1 h2 h3=>⟨HI.out.kf h1 _,HI.out.kk h1 lV.out TS.out h2.px,by show _/\_;rw[hpl];exact⟨h2,fun h=>h3 (by omega)⟩⟩
  have BM:Hid (∀Y a,KeepsFrom W9.heap.size W Y->PJ w s b Y->LQ W9.heap.size (fun q=>K q∨q=b+6) (fun pre W=>PI w s b (dP (dG.take pre.length)) pre.length W/\(pre.length=gW s+1->lastB s=⟨#[]⟩)) (fun _ W=>PJ w s b W) (pre++[x]) W .ret a Y):=fun Y a h1 h2=>⟨h1,h2⟩
  have hc5:=hI.b5.cells;have hf5:=hI.b5.bH;have hc0:=hI.b0.cells;have h05:¬b=b+5:=by omega
  clear hI
  gi_wp2_with fail
  have uw:=zH (HI.out.step (n':=(k:Int)+1) lV.out);have jl:Hid (KW b W (W.setCell ⟨b+5,0,none⟩ (.int .i64 ((k:Int)+1)))):=KW.set;generalize W.setCell ⟨b+5,0,none⟩ (.int .i64 ((k:Int)+1))=W1 at*;clear hc5 hf5 hc0;have hc5:=uw.out.b5.cells;have hc0:=uw.out.b0.cells
  have O9:Hid (∀(W':World) (m:Nat),Below w.heap.size w W'->CallsIn Fence.wide m prog 34 #[.string s,.string ⟨#[10]⟩] W' fun e w'=>e=.returned (.int .i64 (gW s))/\w'=W'):=fun W' m hb=>by
   obtain⟨mm,hm⟩:=(jR.out W' hb).e.base.cut.2;exact (callsIn_wide (n:=m)).2 (Tryz.strings_Count_any s ⟨#[10]⟩ mm W' (by have:=qJ.out.size;omega) hm (by decide))
  have HB1:=zH uw.out.px.bl.drew;have HFD:Hid (FR (b+4) W1 W1.drew):=FR.below (Below.refl _ _).drew;have HPD:=zH (uw.out.px.below (Below.refl _ _).drew);have apc:prog.follows .mixedOrders=true:=by kernel_rfl
  by_cases hkc:k<gW s
  ·have hle:(k:Int)+1<=(gW s:Int):=by omega
   have hkn:¬(k:Int)+1>(gW s:Int):=by omega
   have hle3:=Zp (dG.take k);rw[length_take] at hle3;have h1:=qJ.out.ok k (by omega) hkl';rw[HX.out] at h1
   have BX:Hid (∀m,CallsIn Fence.wide m prog 35 #[.pointer (some ⟨b+4,0,none⟩),.string x] W1.drew fun e w'=>e=.returned (.bool true)/\Hid (PI w s b (dP (dG.take (k+1))) ((k:Int)+1) w')/\Hid (KW b W w')):=fun m=>by
    refine (callsIn_wide (n:=m)).2 ((abG w W1.drew (b+4) _ x _ HPD.out (jR.out _ HB1.out) (by omega) (by omega) (by omega) h1).mono ?_);rintro e w' ⟨rfl,h2,h3⟩;have hk:=HFD.out.trans h3;rw[<-Wq,<-take_succ_eq_append_getElem (by omega)] at h2;exact⟨rfl,uw.out.fr h2 hk,jl.out.fr hk⟩
   clear hle3 h1
   gi_region_with_o (first
    |(refine⟨trivial,?_⟩;gi_at_call 34;refine (CallsIn.inRound l (O9.out _ _ (by first|exact HB1.out|exact HP2.out.px.bl))).mono ?_;rintro e w' ⟨rfl,rfl⟩)
    |(refine⟨trivial,?_⟩;gi_at_call 35;refine (CallsIn.inRound l (BX.out _)).mono ?_;rintro e w2 ⟨rfl,HP2,kN⟩;have hd5:=HP2.out.b5.cells;have hd0:=HP2.out.b0.cells))
   all_goals gi_wp2
   all_goals exact TJ.out _ _ kN.out HP2.out (fun h=>by omega)
  ·have amM:k=gW s:=by omega
   subst amM;have hxl:lastB s=x:=by rw[<-last_at hkl',HX.out]
   have hgt:(gW s:Int)<(gW s:Int)+1:=by omega
   have apd:¬(gW s:Int)+1<=(gW s:Int):=by omega
   have h3:=uw.out.fr HPD.out HFD.out;rw[show dG.take (gW s)=dG.take (gW s+1) by rw[take_of_length_le (by omega),take_of_length_le (by omega)]] at h3;have HP2:=zH h3;have kN:=zH (jl.out.fr HFD.out);clear h3;by_cases hx0:x=⟨#[]⟩
   ·subst hx0
    gi_region_with_o (first|(refine⟨trivial,?_⟩;gi_at_call 34;refine (CallsIn.inRound l (O9.out _ _ HB1.out)).mono ?_;rintro e w' ⟨rfl,rfl⟩)|refine⟨trivial,?_⟩)
    all_goals gi_wp2
    all_goals exact TJ.out _ _ kN.out HP2.out (fun _=>hxl)
   ·have hne:(x.toList==[])=false:=by
     rw[beq_eq_false_iff_ne];intro h;refine hx0 ?_;rw[ByteArray.toList_eq] at h;cases x with|mk d=>cases d with|mk l=>cases h;rfl
    have HKE:Hid (KeepsFrom W9.heap.size W (endW W1 b (.slice none 0 0) (.slice none 0 0) (.slice none 0 0) (.int .i64 ((gW s:Int)+1)) (.int .i64 11)).drew.drew):=by
     rw[xG,xG];exact Ws (HI.out.kf (kN.out.fr (FR.below (Below.refl _ _).drew)) _)
    have hz:=HP2.out.rz.mv (Y:=W1.drew.drew) fun _ _ _ _ _ hb=>hb.drew
    have HJ:Hid (PJ w s b (endW W1 b (.slice none 0 0) (.slice none 0 0) (.slice none 0 0) (.int .i64 ((gW s:Int)+1)) (.int .i64 11)).drew.drew):=by
     rw[xG,xG];exact⟨by rw[hxl];exact hx0,Ij HP2.out.px.bl.drew lV.out,hz.set⟩
    clear hz
    gi_region_with_o (first|(refine⟨trivial,?_⟩;gi_at_call 34;refine (CallsIn.inRound l (O9.out _ _ HB1.out)).mono ?_;rintro e w' ⟨rfl,rfl⟩)|refine⟨trivial,?_⟩)
    all_goals
     clear hc5 hc0 O9;have hr1:=uw.out.rz.b1.cells;have hg1:=uw.out.rz.b1.bH;have hr2:=uw.out.rz.b2.cells;have hg2:=uw.out.rz.b2.bH;have hr3:=uw.out.rz.b3.cells;have hg3:=uw.out.rz.b3.bH;have hc5:=uw.out.b5.cells;have n12:¬b+1=b+2:=by omega
     have n13:¬b+1=b+3:=by omega
     have n23:¬b+2=b+3:=by omega
     have n21:¬b+2=b+1:=by omega
     have n31:¬b+3=b+1:=by omega
     have n32:¬b+3=b+2:=by omega
     gi_wp2_with fail
     gi_region_with_o (fail)
    all_goals gi_wp2
    all_goals exact (show LQ _ _ _ _ _ _ Exit.ret _ (endW W1 b (.slice none 0 0) (.slice none 0 0) (.slice none 0 0) (.int .i64 ((gW s:Int)+1)) (.int .i64 11)).drew.drew from BM.out _ _ HKE.out HJ.out)
 case done=>
  rintro D xs W hD rfl ⟨hI,hl0⟩ hK;have hll:=vH s.size s (Nat.le_refl _);have hl0:=hl0 hll;rw[hll,take_of_length_le (by rw[qJ.out.n];omega)] at hI;have HI:=zH hI;obtain⟨ss,ps,fv,sv,pv,wM⟩:=hI.px;obtain⟨f,sc,p,rfl,rfl,rfl,uQ⟩:=wM.law;have hDs:b+9<=D:=hs9 ▸ hD;have uJ:=zH wM;have HCK:Hid (∀m,CallsIn Fence.wide m prog 9 #[.agg #[.slice f.a f.n f.c,.slice sc.a sc.n sc.c,.slice p.a p.n p.c]] W fun e w'=>e=.returned (.int .i64 (aT (dP dG)))/\Below W.heap.size W w'):=fun m=>(callsIn_wide (n:=m)).2 (vC _ _ _ f sc p W (jR.out _ wM.bl) uQ HFL.out)
  have oK:Hid (∀m W',Below W.heap.size W W'->CallsIn Fence.wide m prog 16 #[.agg #[.slice f.a f.n f.c,.slice sc.a sc.n sc.c,.slice p.a p.n p.c]] W' fun e w'=>e=.returned (yI (dP dG))/\Below W'.heap.size W' w'):=fun m W' hb=>(callsIn_wide (n:=m)).2 (Ci _ _ _ f sc p W' (jR.out _ (ah uJ.out.bl hb)) (uQ.below hb) HFL.out OA.out)
  have uM:Hid (lD s dG=if aT (dP dG)≠0 then (⟨[],[],[]⟩,0,aT (dP dG)) else if (⟨(eu (dP dG)).toArray⟩:ByteArray)≠s then (⟨[],[],[]⟩,0,11) else (dP dG,0,0)):=by show _=_;unfold lD;rw[if_neg (fun h=>h hl0)]
  have HEN:Hid (∀X v1 v2 v3 v4 v5,Below W.heap.size W X->(endW X b v1 v2 v3 v4 v5).heap[D]?=some (.deferred (some []))/\RZ b v1 v2 v3 v4 v5 ((endW X b v1 v2 v3 v4 v5).putObj D (.deferred none))/\Below w.heap.size w ((endW X b v1 v2 v3 v4 v5).putObj D (.deferred none))):=fun X v1 v2 v3 v4 v5 hb=>by
   have h:(endW X b v1 v2 v3 v4 v5).heap[D]?=some (.deferred (some [])):=(Ii (by omega)).trans ((hb.block D (lt_of_some hK)).trans hK);have hz:=hI.rz.mv (Y:=X) fun _ _ _ _ _ q=>q.below hb q.lt
   exact⟨h,hz.set.fin (Ij (ah hI.px.bl hb) iY.out.symm) iY.out.symm hDs h⟩
  have Oy:Hid (∀X,Below W.heap.size W X->∀k cs t fr,b+4<=k->X.heap[k]?=some (.cells cs t fr)->((endW X b (.slice f.a f.n f.c) (.slice sc.a sc.n sc.c) (.slice p.a p.n p.c) (.int .i64 0) (.int .i64 0)).putObj D (.deferred none)).heap[k]?=some (.cells cs t fr)):=fun X hb k cs t fr hk hh=>(putObj_heap_other (by
   rintro rfl;have h1:=(hb.block _ (lt_of_some hK)).trans hK;rw[hh] at h1;injection h1 with h1;cases h1)).trans ((Ii (b:=b) (by omega)).trans hh)
  have n12:¬b+1=b+2:=by omega
  have n13:¬b+1=b+3:=by omega
  have n23:¬b+2=b+3:=by omega
  have n21:¬b+2=b+1:=by omega
  have n31:¬b+3=b+1:=by omega
  have n32:¬b+3=b+2:=by omega
  have hc4:=wM.blk.cells;unfold yI at oK;obtain⟨z,hz⟩:=zF (aT (dP dG));obtain⟨T,hT⟩:=zF (⟨(eu (dP dG)).toArray⟩:ByteArray);rw[hz] at HCK;rw[hz,hT] at uM;simp only[hz] at oK;clear hz hll hl0 wM uQ hDs hI hK OA hD
  gi_wp2_with fail
  refine⟨trivial,(HCK.out _).mono ?_⟩;rintro e w2 ⟨rfl,hb2⟩;have HB2:=zH hb2;have HZ2:Hid (RZ b _ _ _ _ _ w2):=HI.out.rz.mv (Y:=w2) fun _ _ _ _ _ q=>q.below hb2 q.lt
  have hr1:=HZ2.out.b1.cells;have hg1:=HZ2.out.b1.bH;have hr2:=HZ2.out.b2.cells;have hg2:=HZ2.out.b2.bH;have hr3:=HZ2.out.b3.cells;have hg3:=HZ2.out.b3.bH;clear hb2 hc4;by_cases hz0:z=0
  ·subst hz0;rw[if_neg (fun h=>h rfl)] at uM;simp only[if_true,hT] at oK;have hc4:=(uJ.out.blk.below HB2.out uJ.out.blk.lt).cells;clear hr1 hg1 hr2 hg2 hr3 hg3
   gi_wp2_with fail
   refine⟨trivial,(oK.out _ _ HB2.out).mono ?_⟩;rintro e w3 ⟨rfl,hb3⟩;have HB3:=zH (ah HB2.out hb3);have HZ3:Hid (RZ b _ _ _ _ _ w3):=HI.out.rz.mv (Y:=w3) fun _ _ _ _ _ q=>q.below HB3.out q.lt
   have hr1:=HZ3.out.b1.cells;have hg1:=HZ3.out.b1.bH;have hr2:=HZ3.out.b2.cells;have hg2:=HZ3.out.b2.bH;have hr3:=HZ3.out.b3.cells;have hg3:=HZ3.out.b3.bH;have hc4:=(uJ.out.blk.below HB3.out uJ.out.blk.lt).cells;have hc0:=(HI.out.b0.below HB3.out HI.out.b0.lt).cells;clear hb3;by_cases hTs:T=s
   ·rw[if_neg (fun h=>h hTs)] at uM;obtain rfl:=hTs;clear hT
    gi_wp2
    obtain⟨Zt,q,KU⟩:=HEN.out w3 (.slice f.a f.n f.c) (.slice sc.a sc.n sc.c) (.slice p.a p.n p.c) (.int .i64 0) (.int .i64 0) HB3.out;have c1:=q.b1.cells;have c2:=q.b2.cells;have c3:=q.b3.cells;have hE:=(uJ.out.below HB3.out).up KU (Oy.out w3 HB3.out);unfold endW at c1 c2 c3;obtain⟨f',sc',p',q1,q2,q3,Nj⟩:=hE.law;refine⟨by simp,.inl ⟨_,_,rfl,run_takeDeferred Zt,.tuple #[.agg #[.slice f.a f.n f.c,.slice sc.a sc.n sc.c,.slice p.a p.n p.c],.int .i64 0,.int .i64 0],by simp[results,results13,go_sem,c1,c2,c3],f',sc',p',ss,ps,?_,by rw[uM.out];exact Nj,KU⟩⟩;rw[uM.out,q1,q2,q3];rfl
   ·rw[if_pos hTs] at uM
    have hne:(T.toList==s.toList)=false:=by
     rw[beq_eq_false_iff_ne];intro h;rw[ByteArray.toList_eq,ByteArray.toList_eq] at h;refine hTs ?_;cases T with|mk d=>cases s with|mk d'=>cases d with|mk l=>cases d' with|mk l'=>cases h;rfl
    clear hT hTs
    gi_wp2
    obtain⟨Zt,q,KU⟩:=HEN.out w3 (.slice none 0 0) (.slice none 0 0) (.slice none 0 0) (.int .i64 0) (.int .i64 11) HB3.out;have c1:=q.b1.cells;have c2:=q.b2.cells;have c3:=q.b3.cells;unfold endW at c1 c2 c3;exact⟨by simp,.inl ⟨_,_,rfl,run_takeDeferred Zt,.tuple #[.agg #[.slice none 0 0,.slice none 0 0,.slice none 0 0],.int .i64 0,.int .i64 11],by simp[results,results13,go_sem,c1,c2,c3],⟨none,0,0⟩,⟨none,0,0⟩,⟨none,0,0⟩,[],[],by rw[uM.out];rfl,by rw[uM.out];exact iQ.empty _,KU⟩⟩
  ·rw[if_pos hz0] at uM
   gi_wp2
   obtain⟨Zt,q,KU⟩:=HEN.out w2 (.slice none 0 0) (.slice none 0 0) (.slice none 0 0) (.int .i64 0) (.int .i64 z) HB2.out;have c1:=q.b1.cells;have c2:=q.b2.cells;have c3:=q.b3.cells;unfold endW at c1 c2 c3;exact⟨by simp,.inl ⟨_,_,rfl,run_takeDeferred Zt,.tuple #[.agg #[.slice none 0 0,.slice none 0 0,.slice none 0 0],.int .i64 0,.int .i64 z],by simp[results,results13,go_sem,c1,c2,c3],⟨none,0,0⟩,⟨none,0,0⟩,⟨none,0,0⟩,[],[],by rw[uM.out];rfl,by rw[uM.out];exact iQ.empty _,KU⟩⟩
 case stop=>
  rintro D pre W hD _ hJ hK;have c1:=hJ.rz.b1.cells;have c2:=hJ.rz.b2.cells;have c3:=hJ.rz.b3.cells
  gi_wp2
  obtain⟨q,KU⟩:=hJ.rz.fin hJ.bl iY.out.symm (hs9 ▸ hD) hK;have c1:=q.b1.cells;have c2:=q.b2.cells;have c3:=q.b3.cells;exact⟨by simp,.inl ⟨_,_,rfl,run_takeDeferred hK,.tuple #[.agg #[.slice none 0 0,.slice none 0 0,.slice none 0 0],.int .i64 ((gW s:Int)+1),.int .i64 11],by simp[results,results13,go_sem,c1,c2,c3],⟨none,0,0⟩,⟨none,0,0⟩,⟨none,0,0⟩,[],[],by unfold lD nD;rw[if_pos hJ.ne],by unfold lD;rw[if_pos hJ.ne];exact iQ.empty _,KU⟩⟩
end Go.Proofs.YtjpbmbgincdjaaaGreatDoor
namespace Go.Proofs.YtjpbmbgincdjaaaGreatDoor
open Go.RowKit List World Tryz
instance (a:Ra):Decidable (dA a):=by unfold dA;infer_instance
instance (b:Bk):Decidable (lH b):=by unfold lH;infer_instance
instance (n:Nd):Decidable (Fine n):=by unfold Fine;infer_instance
def Wu:List Nd:=[⟨5,⟨false,⟨#[]⟩,⟨#[]⟩⟩,⟨#[115,105,110,103,108,101]⟩⟩,⟨1,⟨false,⟨#[100]⟩,⟨#[1]⟩⟩,⟨#[]⟩⟩,⟨6,⟨false,⟨#[]⟩,⟨#[]⟩⟩,⟨#[116,97,120]⟩⟩,⟨3,⟨false,⟨#[4]⟩,⟨#[1]⟩⟩,⟨#[]⟩⟩,⟨12,⟨false,⟨#[]⟩,⟨#[]⟩⟩,⟨#[]⟩⟩,⟨15,⟨false,⟨#[]⟩,⟨#[]⟩⟩,⟨#[]⟩⟩]
def adl:List Nd:=[⟨5,⟨false,⟨#[]⟩,⟨#[]⟩⟩,⟨#[105,110,99,111,109,101]⟩⟩,⟨6,⟨false,⟨#[]⟩,⟨#[]⟩⟩,⟨#[97,105,100]⟩⟩,⟨10,⟨false,⟨#[]⟩,⟨#[]⟩⟩,⟨#[]⟩⟩,⟨24,⟨false,⟨#[]⟩,⟨#[]⟩⟩,⟨#[115,99,97,108,101]⟩⟩]
def jf:Dc:=⟨⟨#[105,110,99,111,109,101]⟩,⟨false,1,0⟩⟩
def jg:Dc:=⟨⟨#[115,105,110,103,108,101]⟩,⟨true,0,0⟩⟩
def lF:Sc:=⟨⟨#[115,99,97,108,101]⟩,1,0,[⟨⟨false,⟨#[]⟩,⟨#[1]⟩⟩,⟨false,⟨#[1]⟩,⟨#[10]⟩⟩⟩,⟨⟨false,⟨#[3,232]⟩,⟨#[1]⟩⟩,⟨false,⟨#[1]⟩,⟨#[5]⟩⟩⟩]⟩
def iT:Pv:=⟨⟨#[97,105,100]⟩,⟨false,1,0⟩,false,⟨false,⟨#[10]⟩,⟨#[1]⟩⟩,⟨false,⟨#[1,244]⟩,⟨#[1]⟩⟩,Wu⟩
def gX:Pv:=⟨⟨#[116,97,120]⟩,⟨false,1,0⟩,true,⟨false,⟨#[]⟩,⟨#[]⟩⟩,⟨false,⟨#[]⟩,⟨#[]⟩⟩,adl⟩
def Ik:Pv:=⟨⟨#[97,105,100]⟩,⟨false,1,0⟩,false,⟨false,⟨#[10]⟩,⟨#[1]⟩⟩,⟨false,⟨#[1,249]⟩,⟨#[1]⟩⟩,Wu⟩
def Il:Pv:=⟨⟨#[97,105,100]⟩,⟨false,1,0⟩,false,⟨false,⟨#[]⟩,⟨#[1]⟩⟩,⟨false,⟨#[1,244]⟩,⟨#[1]⟩⟩,Wu⟩
def Io:Pv:=⟨⟨#[116,97,120]⟩,⟨false,0,0⟩,true,⟨false,⟨#[]⟩,⟨#[]⟩⟩,⟨false,⟨#[]⟩,⟨#[]⟩⟩,adl⟩
def sJ:Lw:=⟨[jf,jg],[lF],[iT,gX]⟩
def Py:List Ln:=[.f jf,.f jg,.s lF,.p iT,.p gX]
def Jd:ByteArray:=⟨(([102,97,99,116,32,105,110,99,111,109,101,32,109,49,100,48,10,102,97,99,116,32,115,105,110,103,108,101,32,116,114,117,116,104,10,115,99,104,101,100,117,108,101,32,115,99,97,108,101,32,109].append [49,100,48,58,32,48,32,49,47,49,48,44,32,49,48,48,48,32,49,47,53,10,112,114,111,118,105,115,105,111,110,32,97,105,100,32,109,49,100,48,32,115,116,101,112,32,49,48,32,99,97]).append ([112,32,53,48,48,58,32,105,102,40,102,97,99,116,46,115,105,110,103,108,101,44,32,36,49,48,48,44,32,100,105,118,40,111,119,110,46,116,97,120,44,32,52,41,41,10,112,114,111,118,105].append [115,105,111,110,32,116,97,120,32,109,49,100,48,32,99,104,97,114,103,101,58,32,114,97,116,101,46,115,99,97,108,101,40,115,117,98,40,102,97,99,116,46,105,110,99,111,109,101,44,32,111,119,110,46,97,105,100,41,41,10])).toArray⟩
def Wv:ByteArray:=⟨#[102,97,99,116,32,105,110,99,111,109,101,32,109,49,100,48,10,102,97,99,116,32,115,105,110,103,108,101,32,116,114,117,116,104,10,115,99,104,101,100,117,108,101,32,115,99,97,108,101,32,109,49,100,48,58,32,48,32,49,47,49,48,44,32,49,48,48,48,32,49,47,53,10,112,114,111,118,105,115,105,111,110,32,97,105,100,32,109,49,100,48,32,115,116,101,112,32,49,48,32,99,97,112,32,53,48,48,58,32,105,102,40,102,97,99,116,46,115,105,110,103,108,101,44,32,36,49,48,48,44,32,100,105,118,40,111,119,110,46,116,97,120,44,32,52,41,41,10,112,114,111,118,105,115,105,111,110,32,116,97,120,32,109,49,100,48,32,99,104,97,114,103,101,58,32,114,97,116,101,46,115,99,97,108,101,40,115,117,98,40,102,97,99,116,46,105,110,99,111,109,101,44,32,111,119,110,46,97,105,100,41,41]⟩
def abI:ByteArray:=⟨([112,114,111,118,105,115,105,111,110,32,116,97,120,32,109,49,100,48,32,99,104,97,114,103,101,58,32,114,97,116,101,46].append [115,99,97,108,101,40,115,117,98,40,102,97,99,116,46,105,110,99,111,109,101,44,32,111,119,110,46,97,105,100,41,41,10]).toArray⟩
def abJ:ByteArray:=⟨#[102,97,99,116,32,115,105,110,103,108,101,32,116,114,117,116,104,10,102,97,99,116,32,105,110,99,111,109,101,32,109,49,100,48,10]⟩
theorem Pz:uK ⟨#[102,97,99,116,32,105,110,99,111,109,101,32,109,49,100,48]⟩ (.f jf):=⟨⟨#[]⟩,⟨by decide,[102,97,99,116,32,105,110,99,111,109,101,32,109,49,100,48],by decide+kernel,by decide,by decide+kernel,by decide+kernel⟩,by decide+kernel,by decide+kernel⟩
theorem PD:uK ⟨#[102,97,99,116,32,115,105,110,103,108,101,32,116,114,117,116,104]⟩ (.f jg):=⟨⟨#[]⟩,⟨by decide,[102,97,99,116,32,115,105,110,103,108,101,32,116,114,117,116,104],by decide+kernel,by decide,by decide+kernel,by decide+kernel⟩,by decide+kernel,by decide+kernel⟩
theorem Ig.of {rest:ByteArray} {bJ:List Bk} {ps:List ByteArray} (h1:rest.size<=1000000) (h2:mY rest=ps) (h3:Lib.countB rest ⟨#[44,32]⟩+1=bJ.length) (h4:ps.length=bJ.length) (h5:bJ.length<=1000) (h6:∀i (h:i<bJ.length) (h':i<ps.length),Ie ps[i] bJ[i]):Ig rest bJ:=by
 subst h2;exact⟨h1,h3,h4,h5,h6⟩
theorem Zu:uK ⟨#[115,99,104,101,100,117,108,101,32,115,99,97,108,101,32,109,49,100,48,58,32,48,32,49,47,49,48,44,32,49,48,48,48,32,49,47,53]⟩ (.s lF):=by
 refine⟨⟨#[48,32,49,47,49,48,44,32,49,48,48,48,32,49,47,53]⟩,⟨by decide,[115,99,104,101,100,117,108,101,32,115,99,97,108,101,32,109,49,100,48],by decide+kernel,by decide,by decide+kernel,by decide+kernel⟩,by decide+kernel,by decide+kernel,Ig.of (ps:=[⟨#[48,32,49,47,49,48]⟩,⟨#[49,48,48,48,32,49,47,53]⟩]) (by decide) (by decide+kernel) (by decide+kernel) rfl (by decide) ?_⟩;intro i h h'
 match i with
 |0=>exact (show Ie ⟨#[48,32,49,47,49,48]⟩ ⟨⟨false,⟨#[]⟩,⟨#[1]⟩⟩,⟨false,⟨#[1]⟩,⟨#[10]⟩⟩⟩ from⟨by decide,[48],[49,47,49,48],by decide+kernel,by decide,by decide,by decide+kernel,by decide+kernel⟩)
 |1=>exact (show Ie ⟨#[49,48,48,48,32,49,47,53]⟩ ⟨⟨false,⟨#[3,232]⟩,⟨#[1]⟩⟩,⟨false,⟨#[1]⟩,⟨#[5]⟩⟩⟩ from⟨by decide,[49,48,48,48],[49,47,53],by decide+kernel,by decide,by decide,by decide+kernel,by decide+kernel⟩)
 |n+2=>exact absurd h' (by simp)
theorem Zv:uK ⟨#[112,114,111,118,105,115,105,111,110,32,97,105,100,32,109,49,100,48,32,115,116,101,112,32,49,48,32,99,97,112,32,53,48,48,58,32,105,102,40,102,97,99,116,46,115,105,110,103,108,101,44,32,36,49,48,48,44,32,100,105,118,40,111,119,110,46,116,97,120,44,32,52,41,41]⟩ (.p iT):=⟨⟨#[105,102,40,102,97,99,116,46,115,105,110,103,108,101,44,32,36,49,48,48,44,32,100,105,118,40,111,119,110,46,116,97,120,44,32,52,41,41]⟩,true,⟨#[49,48]⟩,⟨#[53,48,48]⟩,⟨by decide,[112,114,111,118,105,115,105,111,110,32,97,105,100,32,109,49,100,48,32,115,116,101,112,32,49,48,32,99,97,112,32,53,48,48],by decide+kernel,by decide,by decide+kernel,by decide+kernel⟩,by decide+kernel,by decide+kernel,by decide,by decide+kernel,fun _=>⟨by decide,by decide,by decide+kernel,by decide+kernel⟩,fun h=>by cases h⟩
theorem Zw:uK ⟨#[112,114,111,118,105,115,105,111,110,32,116,97,120,32,109,49,100,48,32,99,104,97,114,103,101,58,32,114,97,116,101,46,115,99,97,108,101,40,115,117,98,40,102,97,99,116,46,105,110,99,111,109,101,44,32,111,119,110,46,97,105,100,41,41]⟩ (.p gX):=⟨⟨#[114,97,116,101,46,115,99,97,108,101,40,115,117,98,40,102,97,99,116,46,105,110,99,111,109,101,44,32,111,119,110,46,97,105,100,41,41]⟩,false,⟨#[]⟩,⟨#[]⟩,⟨by decide,[112,114,111,118,105,115,105,111,110,32,116,97,120,32,109,49,100,48,32,99,104,97,114,103,101],by decide+kernel,by decide,by decide+kernel,by decide+kernel⟩,by decide+kernel,by decide+kernel,by decide,by decide+kernel,(fun h=>by cases h),fun _=>⟨rfl,rfl⟩⟩
theorem kH.of {s:ByteArray} {dG:List Ln} {ls:List ByteArray} (h1:s.size<=1000000) (h2:gY s=ls) (h3:dG.length=gW s) (h4:dG.length<=500) (h5:∀i (h:i<dG.length) (h':i<ls.length),uK ls[i] dG[i]):kH s dG:=by
 subst h2;exact⟨h1,h3,h4,h5⟩
theorem Wx:kH Jd Py:=by
 refine kH.of (ls:=[⟨#[102,97,99,116,32,105,110,99,111,109,101,32,109,49,100,48]⟩,⟨#[102,97,99,116,32,115,105,110,103,108,101,32,116,114,117,116,104]⟩,⟨#[115,99,104,101,100,117,108,101,32,115,99,97,108,101,32,109,49,100,48,58,32,48,32,49,47,49,48,44,32,49,48,48,48,32,49,47,53]⟩,⟨#[112,114,111,118,105,115,105,111,110,32,97,105,100,32,109,49,100,48,32,115,116,101,112,32,49,48,32,99,97,112,32,53,48,48,58,32,105,102,40,102,97,99,116,46,115,105,110,103,108,101,44,32,36,49,48,48,44,32,100,105,118,40,111,119,110,46,116,97,120,44,32,52,41,41]⟩,⟨#[112,114,111,118,105,115,105,111,110,32,116,97,120,32,109,49,100,48,32,99,104,97,114,103,101,58,32,114,97,116,101,46,115,99,97,108,101,40,115,117,98,40,102,97,99,116,46,105,110,99,111,109,101,44,32,111,119,110,46,97,105,100,41,41]⟩,⟨#[]⟩]) (by decide+kernel) (by decide+kernel) (by decide+kernel) (by decide) ?_;intro i h h'
 match i with
 |0=>exact Pz
 |1=>exact PD
 |2=>exact Zu
 |3=>exact Zv
 |4=>exact Zw
 |n+5=>exact absurd h (by simp[Py])
theorem Wy:kH Wv [.f jf,.f jg,.s lF,.p iT]:=by
 refine kH.of (ls:=[⟨#[102,97,99,116,32,105,110,99,111,109,101,32,109,49,100,48]⟩,⟨#[102,97,99,116,32,115,105,110,103,108,101,32,116,114,117,116,104]⟩,⟨#[115,99,104,101,100,117,108,101,32,115,99,97,108,101,32,109,49,100,48,58,32,48,32,49,47,49,48,44,32,49,48,48,48,32,49,47,53]⟩,⟨#[112,114,111,118,105,115,105,111,110,32,97,105,100,32,109,49,100,48,32,115,116,101,112,32,49,48,32,99,97,112,32,53,48,48,58,32,105,102,40,102,97,99,116,46,115,105,110,103,108,101,44,32,36,49,48,48,44,32,100,105,118,40,111,119,110,46,116,97,120,44,32,52,41,41]⟩,⟨#[112,114,111,118,105,115,105,111,110,32,116,97,120,32,109,49,100,48,32,99,104,97,114,103,101,58,32,114,97,116,101,46,115,99,97,108,101,40,115,117,98,40,102,97,99,116,46,105,110,99,111,109,101,44,32,111,119,110,46,97,105,100,41,41]⟩]) (by decide+kernel) (by decide+kernel) (by decide+kernel) (by decide) ?_;intro i h h'
 match i with
 |0=>exact Pz
 |1=>exact PD
 |2=>exact Zu
 |3=>exact Zv
 |n+4=>exact absurd h (by simp)
theorem WC:kH abI [.p gX]:=by
 refine kH.of (ls:=[⟨#[112,114,111,118,105,115,105,111,110,32,116,97,120,32,109,49,100,48,32,99,104,97,114,103,101,58,32,114,97,116,101,46,115,99,97,108,101,40,115,117,98,40,102,97,99,116,46,105,110,99,111,109,101,44,32,111,119,110,46,97,105,100,41,41]⟩,⟨#[]⟩]) (by decide+kernel) (by decide+kernel) (by decide+kernel) (by decide) ?_;intro i h h'
 match i with
 |0=>exact Zw
 |n+1=>exact absurd h (by simp)
theorem WE:kH abJ [.f jg,.f jf]:=by
 refine kH.of (ls:=[⟨#[102,97,99,116,32,115,105,110,103,108,101,32,116,114,117,116,104]⟩,⟨#[102,97,99,116,32,105,110,99,111,109,101,32,109,49,100,48]⟩,⟨#[]⟩]) (by decide+kernel) (by decide+kernel) (by decide+kernel) (by decide) ?_;intro i h h'
 match i with
 |0=>exact PD
 |1=>exact Pz
 |n+2=>exact absurd h (by simp)
theorem Je:dP Py=sJ:=rfl
theorem Jf:aT sJ=0:=by decide+kernel
theorem TU:(⟨(eu sJ).toArray⟩:ByteArray)=Jd:=by decide+kernel
theorem PE:eu sJ≠[]/\(eu sJ).length<=1000000000000:=by decide+kernel
theorem abK:lD Jd Py=(sJ,0,0):=by
 unfold lD;rw[if_neg (by decide+kernel),Je,Jf,if_neg (by decide),TU,if_neg (fun h=>h rfl)]
theorem abL:lD Wv [.f jf,.f jg,.s lF,.p iT]=(⟨[],[],[]⟩,5,11):=by
 unfold lD;rw[if_pos (by decide+kernel),show gW Wv=4 by decide+kernel];rfl
theorem abM:aT (dP [.f jf,.f jg,.s lF,.p iT])=12:=by decide+kernel
theorem PK:aT (dP [.p gX])=12:=by decide+kernel
theorem abN:lD abI [.p gX]=(⟨[],[],[]⟩,0,12):=by
 unfold lD;rw[if_neg (by decide+kernel),PK,if_pos (by decide)]
theorem PL:aT (dP [.f jg,.f jf])=11:=by decide+kernel
theorem abO:lD abJ [.f jg,.f jf]=(⟨[],[],[]⟩,0,11):=by
 unfold lD;rw[if_neg (by decide+kernel),PL,if_pos (by decide)]
theorem Zx:aT ⟨[⟨⟨#[97,105,100]⟩,jf.ty⟩,jg],[lF],[iT,gX]⟩=14:=by decide+kernel
theorem abP:aT ⟨[jf,jg],[lF],[gX]⟩=12:=by decide+kernel
theorem WG:aT ⟨[jf,jg],[lF],[gX,iT]⟩=11:=by decide+kernel
theorem abQ:aT ⟨[jf,jg],[lF],[Ik,gX]⟩=1:=by decide+kernel
theorem abR:aT ⟨[jf,jg],[lF],[Il,gX]⟩=1:=by decide+kernel
theorem Zy:aT ⟨[jf,jg],[lF],[iT,Io]⟩=13:=by decide+kernel
theorem Zz:aT ⟨[],[],[]⟩=0:=by decide+kernel
theorem abS:(dO sJ).length=9:=by decide+kernel
theorem ahU:bY ⟨#[97,95,49]⟩=true:=by decide+kernel
theorem ahV:bY ⟨#[49,97]⟩=false:=by decide+kernel
theorem qA (fs:List Dc) (ss:List Sc) (ps:List Pv) (hf:fs.length<=1000) (hs:∀s∈ss,s=lF) (hs':ss.length<=1000) (hp:∀p∈ps,p=iT∨p=gX∨p=Ik∨p=Il∨p=Io) (hp':ps.length<=1000):lW ⟨fs,ss,ps⟩:=by
 refine⟨hf,hs',hp',fun s h=>?_,fun p h=>?_⟩
 ·rw[hs s h];decide
 ·rcases hp p h with rfl|rfl|rfl|rfl|rfl<;>exact⟨by decide,by decide,by decide⟩
theorem Ip (s:ByteArray) (dG:List Ln) (w:World) (hL:bT w) (hok:kH s dG) (hF:lW (dP dG)) (hT:aT (dP dG)=0->zL (dP dG)/\eu (dP dG)≠[]/\(eu (dP dG)).length<=1000000000000):
  Calls prog 13 #[.string s] w (ahP (lD s dG) w):=(callsIn_wide (n:=6)).1 (Zr s dG w hL hok hF hT)
instance (t:Ty):Decidable (wK t):=by unfold wK;infer_instance
theorem KX:zL sJ:=⟨by decide,by decide,by decide,by decide⟩
theorem xH:lW sJ:=qA _ _ _ (by decide) (fun s h=>mem_singleton.1 h) (by decide) (fun p h=>by simp at h;rcases h with rfl|rfl<;>simp) (by decide)
theorem Fj {s:ByteArray} {dG:List Ln} {n c:Int} {w:World} (hL:bT w) (hok:kH s dG) (hF:lW (dP dG)) (hc:aT (dP dG)≠0) (hp:lD s dG=(⟨[],[],[]⟩,n,c)):
  Calls prog 13 #[.string s] w fun e w'=>∃f sc p:Hd,e=.returned (.tuple #[.agg #[.slice f.a f.n f.c,.slice sc.a sc.n sc.c,.slice p.a p.n p.c],.int .i64 n,.int .i64 c])/\Below w.heap.size w w':=by
 refine (Ip s dG w hL hok hF (fun h=>absurd h hc)).mono ?_;rintro e w' ⟨f,sc,p,ss,ps,rfl,_,hb⟩;rw[hp];exact⟨f,sc,p,rfl,hb⟩
theorem aeG {α β:Type} {l:List (α × β)} {a:α} (h:l.map Prod.fst=[a]):∃x,l=[(a,x)]:=by
 match l,h with
 |[⟨y,x⟩],h=>exact⟨x,by have:=(List.cons.inj h).1;rw[<-this]⟩
theorem aeH {α β:Type} {l:List (α × β)} {a b:α} (h:l.map Prod.fst=[a,b]):∃x y,l=[(a,x),(b,y)]:=by
 match l,h with
 |[⟨y,x⟩,⟨y',x'⟩],h=>exact⟨x,x',by have h1:=(List.cons.inj h).1;have h2:=(List.cons.inj (List.cons.inj h).2).1;rw[<-h1,<-h2]⟩
theorem ZB (w:World) (hL:bT w):Calls prog 13 #[.string Jd] w fun e w'=>∃(fa sa pa:Option Addr) (fc sc pc:Nat) (x y1 y2:Hd),e=.returned (.tuple #[.agg #[.slice fa 2 fc,.slice sa 1 sc,.slice pa 2 pc],.int .i64 0,.int .i64 0])/\
  iQ w' sJ [(lF,x)] [(iT,y1),(gX,y2)] ⟨fa,2,fc⟩ ⟨sa,1,sc⟩ ⟨pa,2,pc⟩/\Below w.heap.size w w':=by
 refine (Ip Jd Py w hL Wx (by rw[Je];exact xH) (fun _=>by rw[Je];exact⟨KX,PE⟩)).mono ?_;rintro e w' ⟨f,sc,p,ss,ps,rfl,hl,hb⟩;rw[abK] at hl⊢;obtain⟨fa,fn,fc⟩:=f;obtain⟨sa,sn,sc⟩:=sc;obtain⟨pa,pn,pc⟩:=p;obtain⟨x,rfl⟩:=aeG hl.sl;obtain⟨y1,y2,rfl⟩:=aeH hl.pl;obtain rfl:fn=2:=hl.f.len;obtain rfl:sn=1:=hl.s.len;obtain rfl:pn=2:=hl.p.len;exact⟨fa,sa,pa,fc,sc,pc,x,y1,y2,rfl,hl,hb⟩
theorem PO {w:World} {A:Option Addr} {cs:List Value} (h:Rd w A cs) (h0:0<cs.length):∃b o,A=some ⟨b,o,none⟩/\b<w.heap.size/\∀i v,cs[i]?=some v->w.cell? ⟨b,o+i,none⟩=some v:=by
 obtain⟨b,o,hA,hb,hc⟩:=h.at_ h0;exact⟨b,o,hA,hb,fun i v hv=>by obtain⟨hi,e⟩:=List.getElem?_eq_some_iff.1 hv;rw[<-e];exact hc i hi⟩
theorem TW {α:Type} {W:World} {g:Nat} {t:TypeId} {cs:List Value} (hb:aj W g t cs) (enc:α->List Value) (xs:List α) (hx:xs.flatMap enc=cs) (n:Nat) (hn:n=xs.length) (hm:n<=maxLen):dB W enc xs ⟨some ⟨g,0,none⟩,n,n⟩:=
 ⟨hn,Nat.le_refl _,hm,.inr ⟨g,0,rfl,hb.lt,fun i h=>by rw[Nat.zero_add,hb.cells i,<-hx];exact getElem?_eq_getElem h⟩⟩
theorem aiT {w W:World} {x y1 y2:Hd} {f s p:Hd} (h:iQ w sJ [(lF,x)] [(iT,y1),(gX,y2)] f s p) (hb:Below w.heap.size w W) (fs:List Dc) (f':Hd) (hr:dB W Dc.cells fs f'):iQ W ⟨fs,[lF],[iT,gX]⟩ [(lF,x)] [(iT,y1),(gX,y2)] f' s p:=by
 have k:=h.below hb;exact⟨hr,k.s,k.p,rfl,rfl,k.sb,k.pb⟩
theorem Dx {W:World} {l:Lw} {ss:List (Sc × Hd)} {ps:List (Pv × Hd)} {f s p:Hd} (h:iQ W l ss ps f s p) (hL:bT W) (hf:lW l) {c:Int} (hc:aT l=c):Calls prog 9 #[.agg #[.slice f.a f.n f.c,.slice s.a s.n s.c,.slice p.a p.n p.c]] W fun e w'=>e=.returned (.int .i64 c)/\Below W.heap.size W w':=by
 have k:=vC l ss ps f s p W hL h hf;rw[hc] at k;exact k
def abU (y1 y2:Hd) (z:Pv × Hd):Prop:=(z.2=y1/\(z.1=iT∨z.1=Ik∨z.1=Il))∨(z.2=y2/\(z.1=gX∨z.1=Io))
section
variable {w W:World} {x y1 y2:Hd} {f s p p':Hd}
theorem ZC (h:iQ w sJ [(lF,x)] [(iT,y1),(gX,y2)] f s p) (hb:Below w.heap.size w W) (hL:bT W) (ps:List (Pv × Hd)) (hz:∀z∈ps,abU y1 y2 z) (hr:dB W cO ps p') (hl:ps.length<=1000) {c:Int} (hc:aT ⟨[jf,jg],[lF],ps.map Prod.fst⟩=c):
  Calls prog 9 #[.agg #[.slice f.a f.n f.c,.slice s.a s.n s.c,.slice p'.a p'.n p'.c]] W fun e w'=>e=.returned (.int .i64 c)/\Below W.heap.size W w':=by
 have k:=h.below hb;refine Dx (l:=⟨[jf,jg],[lF],ps.map Prod.fst⟩) ⟨k.f,k.s,hr,rfl,rfl,k.sb,fun z hz'=>?_⟩ hL (qA _ _ _ (by decide) (fun s h=>mem_singleton.1 h) (by decide) (fun q hq=>?_) (by rw[length_map];exact hl)) hc
 ·rcases hz z hz' with⟨e,e1⟩|⟨e,e1⟩
  ·have j:=k.pb (iT,y1) (by simp);rw[e];rcases e1 with e1|e1|e1<;>(rw[e1];exact j)
  ·have j:=k.pb (gX,y2) (by simp);rw[e];rcases e1 with e1|e1<;>(rw[e1];exact j)
 ·obtain⟨z,hz',rfl⟩:=mem_map.1 hq;rcases hz z hz' with⟨_,e1|e1|e1⟩|⟨_,e1|e1⟩<;>simp[e1]
theorem Dy (h:iQ w sJ [(lF,x)] [(iT,y1),(gX,y2)] f s p) (hb:Below w.heap.size w W) (hL:bT W) {g:Nat} (z1 z2:Pv × Hd) (h1:abU y1 y2 z1) (h2:abU y1 y2 z2) (hk:aj W g 59 (cO z1++cO z2)) {c:Int} (hc:aT ⟨[jf,jg],[lF],[z1.1,z2.1]⟩=c):
  Calls prog 9 #[.agg #[.slice f.a f.n f.c,.slice s.a s.n s.c,.slice (some ⟨g,0,none⟩) 2 2]] W fun e w'=>e=.returned (.int .i64 c)/\Below W.heap.size W w':=
 ZC (p':=⟨some ⟨g,0,none⟩,2,2⟩) h hb hL [z1,z2] (fun z hz=>by rcases mem_cons.1 hz with rfl|hz;exact h1;obtain rfl:=mem_singleton.1 hz;exact h2) (TW hk cO [z1,z2] (by simp[List.flatMap]) 2 rfl (by decide)) (by show (2:Nat)<=1000;decide) hc
end
structure QX (W X:World) (L:List (Nat × TypeId × List Value)):Prop where
 b:Below W.heap.size W X
 l:∀q∈L,W.heap.size<=q.1/\aj X q.1 q.2.1 q.2.2
section
variable {W X X':World} {L:List (Nat × TypeId × List Value)} {T:Nat} {t:TypeId} {cs:List Value}
theorem QX.step (h:QX W X L) (hb:Below X.heap.size X X'):QX W X' L:=⟨ah h.b hb,fun q hq=>⟨(h.l q hq).1,(h.l q hq).2.below hb (h.l q hq).2.lt⟩⟩
theorem QX.new (h:QX W X L) (hX:X.alloc (.cells cs.toArray t)=X'):QX W X' ((X.heap.size,t,cs)::L):=by
 obtain⟨k,hb⟩:=zA hX;have j:=h.step hb;refine⟨j.b,fun q hq=>?_⟩;rcases mem_cons.1 hq with rfl|hq
 ·exact⟨h.b.size,k⟩
 ·exact j.l q hq
theorem QX.two (h:QX W X L) (o:List Value) (u:TypeId):QX W ((X.alloc (.cells o.toArray u)).alloc (.cells cs.toArray t)) ((X.heap.size+1,t,cs)::(X.heap.size,u,o)::L):=by
 have k:=(h.new (cs:=o) (t:=u) rfl).new (cs:=cs) (t:=t) rfl;rw[size_alloc] at k;exact k
theorem QX.sw {a b:Nat × TypeId × List Value} (h:QX W X (a::b::L)):QX W X (b::a::L):=⟨h.b,fun q hq=>h.l q (by simp only[mem_cons] at hq⊢;rcases hq with h|h|h<;>simp[h])⟩
theorem QX.ne (h:QX W X L):∀q∈L,q.1≠X.heap.size:=fun q hq=>Nat.ne_of_lt (h.l q hq).2.lt
theorem QX.set (h:QX W X ((T,t,cs)::L)) (i:Nat) (v:Value) (hn:∀q∈L,q.1≠T):QX W (X.setCell ⟨T,i,none⟩ v) ((T,t,cs.set i v)::L):=by
 have k:=h.l (T,t,cs) (by simp);refine⟨h.b.setCell (p:=⟨T,i,none⟩) k.1 _,fun q hq=>?_⟩;rcases mem_cons.1 hq with rfl|hq
 ·exact⟨k.1,k.2.set i v⟩
 ·have j:=h.l q (by simp[hq]);exact⟨j.1,j.2.other (p:=⟨T,i,none⟩) (hn q hq) v⟩
theorem QX.hd (h:QX W X ((T,t,cs)::L)):aj X T t cs:=(h.l (T,t,cs) (by simp)).2
theorem QX.ix (h:QX W X L) (i:Nat) (hi:i<L.length):aj X L[i].1 L[i].2.1 L[i].2.2:=(h.l _ (getElem_mem hi)).2
end
theorem WI (w:World) (hL:bT w):Calls prog 5 #[] w fun e w'=>e=.returned (.bool true)/\Below w.heap.size w w':=by
 have jR:Hid (∀W,Below w.heap.size w W->bT W):=fun W hb=>hL.below hb
 have HP1:=zH (ZB w hL);clear hL;go_enter func5,ntmps5;go_wp2_with fail;refine HP1.out.mono ?_;rintro e w1 ⟨fa,sa,pa,fc,sc,pc,x,y1,y2,rfl,uQ,hb1⟩
 go_upto_region 2 with fail
 generalize hX:w1.alloc _=W1;obtain⟨hT,hA⟩:=zA hX;have HB1:=zH (ah hb1 hA);replace uQ:=uQ.below hA;generalize w1.heap.size=T1 at hT⊢;clear hX hA hb1 HP1;obtain⟨bf,qf,rfl,hbf,hcf⟩:=PO uQ.f.rd (by decide);obtain⟨bp,qp,rfl,hbp,hcp⟩:=PO uQ.p.rd (Nat.zero_lt_succ 23);have hc:=fun (X:World) (h:Below W1.heap.size W1 X)=>have a:=fun i v e=>(h.cell (p:=⟨bf,qf+i,none⟩) hbf).trans (hcf i v e);have b:=fun i v e=>(h.cell (p:=⟨bp,qp+i,none⟩) hbp).trans (hcp i v e);have c:=(hT.below h hT.lt).cells;And.intro (c) <| And.intro (a 1 _ rfl) <| And.intro (a 2 _ rfl) <| And.intro (a 3 _ rfl) <| And.intro (a 4 _ rfl) <| And.intro (a 5 _ rfl) <| And.intro (a 6 _ rfl) <| And.intro (a 7 _ rfl) <| And.intro (show X.cell? ⟨bp,qp,none⟩=some _ from b 0 _ rfl) <| And.intro (b 1 _ rfl) <| And.intro (b 2 _ rfl) <| And.intro (b 3 _ rfl) <| And.intro (b 4 _ rfl) <| And.intro (b 5 _ rfl) <| And.intro (b 6 _ rfl) <| And.intro (b 7 _ rfl) <| And.intro (b 8 _ rfl) <| And.intro (b 9 _ rfl) <| And.intro (b 10 _ rfl) <| And.intro (b 11 _ rfl) <| And.intro (b 12 _ rfl) <| And.intro (b 13 _ rfl) <| And.intro (b 14 _ rfl) <| And.intro (b 15 _ rfl) <| And.intro (b 16 _ rfl) <| And.intro (b 17 _ rfl) <| And.intro (b 18 _ rfl) <| And.intro (b 19 _ rfl) <| And.intro (b 20 _ rfl) <| And.intro (b 21 _ rfl) <| And.intro (b 22 _ rfl) <| b 23 _ rfl
 have kQ:=zH uQ;have oK:=Ci _ _ _ _ _ _ W1 (jR.out _ HB1.out) uQ xH (fun _=>⟨KX,PE⟩);unfold yI nD at oK;rw[Jf,if_pos rfl,TU] at oK;replace oK:=zH oK;have hpc:2<=pc:=uQ.p.cap;have ape:¬pc=1:=by omega
 clear uQ hcf hcp hT;have hl:=hc _ (Below.refl _ _);go_wp2_with fail;refine oK.out.mono ?_;rintro e w2 ⟨rfl,hb⟩;clear hl oK;have hl:=hc _ hb
 go_upto_region 3 with fail
 have hst:Jd.toList=[102,97,99,116,32,105,110,99,111,109,101,32,109,49,100,48,10,102,97,99,116,32,115,105,110,103,108,101,32,116,114,117,116,104,10,115,99,104,101,100,117,108,101,32,115,99,97,108,101,32,109,49,100,48,58,32,48,32,49,47,49,48,44,32,49,48,48,48,32,49,47,53,10,112,114,111,118,105,115,105,111,110,32,97,105,100,32,109,49,100,48,32,115,116,101,112,32,49,48,32,99,97,112,32,53,48,48,58,32,105,102,40,102,97,99,116,46,115,105,110,103,108,101,44,32,36,49,48,48,44,32,100,105,118,40,111,119,110,46,116,97,120,44,32,52,41,41,10,112,114,111,118,105,115,105,111,110,32,116,97,120,32,109,49,100,48,32,99,104,97,114,103,101,58,32,114,97,116,101,46,115,99,97,108,101,40,115,117,98,40,102,97,99,116,46,105,110,99,111,109,101,44,32,111,119,110,46,97,105,100,41,41,10]:=by rw[ByteArray.toList_eq];rfl
 go_wp2_with fail;refine (Y7 _ _ _ _ _ _ w2 (kQ.out.below hb) xH).mono ?_;rintro e w3 ⟨⟨a9,n9,c9⟩,rfl,hr9,hb3⟩;obtain rfl:n9=9:=hr9.len.trans abS;have h:QX W1 w3 []:=⟨ah hb hb3,fun q hq=>by cases hq⟩
 clear hl hst hr9 hb hb3
 go_upto_region 5 with fail
 go_cut [6] from 76 to 91 (fun v X=>∃T g,v=.pointer (some ⟨T,0,none⟩)/\QX W1 X [(T,29,[.slice (some ⟨g,0,none⟩) 2 2,.slice sa 1 sc,.slice (some ⟨bp,qp,none⟩) 2 pc]),(g,53,Dc.cells ⟨⟨#[97,105,100]⟩,jf.ty⟩++Dc.cells jg)])
 case first=>
  refine jL (Below W1.heap.size W1) 99 h.b.drew (fun v hv hS=>?_);replace h:=h.step hv
  iterate 10 refine dR ?_
  refine iM 11 ?_;refine iM 12 ?_;refine iM 13 ?_;refine iM 14 ?_;refine FP 10 16 (Js (fun _=>hS.alloc hS.size _) (fun hS=>?_)) (Js (fun _=>hS.alloc hS.size _) (fun hS=>?_))
  ·refine iM 15 ?_;refine ng 16 (fun _=>hS.alloc hS.size _) (fun hS=>?_);refine nZ 17 (fun _=>(h.two _ _).b) (fun _=>?_);refine iW ?_;go_wp2
   go_meet
   case rel=>exact⟨_,_,rfl,h.two _ _⟩
  ·refine ng 10 (fun _=>hS.alloc hS.size _) (fun hS=>?_);refine iM 15 ?_;refine nZ 17 (fun _=>(h.two _ _).b) (fun _=>?_);refine iW ?_;go_wp2
   go_meet
   case rel=>exact⟨_,_,rfl,(h.two _ _).sw⟩
 case rest=>
 clear h;obtain⟨T6,g6,rfl,h⟩:=hcut
 go_upto_region 6 with fail
 refine jL (Below W1.heap.size W1) 99 h.b.drew (fun v hv hS=>?_);replace h:=h.step hv
 iterate 8 refine dR ?_
 refine ng 8 (fun _=>hS.alloc hS.size _) (fun hS=>?_);refine nZ 9 (fun _=>(h.new rfl).b) (fun _=>?_);refine iW ?_;clear hS hv
 go_upto_region 7 with fail
 generalize hX:World.alloc _ _=X;replace h:=h.new hX;generalize v.heap.size=T7 at h⊢;clear hX
 go_cut [8] from 100 to 113 (fun u X=>∃T g,u=.pointer (some ⟨T,0,none⟩)/\QX W1 X [(T,29,[.slice (some ⟨bf,qf,none⟩) 2 fc,.slice sa 1 sc,.slice (some ⟨g,0,none⟩) 2 2]),(g,59,cO (gX,y2)++cO (iT,y1)),(T7,29,[.slice (some ⟨bf,qf,none⟩) 2 fc,.slice sa 1 sc,.slice (some ⟨bp,qp+12,none⟩) 1 (pc-1)]),(T6,29,[.slice (some ⟨g6,0,none⟩) 2 2,.slice sa 1 sc,.slice (some ⟨bp,qp,none⟩) 2 pc]),(g6,53,Dc.cells ⟨⟨#[97,105,100]⟩,jf.ty⟩++Dc.cells jg)])
 case first=>
  refine jL (Below W1.heap.size W1) 99 h.b.drew (fun v hv hS=>?_);replace h:=h.step hv
  iterate 12 refine dR ?_
  refine FP 12 14 (Js (fun _=>hS.alloc hS.size _) (fun hS=>?_)) (Js (fun _=>hS.alloc hS.size _) (fun hS=>?_))
  ·refine iM 13 ?_;refine ng 14 (fun _=>hS.alloc hS.size _) (fun hS=>?_);refine nZ 15 (fun _=>(h.two _ _).b) (fun _=>?_);refine iW ?_;go_wp2
   go_meet
   case rel=>exact⟨_,_,rfl,h.two _ _⟩
  ·refine ng 12 (fun _=>hS.alloc hS.size _) (fun hS=>?_);refine iM 13 ?_;refine nZ 15 (fun _=>(h.two _ _).b) (fun _=>?_);refine iW ?_;go_wp2
   go_meet
   case rel=>exact⟨_,_,rfl,(h.two _ _).sw⟩
 case rest=>
 clear h;obtain⟨T8,g8,rfl,h⟩:=hcut
 have HO5:Hid (∀W,Calls prog 18 #[.int .i64 505] W fun e w'=>e=.returned (.agg #[.bool false,.string ⟨#[1,249]⟩,.string ⟨#[1]⟩])/\Below W.heap.size W w'):=fun W=>by
  have k:=TV 505 W (by decide) (by decide);rw[show aC (505:Int).toNat=⟨#[1,249]⟩ by decide+kernel,show aC 1=⟨#[1]⟩ by decide+kernel] at k;exact k
 have HO0:Hid (∀W,Calls prog 18 #[.int .i64 0] W fun e w'=>e=.returned (.agg #[.bool false,.string ⟨#[]⟩,.string ⟨#[1]⟩])/\Below W.heap.size W w'):=fun W=>by
  have k:=TV 0 W (by decide) (by decide);rw[show aC (0:Int).toNat=⟨#[]⟩ by decide+kernel,show aC 1=⟨#[1]⟩ by decide+kernel] at k;exact k
 have HKN:Hid (∀W,Calls prog 19 #[.int .i64 0,.int .i64 0] W fun e w'=>e=.returned (.agg #[.bool false,.int .i64 0,.int .i64 0])/\Below W.heap.size W w'):=fun W=>Y9 0 0 W
 have hl:=hc _ h.b
 go_upto_region 9 with fail
 generalize hX:World.alloc _ _=X;have hn:=h.ne;replace h:=h.new hX;clear hX hl;go_wp2_with fail;refine (HO5.out X).mono ?_;rintro e Y ⟨rfl,hb⟩;replace h:=h.step hb;have cK:=h.hd.cells;have fK:=h.hd.bH
 go_upto_region 10 with fail
 replace h:=((h.set 9 (.bool false) hn).set 10 (.string ⟨#[1,249]⟩) hn).set 11 (.string ⟨#[1]⟩) hn;simp only[List.set] at h;generalize World.setCell (World.setCell (World.setCell Y _ _) _ _) _ _=Z at h⊢;clear hn cK fK hb;have hl:=hc _ h.b
 go_upto_region 11 with fail
 generalize hX:World.alloc _ _=X;have hn:=h.ne;replace h:=h.new hX;clear hX hl;go_wp2_with fail;refine (HO0.out X).mono ?_;rintro e Y ⟨rfl,hb⟩;replace h:=h.step hb;have cK:=h.hd.cells;have fK:=h.hd.bH
 go_upto_region 12 with fail
 replace h:=((h.set 6 (.bool false) hn).set 7 (.string ⟨#[]⟩) hn).set 8 (.string ⟨#[1]⟩) hn;simp only[List.set] at h;generalize World.setCell (World.setCell (World.setCell Y _ _) _ _) _ _=Z at h⊢;clear hn cK fK hb;have hl:=hc _ h.b
 go_upto_region 13 with fail
 generalize hX:World.alloc _ _=X;have hn:=h.ne;replace h:=h.new hX;clear hX hl;go_wp2_with fail;refine (HKN.out X).mono ?_;rintro e Y ⟨rfl,hb⟩;replace h:=h.step hb;have cK:=h.hd.cells;have fK:=h.hd.bH
 go_upto_region 14 with fail
 replace h:=((h.set 1 (.bool false) hn).set 2 (.int .i64 0) hn).set 3 (.int .i64 0) hn;simp only[List.set] at h;generalize World.setCell (World.setCell (World.setCell Y _ _) _ _) _ _=Z at h⊢;clear hn cK fK hb
 rename World=>W
 clear HO5 HO0 HKN;have hl:=fun (X:World) (k:Below W.heap.size W X)=>And.intro (hc X (ah h.b k)) ((h.step k).ix 2 (by simp)).cells
 simp only[getElem_cons_succ,getElem_cons_zero] at hl
 go_upto_region 14 with fail
 refine jL (Below W.heap.size W) 99 (aI _ _ 1) (fun v hv hS=>?_)
 iterate 9 refine dR ?_
 refine ng 9 (fun _=>hS.alloc hS.size _) (fun hS=>?_);refine dR ?_;refine mg 11 (Dy kQ.out (ah h.b hS) (jR.out _ (ah HB1.out (ah h.b hS))) (Ik,y1) (gX,y2) (.inl ⟨rfl,.inr (.inl rfl)⟩) (.inr ⟨rfl,.inl rfl⟩) (aj.new _ _ _) abQ) ?_;rintro e v2 ⟨rfl,hb⟩;refine⟨_,rfl,ah hS hb,fun hS=>?_⟩;refine dR ?_;refine iW ?_;replace h:=h.step hS;clear hl hv hb hS
 rename World=>W
 have hl:=fun (X:World) (k:Below W.heap.size W X)=>And.intro (hc X (ah h.b k)) ((h.step k).ix 1 (by simp)).cells
 simp only[getElem_cons_succ,getElem_cons_zero] at hl
 go_upto_region 15 with fail
 refine jL (Below W.heap.size W) 99 (aI _ _ 1) (fun v hv hS=>?_)
 iterate 9 refine dR ?_
 refine ng 9 (fun _=>hS.alloc hS.size _) (fun hS=>?_);refine dR ?_;refine mg 11 (Dy kQ.out (ah h.b hS) (jR.out _ (ah HB1.out (ah h.b hS))) (Il,y1) (gX,y2) (.inl ⟨rfl,.inr (.inr rfl)⟩) (.inr ⟨rfl,.inl rfl⟩) (aj.new _ _ _) abR) ?_;rintro e v2 ⟨rfl,hb⟩;refine⟨_,rfl,ah hS hb,fun hS=>?_⟩;refine dR ?_;refine iW ?_;replace h:=h.step hS;clear hl hv hb hS
 rename World=>W
 have hl:=fun (X:World) (k:Below W.heap.size W X)=>And.intro (hc X (ah h.b k)) ((h.step k).ix 0 (by simp)).cells
 simp only[getElem_cons_succ,getElem_cons_zero] at hl
 go_upto_region 16 with fail
 refine jL (Below W.heap.size W) 99 (aI _ _ 1) (fun v hv hS=>?_)
 iterate 9 refine dR ?_
 refine ng 9 (fun _=>hS.alloc hS.size _) (fun hS=>?_);refine dR ?_;refine mg 11 (Dy kQ.out (ah h.b hS) (jR.out _ (ah HB1.out (ah h.b hS))) (iT,y1) (Io,y2) (.inl ⟨rfl,.inl rfl⟩) (.inr ⟨rfl,.inr rfl⟩) (aj.new _ _ _) Zy) ?_;rintro e v2 ⟨rfl,hb⟩;refine⟨_,rfl,ah hS hb,fun hS=>?_⟩;refine dR ?_;refine iW ?_;replace h:=h.step hS;clear hl hv hb hS;have heU:((⟨#[102,97,99,116,32,105,110,99,111,109,101,32,109,49,100,48,10,102,97,99,116,32,115,105,110,103,108,101,32,116,114,117,116,104,10,115,99,104,101,100,117,108,101,32,115,99,97,108,101,32,109,49,100,48,58,32,48,32,49,47,49,48,44,32,49,48,48,48,32,49,47,53,10,112,114,111,118,105,115,105,111,110,32,97,105,100,32,109,49,100,48,32,115,116,101,112,32,49,48,32,99,97,112,32,53,48,48,58,32,105,102,40,102,97,99,116,46,115,105,110,103,108,101,44,32,36,49,48,48,44,32,100,105,118,40,111,119,110,46,116,97,120,44,32,52,41,41,10,112,114,111,118,105,115,105,111,110,32,116,97,120,32,109,49,100,48,32,99,104,97,114,103,101,58,32,114,97,116,101,46,115,99,97,108,101,40,115,117,98,40,102,97,99,116,46,105,110,99,111,109,101,44,32,111,119,110,46,97,105,100,41,41,10]⟩:ByteArray).extract 0 212)=Wv:=by decide+kernel
 go_wp2_with fail;refine (Fj (jR.out _ (ah HB1.out h.b)) Wy (qA [jf,jg] [lF] [iT] (by decide) (fun s h=>mem_singleton.1 h) (by decide) (fun p h=>by obtain rfl:=mem_singleton.1 h;simp) (by decide)) (by rw[abM];decide) abL).mono ?_;rintro e Y ⟨f7,s7,q7,rfl,hb⟩;replace h:=h.step hb;clear heU
 go_upto_region 18 with fail
 generalize hX:World.alloc _ _=X;replace h:=h.step (zA hX).2;clear hX hb;go_wp2_with fail;refine (Fj (s:=abI) (jR.out _ (ah HB1.out h.b)) WC (qA [] [] [gX] (by decide) (fun s h=>by cases h) (by decide) (fun p h=>by obtain rfl:=mem_singleton.1 h;simp) (by decide)) (by rw[PK];decide) abN).mono ?_;rintro e Y ⟨f7,s7,q7,rfl,hb⟩;replace h:=h.step hb
 go_upto_region 19 with fail
 generalize hX:World.alloc _ _=X;replace h:=h.step (zA hX).2;clear hX hb;go_wp2_with fail;refine (Fj (s:=abJ) (jR.out _ (ah HB1.out h.b)) WE (qA [jg,jf] [] [] (by decide) (fun s h=>by cases h) (by decide) (fun p h=>by cases h) (by decide)) (by rw[PL];decide) abO).mono ?_;rintro e Y ⟨f7,s7,q7,rfl,hb⟩;replace h:=h.step hb
 go_upto_region 20 with fail
 generalize hX:World.alloc _ _=X;replace h:=h.step (zA hX).2;clear hX hb
 letI:Inhabited (Pv × Hd):=⟨(iT,y1)⟩
 have hl:=hc _ h.b;go_wp2_with fail;refine (ZA ⟨#[116,97,120]⟩ [(iT,y1),(gX,y2)] ⟨some ⟨bf,qf,none⟩,2,fc⟩ ⟨sa,1,sc⟩ ⟨some ⟨bp,qp,none⟩,2,pc⟩ _ (kQ.out.below h.b).p (by show 0<2;decide) 1 rfl (by decide)).mono ?_;rintro e Y ⟨rfl,hb⟩;replace h:=h.step hb;clear hl hb;have hl:=(h.ix 6 (by simp)).cells;simp only[getElem_cons_succ,getElem_cons_zero] at hl;go_wp2_with fail;refine (Dx (aiT kQ.out h.b _ _ (TW (h.ix 7 (by simp)) Dc.cells [⟨⟨#[97,105,100]⟩,jf.ty⟩,jg] rfl 2 rfl (by decide))) (jR.out _ (ah HB1.out h.b)) (qA _ _ _ (by show (2:Nat)<=1000;decide) (fun s h=>mem_singleton.1 h) (by decide) (fun p h=>by rcases mem_cons.1 h with rfl|h;simp;obtain rfl:=mem_singleton.1 h;simp) (by show (2:Nat)<=1000;decide)) Zx).mono ?_;rintro e Y ⟨rfl,hb⟩;replace h:=h.step hb;clear hl hb;have hl:=(h.ix 5 (by simp)).cells;simp only[getElem_cons_succ,getElem_cons_zero] at hl;go_wp2_with fail;refine (ZC (p':=⟨some ⟨bp,qp+12,none⟩,1,pc-1⟩) kQ.out h.b (jR.out _ (ah HB1.out h.b)) [(gX,y2)] (fun z hz=>by obtain rfl:=mem_singleton.1 hz;exact .inr ⟨rfl,.inl rfl⟩) ?_ (by show (1:Nat)<=1000;decide) abP).mono ?_
 ·have k:=(kQ.out.below h.b).p;have h1:=k.cap;have h2:=k.max;obtain⟨b',q',e,hlt,hcp⟩:=PO k.rd (Nat.zero_lt_succ 23);injection e with e;injection e with e1 e2;subst e1 e2;refine⟨rfl,by show 1<=pc-1;omega,by show pc-1<=maxLen;exact Nat.le_trans (Nat.sub_le _ _) h2,.inr ⟨bp,qp+12,rfl,hlt,fun i h=>?_⟩⟩;rw[Nat.add_assoc];refine hcp (12+i) _ ?_;rw[Nat.add_comm 12 i];exact getElem?_eq_getElem h
 rintro e Y ⟨rfl,hb⟩;replace h:=h.step hb;clear hl hb;have hl:=(h.ix 3 (by simp)).cells;simp only[getElem_cons_succ,getElem_cons_zero] at hl;go_wp2_with fail;refine (Dy kQ.out h.b (jR.out _ (ah HB1.out h.b)) (gX,y2) (iT,y1) (.inr ⟨rfl,.inl rfl⟩) (.inl ⟨rfl,.inl rfl⟩) (h.ix 4 (by simp)) WG).mono ?_;rintro e Y ⟨rfl,hb⟩;replace h:=h.step hb;clear hl hb;go_wp2_with fail;refine (Dx (iQ.empty _) (jR.out _ (ah HB1.out h.b)) (qA [] [] [] (by decide) (fun s h=>by cases h) (by decide) (fun p h=>by cases h) (by decide)) Zz).mono ?_;rintro e Y ⟨rfl,hb⟩;replace h:=h.step hb;clear hb;have hl:=hc _ h.b;go_wp2_with fail;refine (Dx (kQ.out.below h.b) (jR.out _ (ah HB1.out h.b)) xH Jf).mono ?_;rintro e Y ⟨rfl,hb⟩;replace h:=h.step hb;clear hl hb;have k:=xA ⟨#[97,95,49]⟩ Y (jR.out _ (ah HB1.out h.b)).e;rw[ahU] at k;go_wp2_with fail;refine k.mono ?_;rintro e Y ⟨rfl,hb⟩;replace h:=h.step hb;clear hb k;have k:=xA ⟨#[49,97]⟩ Y (jR.out _ (ah HB1.out h.b)).e;rw[ahV] at k;go_wp2_with fail;refine k.mono ?_;rintro e Y ⟨rfl,hb⟩;replace h:=h.step hb;clear hb k;go_wp2;go_ret;exact⟨rfl,ah HB1.out h.b⟩
section
variable {Ld:bU}
theorem ZE (tJ:∀w,Ld.p w->bT w) (l:Lw) (hf:lW l):PC prog Ld 9 [l.p] (·=iP (aT l)):=by
 intro w L us hw hL hr;obtain⟨u,r,rfl,h1,h2⟩:=hr.cons_inv;cases h2.nU;obtain⟨ss,ps,f,s,p,rfl,hA⟩:=h1.law;exact (vC l ss ps f s p w (tJ w hw) hA hf).mono fun e w' ⟨h3,h4⟩=>⟨_,_,h3,rfl,.sc _,h4⟩
theorem aiU (tJ:∀w,Ld.p w->bT w) (l:Lw) (hf:lW l) (hT:aT l=0->zL l/\eu l≠[]/\(eu l).length<=1000000000000):PC prog Ld 16 [l.p] (·=.tu [sP (if aT l=0 then ⟨(eu l).toArray⟩ else ⟨#[]⟩),iP (aT l)]):=by
 intro w L us hw hL hr;obtain⟨u,r,rfl,h1,h2⟩:=hr.cons_inv;cases h2.nU;obtain⟨ss,ps,f,s,p,rfl,hA⟩:=h1.law;refine (Ci l ss ps f s p w (tJ w hw) hA hf hT).mono fun e w' ⟨h3,h4⟩=>⟨_,_,h3,rfl,?_,h4⟩
 unfold yI;by_cases hc:aT l=0
 ·rw[hc];refine .tu (us:=[.string ⟨(eu l).toArray⟩,.int .i64 0]) rfl fun i p u hp hu=>?_
  match i,hp,hu with
  |0,hp,hu=>cases hp;cases hu;exact .sc _
  |1,hp,hu=>cases hp;cases hu;exact .sc _
 ·simp only[if_neg hc]
  refine .tu (us:=[.string ⟨#[]⟩,.int .i64 (aT l)]) rfl fun i p u hp hu=>?_
  match i,hp,hu with
  |0,hp,hu=>cases hp;cases hu;exact .sc _
  |1,hp,hu=>cases hp;cases hu;exact .sc _
theorem aeI (tJ:∀w,Ld.p w->bT w):PC prog Ld 5 [] (·=bP true):=by
 intro w L us hw hL hr;cases hr.nU;exact (WI w (tJ w hw)).mono fun e w' ⟨h3,h4⟩=>⟨_,_,h3,rfl,.sc _,h4⟩
end
section
set_option maxRecDepth 100000
set_option maxHeartbeats 2000000
variable {Ld:bU}
theorem aiV (l:Lw) (hl:BU l):Bg prog Ld 17 [l.p] (.sl 5 ((dO l).map Sg.p)):=by
 obtain⟨h1,h2,h3⟩:=hl;refine pcF func17 fun X=>?_
 refine run ?_;refine nK 2 3 67 5 rfl rfl (by decide) ?_;refine jr l.facts.length (fun k=>[(.s 14,.s (.v (nP k))),(.s 2,.s (.ow 3 (((l.facts.take k).map oM).map Sg.p).length)),(.o 3,.o (.row 67 5 (((l.facts.take k).map oM).map Sg.p)))]) [.s 1,.o 1,.s 12,.s 13] ?_;intro k hk hw;refine run ?_;refine aZ (fun hu=>?_) fun hu=>?_
 ·have e:(l.facts.take (k+1)).map oM=(l.facts.take k).map oM++[oM l.facts[k]]:=by rw[take_succ_eq_append_getElem hu,map_append];rfl
  refine run ?_;refine gq
 ·have e:(l.facts.take k).map oM=preS l 0:=by rw[take_of_length_le (by omega)];simp[preS]
  rw[e];refine run ?_;clear hu e hw;refine jr 3 (fun j=>[(.s 28,.s (.v (nP j))),(.s 2,.s (.ow 3 ((preS l j).map Sg.p).length)),(.o 3,.o (.row 67 5 ((preS l j).map Sg.p)))]) [.s 1,.o 1,.s 27] ?_;intro j hj hw;have e3:=BR l j;have e4:=ES l j;have hjp:j*l.ay.length<=3*200:=Nat.mul_le_mul hj h3;refine run ?_;refine aZ (fun hu=>?_) fun hu=>?_
  ·have hel:[iP 6,iP 7,iP 8][j]?=some (iP ((6+j:Nat):Int)):=by
    rcases (by omega:j=0∨j=1∨j=2) with rfl|rfl|rfl<;>rfl
   refine run ?_;refine jr l.ay.length (fun i=>[(.s 34,.s (.v (nP i))),(.s 2,.s (.ow 3 ((preS l j++(l.ay.take i).map (jd ((6+j:Nat):Int))).map Sg.p).length)),(.o 3,.o (.row 67 5 ((preS l j++(l.ay.take i).map (jd ((6+j:Nat):Int))).map Sg.p)))]) [.s 1,.o 1,.s 27,.s 28,.s 6,.s 32,.s 33] ?_;intro i hi hw2;refine run ?_;refine aZ (fun hv=>?_) fun hv=>?_
   ·have e5:preS l j++(l.ay.take (i+1)).map (jd ((6+j:Nat):Int))=(preS l j++(l.ay.take i).map (jd ((6+j:Nat):Int)))++[jd ((6+j:Nat):Int) l.ay[i]]:=by rw[take_succ_eq_append_getElem hv,map_append,append_assoc];rfl
    have e6:((l.ay.take i).map (jd ((6+j:Nat):Int))).length<=200:=by rw[length_map,length_take];omega
    rw[e5];generalize (l.ay.take i).map (jd ((6+j:Nat):Int))=o at*;refine run ?_;refine gq
   ·rw[take_of_length_le (show l.ay.length<=i by omega),<-e3];refine run ?_;refine gq (hk:=by omega)
  ·obtain rfl:j=3:=by omega
   refine run ?_;clear hu e3 hw;refine jr l.aH.length (fun i=>[(.s 52,.s (.v (nP i))),(.s 2,.s (.ow 3 ((preS l 3++(l.aH.take i).map oN).map Sg.p).length)),(.o 3,.o (.row 67 5 ((preS l 3++(l.aH.take i).map oN).map Sg.p)))]) [.s 1,.o 1,.s 50,.s 51] ?_;intro i hi hw2;refine run ?_;refine aZ (fun hv=>?_) fun hv=>?_
   ·have e5:preS l 3++(l.aH.take (i+1)).map oN=(preS l 3++(l.aH.take i).map oN)++[oN l.aH[i]]:=by rw[take_succ_eq_append_getElem hv,map_append,append_assoc];rfl
    have e6:((l.aH.take i).map oN).length<=100:=by rw[length_map,length_take];omega
    rw[e5];generalize (l.aH.take i).map oN=o at*;refine run ?_;refine gq
   ·rw[take_of_length_le (show l.aH.length<=i by omega),O4];refine run ?_;refine acE ?_;intro y hy;obtain⟨a,ha,hy⟩:=mem_flatMap.1 hy;obtain⟨g,_,rfl⟩:=mem_map.1 ha;have hy:y∈[iP g.op,sP g.name,bP g.ty.truth,iP g.ty.aA,iP g.ty.days]:=hy;simp only[mem_cons,not_mem_nil,or_false] at hy;rcases hy with rfl|rfl|rfl|rfl|rfl<;>exact⟨_,rfl⟩
end
end Go.Proofs.YtjpbmbgincdjaaaGreatDoor
