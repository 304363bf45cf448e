/- Part: Uq. -/
import Derived.RangeFuncNested
import Derived.Test.YtjpbmbgincdjaaaGreatDoorK01
set_option linter.all false
set_option maxRecDepth 100000
set_option maxHeartbeats 0
namespace Go.Proofs.YtjpbmbgincdjaaaGreatDoor
open Go.RowKit World
structure wP (b:Nat) (W W':World):Prop where
 os:W'.os=W.os
 tape:W'.tape=W.tape
 output:W'.output=W.output
 size:W.heap.size<=W'.heap.size
 same:∀(k:Nat) (o:Obj),W.heap[k]?=some o->k≠b->W'.heap[k]?=some o
 typ:∀(t:TypeId) (cs:List Value),aj W b t cs->∃cs',aj W' b t cs'
theorem wP.trans {b:Nat} {X Y Z:World} (h:wP b X Y) (k:wP b Y Z):wP b X Z:=
 ⟨k.os.trans h.os,k.tape.trans h.tape,k.output.trans h.output,Nat.le_trans h.size k.size,fun i o h1 h2=>k.same i o (h.same i o h1 h2) h2,fun t cs h1=>by obtain⟨cs',h2⟩:=h.typ t cs h1;exact k.typ t cs' h2⟩
structure wQ (b B:Nat) (W W':World):Prop where
 os:W'.os=W.os
 tape:W'.tape=W.tape
 output:W'.output=W.output
 size:W.heap.size<=W'.heap.size
 same:∀(k:Nat) (o:Obj),W.heap[k]?=some o->k≠b->(k<B∨o.isCells=true)->W'.heap[k]?=some o
 typ:∀(t:TypeId) (cs:List Value),aj W b t cs->∃cs',aj W' b t cs'
theorem wP.q {b:Nat} {W W':World} (h:wP b W W') (B:Nat):wQ b B W W':=⟨h.os,h.tape,h.output,h.size,fun k o h1 h2 _=>h.same k o h1 h2,h.typ⟩
theorem KT {W:World} {B l k:Nat} {o o1:Obj} (hB:B<=l) (hl:W.heap[l]?=some o) (ho:o.isCells=false) (h1:W.heap[k]?=some o1) (h3:k<B∨o1.isCells=true):k≠l:=by
 rintro rfl;rw[hl] at h1;injection h1 with h1;subst h1;rcases h3 with h3|h3
 ·omega
 ·rw[ho] at h3;cases h3
theorem wQ.putObj {b B:Nat} {W:World} {l:Nat} {o:Obj} (o':Obj) (hB:B<=l) (hl:W.heap[l]?=some o) (ho:o.isCells=false):wQ b B W (W.putObj l o'):=
 ⟨rfl,rfl,rfl,by simp[World.putObj],fun k o1 h1 _ h3=>(putObj_heap_other (KT hB hl ho h1 h3)).trans h1,fun t cs h1=>⟨cs,(putObj_heap_other (KT hB hl ho h1 (.inr rfl))).trans h1⟩⟩
theorem wP.alloc (b:Nat) (W:World) (o:Obj):wP b W (W.alloc o):=⟨rfl,rfl,rfl,by simp,fun k _ h1 _=>(Below.heap_alloc W o k (Array.getElem?_eq_some_iff.1 h1).1).trans h1,fun t cs h1=>⟨cs,h1.alloc o⟩⟩
structure Kb (K:Nat->Prop) (W W':World):Prop where
 size:W.heap.size<=W'.heap.size
 same:∀(k:Nat) (o:Obj),W.heap[k]?=some o->K k->W'.heap[k]?=some o
theorem Kb.refl (K:Nat->Prop) (W:World):Kb K W W:=⟨Nat.le_refl _,fun _ _ h _=>h⟩
theorem Kb.trans {K:Nat->Prop} {A B C:World} (h:Kb K A B) (k:Kb K B C):Kb K A C:=⟨Nat.le_trans h.size k.size,fun i o h1 h2=>k.same i o (h.same i o h1 h2) h2⟩
theorem Kb.putObj {K:Nat->Prop} (W:World) {l:Nat} (o':Obj) (hl:¬K l):Kb K W (W.putObj l o'):=
 ⟨by simp[World.putObj],fun k o h1 h2=>(putObj_heap_other (by rintro rfl;exact hl h2)).trans h1⟩
theorem Kb.alloc {K:Nat->Prop} (W:World) (o:Obj):Kb K W (W.alloc o):=⟨by simp,fun k _ h1 _=>(Below.heap_alloc W o k (Array.getElem?_eq_some_iff.1 h1).1).trans h1⟩
def ahM {α:Type} (F:Fence) (n:Nat) (P:Program) (g:Nat) (lb:Array Value) (enc:α->Value) (b:Nat) (K:Nat->Prop) (S Sp Nx:List α->Prop) (w:World):Prop:=
 ∀(l:Nat) (J Jx:List α->World->Prop) (W:World),Kb K w W->(∀b',b'=b->W.heap[b']?=w.heap[b']?)->(∀s X Y,J s X->wP b X Y->J s Y)->(∀s X Y,Jx s X->wP b X Y->Jx s Y)->
  (∀pre x W1,J pre W1->Nx (pre++[x])->YieldAt F (n-1) P l #[enc x] W1 fun e W'=>
    (e=.returned (.bool true)/\J (pre++[x]) W'/\Kb (fun k=>K k∨k=b) W1 W')∨(e=.returned (.bool false)/\Jx (pre++[x]) W'))->
  J [] W->
  CallsIn F n P g (#[.func (.yield l) #[] #[]]++lb) W fun e W'=>(∃v,e=.returned v)/\((∃xs,S xs/\J xs W')∨(∃pre,Sp pre/\Jx pre W'))
def LQ {α:Type} (B:Nat) (K:Nat->Prop) (I Ix:List α->World->Prop) (xs:List α) (W:World):Exit->Act->World->Prop
 |.normal,_,W'=>KeepsFrom B W W'/\Kb K W W'/\I xs W'
 |.ret,_,W'=>KeepsFrom B W W'/\Ix xs W'
 |_,_,_=>False
theorem zS {b:Nat} {W W':World} (h:wP b W W') {k:Nat} {o:Obj} (hk:W.heap[k]?=some o) (hb:k≠b):W'.heap[k]?=some o:=h.same k o hk hb
theorem Fh {α:Type} {F:Fence} {n:Nat} {P:Program} {w:World} {g:Operand} {ps:Array Tmp} {assign body:Code} {Q:Exit->Act->World->Prop} {a:Act}
  (hro:F.round=none) (h1:1<=n) {gf:Nat} {lb:Array Value} (hg:a.eval g=.func (.func gf) #[] lb) (hFg:F.fn gf) (eg:∀args w,(callFunc gf args).run P w=.ok (.enter gf args) w)
  {enc:α->Value} {b:Nat} {K:Nat->Prop} (hb:b<w.heap.size) (hK:∀k,K k->k<w.heap.size) {S Sp Nx:List α->Prop} (hseq:ahM F (n-1) P gf lb enc b K S Sp Nx w) (hps:ps.size=1)
  (I Ix:List α->World->Prop) (hI:∀s X Y,I s X->wQ b w.heap.size X Y->I s Y) (hIx:∀s X Y,Ix s X->wQ b w.heap.size X Y->Ix s Y) (h0:I [] w) (a1:α->Act)
  (hassign:∀(l:Nat) (x:α) (W:World) (K':Act->World->Prop),K' (a1 x) W->assign.wpIn (F.inRound l) (n-1-1) P (Exit.then K' (fun _ _ _=>False)) {tmps:=(ps.zip #[enc x]).foldl (fun t (p,v)=>t.setIfInBounds p v) a.tmps,defers:=[]} W)
  (hbody:∀(l:Nat) (pre:List α) (x:α) (W:World),I pre W->Nx (pre++[x])->body.wpIn (F.inRound l) (n-1-1) P (LQ w.heap.size (fun k=>K k∨k=b) I Ix (pre++[x]) W) (a1 x) W)
  (hdone:∀(D:Nat) (xs:List α) (W:World),w.heap.size<=D->S xs->I xs W->W.heap[D]?=some (.deferred (some []))->Q .normal {a with defers:={target:=.collected D,args:=#[]}::a.defers} W)
  (hstop:∀(D:Nat) (pre:List α) (W:World),w.heap.size<=D->Sp pre->Ix pre W->W.heap[D]?=some (.deferred (some []))->Code.ret.wpIn F n P Q {a with defers:={target:=.collected D,args:=#[]}::a.defers} W):
  (Code.rangeFunc g ps assign body).wpIn F n P Q a w:=by
 refine wpIn_rangeFunc ?_;intro fn hfn;rw[hro];obtain⟨rec,hrec⟩:∃rec:LoopState->Option Code->Loop,rec=fun st pe=>{state:=st,pending:=pe,fn,tmps:=a.tmps,params:=ps,assign,body,defers:=w.heap.size}:=⟨_,rfl⟩
 obtain⟨W1,hW1⟩:=zF ((w.alloc (.deferred (some []))).alloc (.loop (rec .ready none)));have hs1:W1.heap.size=w.heap.size+2:=by rw[<-hW1];simp
 have hL1:W1.heap[w.heap.size+1]?=some (.loop (rec .ready none)):=by
  rw[<-hW1];have:=alloc_heap_new (w.alloc (.deferred (some []))) (.loop (rec .ready none));rwa[size_alloc] at this
 have hK1:W1.heap[w.heap.size]?=some (.deferred (some [])):=by
  rw[<-hW1];exact (Below.heap_alloc _ _ _ (by simp)).trans (alloc_heap_new w _)
 have hst:wP b w W1:=by
  rw[<-hW1];exact (wP.alloc b w _).trans (wP.alloc b _ _)
 have hI1:I [] W1:=hI _ _ _ h0 (hst.q _);have amK:Kb K w W1:=by rw[<-hW1];exact (Kb.alloc w _).trans (Kb.alloc _ _)
 have hbb:∀b',b'=b->W1.heap[b']?=w.heap[b']?:=by
  rintro b' rfl;rw[<-hW1];exact (Below.heap_alloc _ _ _ (by simp;omega)).trans (Below.heap_alloc _ _ _ hb)
 have hnK:∀l,w.heap.size<=l->¬(K l∨l=b):=fun l hl=>by
  rintro (h|h)
  ·have:=hK l h;omega
  ·omega
 refine⟨w.heap.size+1,[{target:=.collected w.heap.size,args:=#[]}],W1,{target:=.fn (.func gf) lb,args:=#[.func (.yield (w.heap.size+1)) #[] #[]]},W1,gf,
  #[.func (.yield (w.heap.size+1)) #[] #[]]++lb,W1,?_,?_,?_,?_,fun _=>h1,?_⟩
 ·rw[<-hW1,hrec];exact run_enterLoop_outer _ _ _ _ _
 ·simp only[resolve,hg]
  simp[go_sem]
 ·intro f' hf';simp[Target.leads] at hf';subst hf';exact hFg
 ·simp[invoke,go_sem,eg]
 ·refine (hseq (w.heap.size+1)
   (fun pre W=>I pre W/\W.heap[w.heap.size+1]?=some (.loop (rec .ready none))/\W.heap[w.heap.size]?=some (.deferred (some [])))
   (fun pre W=>Ix pre W/\W.heap[w.heap.size+1]?=some (.loop (rec .done (some .ret)))/\W.heap[w.heap.size]?=some (.deferred (some [])))
   W1 amK hbb
   (fun s X Y hs hg'=>⟨hI s X Y hs.1 (hg'.q _),zS hg' hs.2.1 (by omega),zS hg' hs.2.2 (by omega)⟩)
   (fun s X Y hs hg'=>⟨hIx s X Y hs.1 (hg'.q _),zS hg' hs.2.1 (by omega),zS hg' hs.2.2 (by omega)⟩)
   ?_ ⟨hI1,hL1,hK1⟩).mono ?_
  ·rintro pre x W ⟨hi,hl,hk⟩ hlen;have hlt:w.heap.size+1<W.heap.size:=(Array.getElem?_eq_some_iff.1 hl).1;have hy:=run_yield (P:=P) (args:=#[enc x]) hl (by rw[hrec];exact hps.symm);rw[hrec] at hy;refine⟨fn,_,assign,body,hy,roundIn_of_wpIn hfn (hassign _ x W _ ?_)⟩;clear hy;refine⟨_,run_beginRound hl (by rw[hrec]),?_⟩;have hl2:(W.putObj (w.heap.size+1) (.loop {rec .ready none with state:=.busy})).heap[w.heap.size+1]?=some (.loop {rec .ready none with state:=.busy}):=putObj_heap_same hlt;have hk2:(W.putObj (w.heap.size+1) (.loop {rec .ready none with state:=.busy})).heap[w.heap.size]?=some (.deferred (some [])):=(putObj_heap_other (by omega)).trans hk;have hw2:Kb (fun k=>K k∨k=b) W (W.putObj (w.heap.size+1) (.loop {rec .ready none with state:=.busy})):=Kb.putObj _ _ (hnK _ (by omega));refine wpIn_mono (hbody _ pre x _ (hI _ _ _ hi (wQ.putObj _ (by omega) hl rfl)) hlen) ?_
   have fin:∀(jump:Option Code) (W3:World),KeepsFrom w.heap.size (W.putObj (w.heap.size+1) (.loop {rec .ready none with state:=.busy})) W3->
     (Instr.endRound (w.heap.size+1) jump).run P W3=.ok (.bool jump.isNone) (W3.putObj (w.heap.size+1) (.loop (rec (if jump.isNone then .ready else .done) jump)))/\
     W3.heap[w.heap.size+1]?=some (.loop {rec .ready none with state:=.busy})/\
     (W3.putObj (w.heap.size+1) (.loop (rec (if jump.isNone then .ready else .done) jump))).heap[w.heap.size+1]?=some (.loop (rec (if jump.isNone then .ready else .done) jump))/\
     (W3.putObj (w.heap.size+1) (.loop (rec (if jump.isNone then .ready else .done) jump))).heap[w.heap.size]?=some (.deferred (some [])):=fun jump W3 hk3=>by
    have hl3:=hk3.same _ _ (by omega) hl2 rfl;have:=run_endRound (P:=P) jump hl3;rw[hrec] at this⊢;exact⟨this,by rw[hrec] at hl3;exact hl3,putObj_heap_same (Array.getElem?_eq_some_iff.1 hl3).1,(putObj_heap_other (by omega)).trans (hk3.same _ _ (Nat.le_refl _) hk2 rfl)⟩
   rintro e a3 W3 hp;cases e with
   |normal=>
    obtain⟨hk3,hkp3,hi3⟩:=hp;obtain⟨hr,hl3,hl4,hk4⟩:=fin none W3 hk3;exact⟨_,_,hr,.inl ⟨rfl,⟨hI _ _ _ hi3 (wQ.putObj _ (by omega) hl3 rfl),hl4,hk4⟩,hw2.trans (hkp3.trans (Kb.putObj _ _ (hnK _ (by omega))))⟩⟩
   |ret=>
    obtain⟨hk3,hi3⟩:=hp;obtain⟨hr,hl3,hl4,hk4⟩:=fin (some .ret) W3 hk3;exact⟨_,_,hr,.inr ⟨rfl,hIx _ _ _ hi3 (wQ.putObj _ (by omega) hl3 rfl),hl4,hk4⟩⟩
   |exit id=>exact hp.elim
   |goto t=>exact hp.elim
   |panic ch=>exact hp.elim
   |outgrown=>exact hp.elim
  ·rintro e W2 ⟨⟨v,rfl⟩,(⟨xs,hS,hi,hl,hk⟩|⟨pre,hSp,hi,hl,hk⟩)⟩
   ·exact⟨none,_,by have:=run_endLoop (P:=P) hl (by rw[hrec];simp);rw[hrec] at this;exact this,hdone _ xs _ (Nat.le_refl _) hS (hI _ _ _ hi (wQ.putObj _ (by omega) hl rfl)) ((putObj_heap_other (by omega)).trans hk)⟩
   ·exact⟨some .ret,_,by have:=run_endLoop (P:=P) hl (by rw[hrec];simp);rw[hrec] at this;exact this,hstop _ pre _ (Nat.le_refl _) hSp (hIx _ _ _ hi (wQ.putObj _ (by omega) hl rfl)) ((putObj_heap_other (by omega)).trans hk)⟩
end Go.Proofs.YtjpbmbgincdjaaaGreatDoor
