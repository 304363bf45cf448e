/- Part: Gb Fr K7 Q9 Qa Qb Y4 Ya. -/
import Derived.Test.YtjpbmbgincdjaaaGreatDoorK22
set_option linter.all false
set_option maxRecDepth 100000
set_option maxHeartbeats 0
namespace Go.Proofs.YtjpbmbgincdjaaaGreatDoor
open Go.RowKit List World Tryz
def S (st:List (List UInt8)):List Value:=st.map fun l=>.string ⟨l.toArray⟩
theorem ba_eq {v:ByteArray} {l:List UInt8} (h:v.data.toList=l):v=⟨l.toArray⟩:=by subst h;obtain⟨⟨x⟩⟩:=v;rfl
theorem agx (x y:ByteArray):(x++y).data.toList=x.data.toList++y.data.toList:=by rw[ByteArray.data_append,Array.toList_append]
theorem yE (v:ByteArray):v.size=v.data.toList.length:=by simp
def Dk (es:List Nd) (w:World) (e:Ending) (w':World):Prop:=
 e=.returned (.tuple #[.string ⟨(if aX es=0 then textE es else []).toArray⟩,.int .i64 (aX es)])/\Below w.heap.size w w'
section
structure Fr (w0:World) (B:Nat) (l:List (TypeId × List Value)) (W:World):Prop where
 b:Hid (B=w0.heap.size)
 blk:∀i x,l[i]?=some x->aj W (B+i) x.1 x.2
 sz:Hid (B+l.length<=W.heap.size)
 low:Below w0.heap.size w0 W
theorem Fr.one (w:World) (t:TypeId) (cs:Array Value):Fr w w.heap.size [(t,cs.toList)] (w.alloc (.cells cs t)):=by
 refine⟨rfl,fun i x h=>?_,?_,(Below.refl _ _).alloc (Nat.le_refl _) _⟩
 ·cases i with
  |zero=>injection h with h;subst h;exact aj.new w t cs
  |succ i=>cases h
 ·show _<=_;rw[size_alloc];exact Nat.le_refl _
theorem Fr.more {w0 W:World} {B:Nat} {l:List (TypeId × List Value)} (h:Fr w0 B l W) (hz:W.heap.size=B+l.length) (t:TypeId) (cs:Array Value):Fr w0 B (l++[(t,cs.toList)]) (W.alloc (.cells cs t)):=by
 refine⟨h.b,fun i x hx=>?_,?_,h.low.alloc (by rw[hz,h.b.out];omega) _⟩
 ·rcases Nat.lt_or_ge i l.length with hi|hi
  ·rw[getElem?_append_left hi] at hx;exact (h.blk i x hx).alloc _
  ·rw[getElem?_append_right hi] at hx;obtain⟨j,rfl⟩:∃j,i=l.length+j:=⟨i-l.length,by omega⟩
   rw[Nat.add_sub_cancel_left] at hx;cases j with
   |zero=>injection hx with hx;subst hx;have:=aj.new W t cs;rw[hz] at this;exact this
   |succ j=>cases hx
 ·show _<=_;rw[size_alloc,hz,length_append];show _+(_+1)<=_;omega
theorem Fr.two (w:World) (t t':TypeId) (cs cs':Array Value):Fr w w.heap.size [(t,cs.toList),(t',cs'.toList)] ((w.alloc (.cells cs t)).alloc (.cells cs' t')):=
 (Fr.one w t cs).more (by rw[size_alloc];rfl) t' cs'
theorem Fr.three (w:World) (t t' t'':TypeId) (cs cs' cs'':Array Value):Fr w w.heap.size [(t,cs.toList),(t',cs'.toList),(t'',cs''.toList)] (((w.alloc (.cells cs t)).alloc (.cells cs' t')).alloc (.cells cs'' t'')):=
 (Fr.two w t t' cs cs').more (by rw[size_alloc,size_alloc];rfl) t'' cs''
variable {w0 W:World} {B:Nat} {l:List (TypeId × List Value)}
theorem Fr.below {W':World} (h:Fr w0 B l W) (hb:Below W.heap.size W W'):Fr w0 B l W':=
 ⟨h.b,fun i x hx=>(h.blk i x hx).below hb (h.blk i x hx).lt,Nat.le_trans h.sz.out hb.size,ah h.low hb⟩
theorem Fr.alloc (h:Fr w0 B l W) (o:Obj):Fr w0 B l (W.alloc o):=h.below (zB _ _)
theorem Fr.drew (h:Fr w0 B l W):Fr w0 B l W.drew:=h.below (aI W.heap.size W 1)
theorem Fr.set {i:Nat} {t:TypeId} {cs:List Value} (h:Fr w0 B l W) (hi:l[i]?=some (t,cs)) (j:Nat) (v:Value):Fr w0 B (l.set i (t,cs.set j v)) (W.setCell ⟨B+i,j,none⟩ v):=by
 have hil:i<l.length:=(List.getElem?_eq_some_iff.1 hi).1;refine⟨h.b,fun k x hx=>?_,?_,h.low.setCell (p:=⟨B+i,j,none⟩) (by have:=h.b.out;show _<=B+i;omega) v⟩
 ·by_cases hk:k=i
  ·subst hk;rw[getElem?_set_self hil] at hx;injection hx with hx;subst hx;exact (h.blk k _ hi).set j v
  ·rw[getElem?_set_ne (fun e=>hk e.symm)] at hx;exact (h.blk k x hx).other (by show B+k≠B+i;omega) v
 ·show _<=_;rw[size_setCell,length_set];exact h.sz.out
theorem Fr.c0 {x:TypeId × List Value} {r:List (TypeId × List Value)} (h:Fr w0 B (x::r) W):∀j,W.cell? ⟨B,j,none⟩=x.2[j]?:=(h.blk 0 x rfl).cells
theorem Fr.f0 {x:TypeId × List Value} {r:List (TypeId × List Value)} (h:Fr w0 B (x::r) W):∀j,W.frozen? ⟨B,j,none⟩=false:=(h.blk 0 x rfl).bH
theorem Fr.c {i:Nat} {x:TypeId × List Value} (h:Fr w0 B l W) (hi:l[i]?=some x):∀j,W.cell? ⟨B+i,j,none⟩=x.2[j]?:=(h.blk i x hi).cells
theorem Fr.f {i:Nat} {x:TypeId × List Value} (h:Fr w0 B l W) (hi:l[i]?=some x):∀j,W.frozen? ⟨B+i,j,none⟩=false:=(h.blk i x hi).bH
theorem Fr.out (h:Fr w0 B l W) {W':World} (hb:Below W.heap.size W W'):Below w0.heap.size w0 W':=ah h.low hb
end
theorem ad2 {p q:Nat->Bool} (h:∀j,q j=true->p j=true) (l:List Nat):(l.filter q).length<=(l.filter p).length:=by
 induction l with
 |nil=>exact Nat.le_refl _
 |cons a l ih=>
  rw[filter_cons,filter_cons];cases hq:q a
  ·cases hp:p a
   ·simpa using ih
   ·simp;omega
  ·rw[h a hq];simp;omega
theorem ad3 {p q:Nat->Bool} {i:Nat} (h:∀j,q j=true->p j=true) (hp:p i=true) (hq:q i=false) (l:List Nat) (hi:i∈l):(l.filter q).length<(l.filter p).length:=by
 induction l with
 |nil=>cases hi
 |cons a l ih=>
  rw[filter_cons,filter_cons];rcases mem_cons.1 hi with rfl|hi
  ·have:=ad2 h l;rw[hp,hq];simp;omega
  ·have:=ih hi;cases hq':q a
   ·cases hp':p a
    ·simpa using this
    ·simp;omega
   ·rw[h a hq'];simp;omega
def unl (n:Nat) (listed:Array Bool):Nat:=((List.range n).filter fun i=> !listed.getD i true).length
theorem NU {l:Array Bool} {i j:Nat} (h:i≠j) (d:Bool):(l.setIfInBounds i true).getD j d=l.getD j d:=by
 rw[Array.getD_eq_getD_getElem?,Array.getD_eq_getD_getElem?,Array.getElem?_setIfInBounds_ne h]
theorem JY {l:Array Bool} {i:Nat}:(l.setIfInBounds i true).getD i true=true:=by
 rw[Array.getD_eq_getD_getElem?,Array.getElem?_setIfInBounds];split<;>(try split)<;>first|rfl|omega|(rw[Array.getElem?_eq_none (by omega)];rfl)
section
variable {P:Program} {ops:Array Oper} {Q:Exit->Act->World->Prop}
theorem Ya (I:Array Bool->Act->World->Prop)
  (hs:∀listed a w i,I listed a w->i∈Region.ready .any ops listed->wpOp P ops Q i (I (listed.setIfInBounds i true)) a w)
  (hd:∀listed a w,I listed a w->Region.ready .any ops listed=[]->Q .normal a w):
  ∀fuel listed a w,I listed a w->unl ops.size listed<=fuel->wpAny P .any ops Q fuel listed a w:=by
 have hlt:∀listed i,i∈Region.ready .any ops listed->unl ops.size (listed.setIfInBounds i true)<unl ops.size listed:=fun listed i hi=>by
  obtain⟨h0,o,ho,_⟩:=mem_ready.1 hi
  have his:i<ops.size:=by
   rcases Nat.lt_or_ge i ops.size with h|h
   ·exact h
   ·rw[Array.getElem?_eq_none h] at ho;cases ho
  refine ad3 (i:=i) (fun j hj=>?_) (by rw[h0];rfl) (by rw[JY];rfl) _ (mem_range.2 his);by_cases e:i=j
  ·subst e;rw[JY] at hj;cases hj
  ·rw[NU e] at hj;exact hj
 intro fuel
 induction fuel with
 |zero=>
  intro listed a w h hu;have hr:Region.ready .any ops listed=[]:=eq_nil_iff_forall_not_mem.2 (fun i hi=>by have:=hlt listed i hi;omega);exact⟨hr,hd _ _ _ h hr⟩
 |succ fuel ih=>
  intro listed a w h hu;exact⟨fun hr=>hd _ _ _ h hr,fun i hi=>wpOp_mono (fun a' w' h'=>ih _ a' w' h' (by have:=hlt listed i hi;omega)) (hs _ _ _ i h hi)⟩
def lG (ops:Array Oper) (i:Nat):Nat:=((ops[i]?).bind (·.dst)).getD 0
def agz (ops:Array Oper) (n:Nat):Bool:=
 (List.range ops.size).all fun i=>match ops[i]? with
   |none=>false
   |some o=>decide (lG ops i<n)&&(o.after.all (fun e=>decide (e.on<i))&&(List.range ops.size).all fun j=>i==j||decide (lG ops i≠lG ops j))
theorem Qx {id n:Nat} {a:Act} {w:World} (hm:P.follows .mixedOrders=true) (hk:agz ops n=true) (ha:a.tmps.size=n) (R:Nat->Value->World->Prop)
  (hR:∀i v w w',R i v w->Below w.heap.size w w'->R i v w')
  (hop:∀i o,ops[i]?=some o->∀(a1:Act) (W:World),Below w.heap.size w W->(∀e∈o.after,Region.binds .any e=true->R e.on ((a1.tmps[lG ops e.on]?).getD undef) W)->
    wpOp P ops Q i (fun a' W'=>∃v,a'=a1.put (some (lG ops i)) v/\R i v W'/\Below W.heap.size W W') a1 W)
  (hend:∀(a1:Act) (W:World),a1.tmps.size=n->a1.defers=a.defers->Below w.heap.size w W->(∀i,i<ops.size->R i ((a1.tmps[lG ops i]?).getD undef) W)->Q .normal a1 W):
  (Code.region id ops true).wp P Q a w:=by
 have hok:∀i o,ops[i]?=some o->lG ops i<n/\(∀e∈o.after,e.on<i)/\∀j,j<ops.size->i≠j->lG ops i≠lG ops j:=fun i o ho=>by
  have his:i<ops.size:=by
   rcases Nat.lt_or_ge i ops.size with h|h
   ·exact h
   ·rw[Array.getElem?_eq_none h] at ho;cases ho
  have h:=all_eq_true.1 hk i (mem_range.2 his);rw[ho] at h;simp only[Bool.and_eq_true,decide_eq_true_eq] at h;refine⟨h.1,fun e he=>?_,fun j hj hij=>?_⟩
  ·have:=Array.all_eq_true_iff_forall_mem.1 h.2.1 e he;exact of_decide_eq_true this
  ·have:=all_eq_true.1 h.2.2 j (mem_range.2 hj);rw[Bool.or_eq_true,beq_iff_eq,decide_eq_true_eq] at this;exact this.resolve_left hij
 refine wp_region_any hm (Ya (fun listed a1 W=>Below w.heap.size w W/\a1.tmps.size=n/\a1.defers=a.defers/\∀i,i<ops.size->listed.getD i true=true->R i ((a1.tmps[lG ops i]?).getD undef) W) ?_ ?_ _ _ _ _ ⟨aI w.heap.size w 1,ha,rfl,?_⟩ ?_)
 ·rintro listed a1 W i ⟨hb,hsz,hdf,hr⟩ hi;obtain⟨h0,o,ho,iG⟩:=mem_ready.1 hi;obtain⟨hd1,hd2,hd3⟩:=hok i o ho
  have his:i<ops.size:=by
   rcases Nat.lt_or_ge i ops.size with h|h
   ·exact h
   ·rw[Array.getElem?_eq_none h] at ho;cases ho
  refine wpOp_mono ?_ (hop i o ho a1 W hb (fun e he hbd=>hr e.on (by have:=hd2 e he;omega) ?_))
  ·rintro a' W' ⟨v,rfl,hv,hbW⟩;refine⟨hb.trans (hbW.mono hb.size),by show (a1.tmps.setIfInBounds _ _).size=n;rw[Array.size_setIfInBounds];exact hsz,hdf,fun j hj hl=>?_⟩;by_cases e:i=j
   ·subst e;show R i (((a1.tmps.setIfInBounds (lG ops i) v)[lG ops i]?).getD undef) W';rw[Array.getElem?_setIfInBounds_self_of_lt (by rw[hsz];exact hd1)];exact hv
   ·rw[NU e] at hl;show R j (((a1.tmps.setIfInBounds (lG ops i) v)[lG ops j]?).getD undef) W';rw[Array.getElem?_setIfInBounds_ne (hd3 j hj e)];exact hR _ _ _ _ (hr j hj hl) hbW
  ·have h1:=iG e he hbd
   have h2:e.on<listed.size:=by
    rcases Nat.lt_or_ge e.on listed.size with h|h
    ·exact h
    ·rw[Array.getD_eq_getD_getElem?,Array.getElem?_eq_none h] at h1;cases h1
   rw[Array.getD_eq_getD_getElem?,Array.getElem?_eq_getElem h2] at h1⊢;exact h1
 ·rintro listed a1 W ⟨hb,hsz,hdf,hr⟩ hnil
  have hall:∀m i,i<m->i<ops.size->listed.getD i true=true:=fun m=>by
   induction m with
   |zero=>intro i hi;omega
   |succ m ih=>
    intro i hi his;cases hl:listed.getD i true
    ·have:i∈Region.ready .any ops listed:=by
      refine mem_ready.2 ⟨hl,ops[i],Array.getElem?_eq_getElem his,fun e he hbd=>?_⟩;have h1:=(hok i ops[i] (Array.getElem?_eq_getElem his)).2.1 e he;have h2:=ih e.on (by omega) (by omega);rcases Nat.lt_or_ge e.on listed.size with h|h
      ·rw[Array.getD_eq_getD_getElem?,Array.getElem?_eq_getElem h] at h2⊢;exact h2
      ·have h3:listed.getD i true=true:=by rw[Array.getD_eq_getD_getElem?,Array.getElem?_eq_none (by omega)];rfl
       rw[h3] at hl;cases hl
     rw[hnil] at this;cases this
    ·rfl
  exact hend a1 W hsz hdf hb (fun i hi=>hr i hi (hall _ i (Nat.lt_succ_self i) hi))
 ·intro i hi h;rw[Array.getD_eq_getD_getElem?,Array.getElem?_replicate,if_pos hi] at h;cases h
 ·exact Nat.le_trans (length_filter_le _ _) (by rw[length_range];exact Nat.le_refl _)
end
section
set_option maxRecDepth 100000
def pG (a:Ra):Ra:=⟨!a.neg&&decide (a.num≠⟨#[]⟩),a.num,a.den⟩
def pO (a b:Ra):Ra:=
 if a.neg=b.neg then low a.neg (ak a.num*ak b.den+ak b.num*ak a.den) (ak a.den*ak b.den)
 else if ak b.num*ak a.den<=ak a.num*ak b.den then low a.neg (ak a.num*ak b.den-ak b.num*ak a.den) (ak a.den*ak b.den)
 else low b.neg (ak b.num*ak a.den-ak a.num*ak b.den) (ak a.den*ak b.den)
def kV (a b:Ra):Int:=dD (pO a (pG b))
theorem lQ {a:Ra} (h:okR a=true):dI a=a:=by unfold dI;rw[if_pos h]
theorem eU {a:Ra} (h:okR a=true):dM a.den=true/\0<ak a.den/\dM a.num=true/\low a.neg (ak a.num) (ak a.den)=a:=by
 unfold okR at h;rw[Bool.and_eq_true,Bool.and_eq_true,Bool.and_eq_true,decide_eq_true_eq,decide_eq_true_eq] at h;exact⟨h.1.1.1,h.1.1.2,h.1.2,h.2⟩
theorem Yb {a:Ra} (h:okR a=true):okR (pG a)=true:=by
 obtain⟨h1,h2,h3,h4⟩:=eU h;obtain⟨neg,num,den⟩:=a;simp only at h1 h2 h3 h4;unfold okR pG;simp only[h1,h3,decide_eq_true h2,Bool.true_and]
 rw[decide_eq_true_eq];unfold low at h4⊢;injection h4 with h5 h6 h7;rw[h6,h7];congr 1
 have e:num=⟨#[]⟩↔ak num=0:=by
  have:=(iH num).1 h3;constructor
  ·intro h;rw[h];rfl
  ·intro h;rw[this,h];exact (nC 0).2 rfl
 by_cases hz:ak num=0
 ·simp[hz,e.2 hz]
 ·have:¬(num=⟨#[]⟩):=fun h=>hz (e.1 h)
  simp[hz,this]
theorem ad4 (a:Ra) (w:World) (hok:okR a=true) (hn:a.num.size<=536870912) (hd:a.den.size<=536870912):
  Calls prog 178 #[a.v] w fun e w'=>e=.returned (pG a).v/\Below w.heap.size w w':=by
 have c1:=cu (Ld:=bG) fun w _=>oV a w hn hd
 rw[lQ hok] at c1;have e:pG a=⟨!a.neg&& !decide (a.num=⟨#[]⟩),a.num,a.den⟩:=by unfold pG;rw[decide_not]
 rw[e];refine iF (Ld:=bG) (us:=[a.v]) ?_ w trivial;refine dh func178 fun X=>?_
 refine run ?_;refine dH [(.o 1,.o (.blk [.v (bP (!a.neg&& !decide (a.num=⟨#[]⟩))),.v (sP a.num),.v (sP a.den)]))] ?_;refine run ?_;exact aF
end
section
set_option maxRecDepth 100000
theorem Vl {s:ByteArray} (h:dM s=true):aC (ak s)=s:=((iH s).1 h).symm
theorem ad5 (a b:Ra) (w:World) (ha:okR a=true) (hb:okR b=true) (S:Nat) (hS:S<=1048577) (h1:a.num.size<=S) (h2:a.den.size<=S) (h3:b.num.size<=S) (h4:b.den.size<=S):
  Calls prog 177 #[a.v,b.v] w fun e w'=>e=.returned (pO a b).v/\Below w.heap.size w w':=by
 obtain⟨p1,p2,p3,p4⟩:=eU ha;obtain⟨q1,q2,q3,q4⟩:=eU hb;have c1:=cu (Ld:=bG) fun W _=>oV a W (by omega) (by omega)
 have c2:=cu (Ld:=bG) fun W _=>oV b W (by omega) (by omega)
 rw[lQ ha] at c1;rw[lQ hb] at c2;have c3:=cu (Ld:=bG) fun W _=>qU a.num b.den W (by omega) (by omega)
 have c4:=cu (Ld:=bG) fun W _=>qU b.num a.den W (by omega) (by omega)
 have c5:=cu (Ld:=bG) fun W _=>qU a.den b.den W (by omega) (by omega)
 have bx:=dV (bV a.num S h1) (bV b.den S h4);have D6:=dV (bV b.num S h3) (bV a.den S h2);have bd:=dV (bV a.den S h2) (bV b.den S h4);have hd0:=Nat.mul_pos p2 q2;have up:256 ^ (S+S)<=256 ^ (S+S+1):=Nat.pow_le_pow_right (by omega) (by omega);have hp:256 ^ (S+S+1)=256 ^ (S+S)*256:=Nat.pow_succ ..;obtain⟨r,hr⟩:=zF (pO a b);rw[hr];unfold pO at hr;generalize ak a.num*ak b.den=x at*;generalize ak b.num*ak a.den=y at*;generalize ak a.den*ak b.den=d at*;have sx:=aY x (S+S) bx;have sy:=aY y (S+S) D6;have c6:=cu (Ld:=bG) fun W _=>Gf (aC x) (aC y) W (by omega) (by omega)
 rw[aS,aS] at c6;refine iF (Ld:=bG) (us:=[a.v,b.v]) ?_ w trivial;refine dh func177 fun X=>?_
 refine run ?_;refine aZ (fun hn=>?_) fun hn=>?_
 ·rw[if_pos hn] at hr;have c7:=cu (Ld:=bG) fun W _=>nO a.neg (x+y) d (S+S+1) W (by omega) (by omega) (by omega) hd0
  rw[hr] at c7;clear hr hp up bx D6 bd;refine run ?_;exact aF
 rw[if_neg hn] at hr;by_cases hle:y<=x
 ·rw[if_pos hle] at hr;have c7:=cu (Ld:=bG) fun W _=>nO a.neg (x-y) d (S+S+1) W (by omega) (by omega) (by omega) hd0
  have c8:=mQ (Ld:=bG) (.sc (.sc .nil)) (.sc (.sc .nil)) rfl fun W _=>Jz (aC x) (aC y) W (by omega) (by omega) (by rw[aS,aS];exact hle)
  rw[aS,aS] at c8;rw[hr] at c7;clear hr hp up bx D6 bd;refine run ?_;exact aF
 ·rw[if_neg hle] at hr;have c7:=cu (Ld:=bG) fun W _=>nO b.neg (y-x) d (S+S+1) W (by omega) (by omega) (by omega) hd0
  have c8:=mQ (Ld:=bG) (.sc (.sc .nil)) (.sc (.sc .nil)) rfl fun W _=>Xr (aC x) (aC y) W (by omega) (by omega) (by rw[aS,aS];omega)
  have c9:=mQ (Ld:=bG) (.sc (.sc .nil)) (.sc (.sc .nil)) rfl fun W _=>Jz (aC y) (aC x) W (by omega) (by omega) (by rw[aS,aS];omega)
  rw[aS,aS] at c9;rw[hr] at c7;clear hr hp up bx D6 bd;refine run ?_;exact aF
theorem JZ (a b:Ra) (S:Nat) (h1:a.num.size<=S) (h2:a.den.size<=S) (h3:b.num.size<=S) (h4:b.den.size<=S):(pO a b).num.size<=S+S+1/\(pO a b).den.size<=S+S+1:=by
 have bx:=dV (bV a.num S h1) (bV b.den S h4);have D6:=dV (bV b.num S h3) (bV a.den S h2);have bd:=dV (bV a.den S h2) (bV b.den S h4);have up:256 ^ (S+S+1)=256 ^ (S+S)*256:=Nat.pow_succ ..;unfold pO;split
 ·exact vY _ _ _ _ (by omega) (by omega)
 ·split
  ·exact vY _ _ _ _ (by omega) (by omega)
  ·exact vY _ _ _ _ (by omega) (by omega)
end
section
set_option maxRecDepth 100000
def fB (a b:Ra):Ra × Bool:=if b.num=⟨#[]⟩ then (⟨false,⟨#[]⟩,⟨#[]⟩⟩,false) else (low (a.neg !=b.neg) (ak a.num*ak b.den) (ak a.den*ak b.num),true)
theorem Si (a b:Ra) (w:World) (ha:okR a=true) (hb:okR b=true) (S:Nat) (hS:S<=1048577) (h1:a.num.size<=S) (h2:a.den.size<=S) (h3:b.num.size<=S) (h4:b.den.size<=S):
  Calls prog 73 #[a.v,b.v] w fun e w'=>e=.returned (.int .i64 (kV a b))/\Below w.heap.size w w':=by
 have hz:=JZ a (pG b) S h1 h2 h3 h4;have c1:=cu (Ld:=bG) fun W _=>ad4 b W hb (by omega) (by omega)
 have c2:=cu (Ld:=bG) fun W _=>ad5 a (pG b) W ha (Yb hb) S hS h1 h2 h3 h4
 have c3:=cu (Ld:=bG) fun W _=>ug (pO a (pG b)) W (by omega) (by omega)
 unfold kV;generalize pO a (pG b)=z at*;generalize pG b=n at*
 have c4:PC prog bG 129 [a.p,b.p] (·=z.p):=by
  refine dh func129 fun X=>?_
  refine run ?_;exact aF
 refine iF (Ld:=bG) (us:=[a.v,b.v]) ?_ w trivial;refine dh func73 fun X=>?_
 refine run ?_;exact aF
theorem Vm {s:ByteArray} (h:s≠⟨#[]⟩):s.toList.isEmpty=false:=by
 cases e:s.toList.isEmpty
 ·rfl
 ·exact absurd (toList_inj (by rw[isEmpty_iff.1 e,ByteArray.toList_eq])) h
theorem yF {s:ByteArray} (h:dM s=true) (h0:s≠⟨#[]⟩):0<ak s:=by
 rcases Nat.eq_zero_or_pos (ak s) with e|e
 ·exact absurd (by rw[(iH s).1 h,e];exact (nC 0).2 rfl) h0
 ·exact e
theorem ad6 (a b:Ra) (w:World) (ha:okR a=true) (hb:okR b=true) (h0:b.num≠⟨#[]⟩) (S:Nat) (hS:S<=1048577) (h1:a.num.size<=S) (h2:a.den.size<=S) (h3:b.num.size<=S) (h4:b.den.size<=S):
  Calls prog 133 #[a.v,b.v] w fun e w'=>e=.returned (.tuple #[(fB a b).1.v,.bool true])/\Below w.heap.size w w':=by
 obtain⟨p1,p2,p3,p4⟩:=eU ha;obtain⟨q1,q2,q3,q4⟩:=eU hb;have c1:=cu (Ld:=bG) fun W _=>oV a W (by omega) (by omega)
 have c2:=cu (Ld:=bG) fun W _=>oV b W (by omega) (by omega)
 rw[lQ ha] at c1;rw[lQ hb] at c2;have e:(fB a b).1=low (a.neg !=b.neg) (ak a.num*ak b.den) (ak a.den*ak b.num):=by unfold fB;rw[if_neg h0]
 have c3:=cu (Ld:=bG) fun W _=>qU a.num b.den W (by omega) (by omega)
 have c4:=cu (Ld:=bG) fun W _=>qU a.den b.num W (by omega) (by omega)
 have c5:=cu (Ld:=bG) fun W _=>nO (a.neg !=b.neg) _ _ (S+S) W (by omega) (dV (bV a.num S h1) (bV b.den S h4)) (dV (bV a.den S h2) (bV b.num S h3)) (Nat.mul_pos p2 (yF q3 h0))
 rw[<-e] at c5;rw[show (a.neg !=b.neg)= !decide (a.neg=b.neg) by cases a.neg<;>cases b.neg<;>rfl] at c5;clear e;generalize (fB a b).1=r at*;refine XQ (Ld:=bG) (us:=[a.v,b.v]) ?_ w trivial;refine dh func133 fun X=>?_
 refine run ?_;refine aZ (fun h=>absurd h h0) fun _=>?_
 refine run ?_;exact aF
theorem Yc (a b:Ra) (S:Nat) (h1:a.num.size<=S) (h2:a.den.size<=S) (h3:b.num.size<=S) (h4:b.den.size<=S):(fB a b).1.num.size<=S+S/\(fB a b).1.den.size<=S+S:=by
 unfold fB;split
 ·exact⟨Nat.zero_le _,Nat.zero_le _⟩
 ·exact vY _ _ _ _ (dV (bV a.num S h1) (bV b.den S h4)) (dV (bV a.den S h2) (bV b.num S h3))
theorem Dl (neg:Bool) (n d:Nat) (hd:0<d):okR (low neg n d)=true:=by
 have hg:0<Nat.gcd n d:=Nat.gcd_pos_of_pos_right n hd;have h1:0<d / Nat.gcd n d:=Nat.div_pos (Nat.le_of_dvd hd (Nat.gcd_dvd_right n d)) hg;have hco:Nat.gcd (n / Nat.gcd n d) (d / Nat.gcd n d)=1:=Nat.coprime_div_gcd_div_gcd hg;unfold okR;have e1:dM (low neg n d).den=true:=(iH _).2 (by unfold low;rw[aS]);have e2:dM (low neg n d).num=true:=(iH _).2 (by unfold low;rw[aS]);have e3:ak (low neg n d).den=d / Nat.gcd n d:=aS _;have e4:ak (low neg n d).num=n / Nat.gcd n d:=aS _
 have hz:n / Nat.gcd n d=0↔n=0:=by
  constructor
  ·intro h;have:=Nat.div_mul_cancel (Nat.gcd_dvd_left n d);rw[h,Nat.zero_mul] at this;exact this.symm
  ·intro h;rw[h,Nat.zero_div]
 rw[e1,e2,e3,e4,decide_eq_true h1,Bool.true_and,Bool.true_and,Bool.true_and,decide_eq_true_eq];unfold low;rw[hco,Nat.div_one,Nat.div_one];congr 1;by_cases hn:n=0
 ·simp[hn]
 ·have:n / Nat.gcd n d≠0:=fun h=>hn (hz.1 h)
  simp[hn,this]
end
section
set_option maxRecDepth 100000
theorem Sj (a b:ByteArray) (w:World) (ha:a.size<=1073741824) (hb:b.size<=1073741824) (h:ak b<=ak a):
  Calls prog 268 #[.string a,.string b] w fun e w'=>e=.returned (.tuple #[.string (aC (ak a-ak b)),.bool true])/\Below w.heap.size w w':=by
 have hc:¬(fD (ak a) (ak b)<0):=by unfold fD;split<;>(try split)<;>omega
 obtain⟨z,hz⟩:=zF (fD (ak a) (ak b));rw[hz] at hc;have HZ:=zH hz;clear hz;go_enter func268,ntmps268;go_wp2_with fail;refine (vU a b _ (by omega) (by omega)).mono ?_;rw[HZ.out];rintro e w1 ⟨rfl,rfl⟩;go_wp2_with fail;refine (qH a _ ha).mono ?_;rintro e w1 ⟨A,l,c,rfl,h1,hb1⟩;go_wp2_with fail;refine (qH b _ hb).mono ?_;rintro e w2 ⟨A',l',c',rfl,h2,hb2⟩;have hl:=h1.gB (fE a);go_wp2_with fail;refine (Gj A A' l c l' c' _ _ w2 (h1.below hb2) h2 (by omega) h).mono ?_;rintro e w3 ⟨A3,l3,c3,rfl,h3,hb3⟩;have hl3:=h3.gB (K:=a.size) (Nat.lt_of_le_of_lt (Nat.sub_le _ _) (fE a));obtain⟨xs,e1,r1,k1,v1⟩:=h3.digits;go_wp2_with fail;refine (pV A3 l3 c3 xs w3 e1 h3.le (by omega) r1 k1.lt).mono ?_;rintro e w4 ⟨rfl,hb4⟩;rw[v1];replace hb4:=ah (ah (ah hb1 hb2) hb3) hb4;clear e1 v1 hb1 hb2 hb3 h1 h2 h3 hl hl3;go_wp2;go_ret2;exact⟨rfl,hb4⟩
theorem aaM (a b:Ra) (w:World) (ha:okR a=true) (hb:okR b=true) (S:Nat) (hS:S<=1048577) (h1:a.num.size<=S) (h2:a.den.size<=S) (h3:b.num.size<=S) (h4:b.den.size<=S):
  Calls prog 214 #[a.v,b.v] w fun e w'=>e=.returned (pO a b).v/\Below w.heap.size w w':=by
 obtain⟨p1,p2,p3,p4⟩:=eU ha;obtain⟨q1,q2,q3,q4⟩:=eU hb;have c1:=cu (Ld:=bG) fun W _=>jT a W (by omega) (by omega)
 have c2:=cu (Ld:=bG) fun W _=>jT b W (by omega) (by omega)
 rw[lQ ha] at c1;rw[lQ hb] at c2;have c3:=cu (Ld:=bG) fun W _=>qw a.num b.den W (by omega) (by omega)
 have c4:=cu (Ld:=bG) fun W _=>qw b.num a.den W (by omega) (by omega)
 have c5:=cu (Ld:=bG) fun W _=>qw a.den b.den W (by omega) (by omega)
 have bx:=dV (bV a.num S h1) (bV b.den S h4);have D6:=dV (bV b.num S h3) (bV a.den S h2);have bd:=dV (bV a.den S h2) (bV b.den S h4);have hd0:=Nat.mul_pos p2 q2;have up:256 ^ (S+S)<=256 ^ (S+S+1):=Nat.pow_le_pow_right (by omega) (by omega);have hp:256 ^ (S+S+1)=256 ^ (S+S)*256:=Nat.pow_succ ..;obtain⟨r,hr⟩:=zF (pO a b);rw[hr];unfold pO at hr;generalize ak a.num*ak b.den=x at*;generalize ak b.num*ak a.den=y at*;generalize ak a.den*ak b.den=d at*;have sx:=aY x (S+S) bx;have sy:=aY y (S+S) D6;have c6:=cu (Ld:=bG) fun W _=>MR (aC x) (aC y) W (by omega) (by omega)
 rw[aS,aS] at c6;refine iF (Ld:=bG) (us:=[a.v,b.v]) ?_ w trivial;refine dh func214 fun X=>?_
 refine run ?_;refine aZ (fun hn=>?_) fun hn=>?_
 ·rw[if_pos hn] at hr;have c7:=cu (Ld:=bG) fun W _=>pW a.neg (x+y) d (S+S+1) W (by omega) (by omega) (by omega) hd0
  rw[hr] at c7;clear hr hp up bx D6 bd;refine run ?_;exact aF
 rw[if_neg hn] at hr;have cc:=JI (Ld:=bG) fun W _=>vU (aC x) (aC y) W (by omega) (by omega)
 rw[aS,aS] at cc;by_cases hle:y<=x
 ·rw[if_pos hle] at hr;have hq:0<=fD x y:=by unfold fD;split<;>(try split)<;>omega
  have c7:=cu (Ld:=bG) fun W _=>pW a.neg (x-y) d (S+S+1) W (by omega) (by omega) (by omega) hd0
  have c8:=mQ (Ld:=bG) (.sc (.sc .nil)) (.sc (.sc .nil)) rfl fun W _=>Sj (aC x) (aC y) W (by omega) (by omega) (by rw[aS,aS];exact hle)
  rw[aS,aS] at c8;rw[hr] at c7;clear hr hp up bx D6 bd;refine run ?_;exact aF
 ·rw[if_neg hle] at hr;have hq:¬0<=fD x y:=by unfold fD;split<;>(try split)<;>omega
  have c7:=cu (Ld:=bG) fun W _=>pW b.neg (y-x) d (S+S+1) W (by omega) (by omega) (by omega) hd0
  have c9:=mQ (Ld:=bG) (.sc (.sc .nil)) (.sc (.sc .nil)) rfl fun W _=>Sj (aC y) (aC x) W (by omega) (by omega) (by rw[aS,aS];omega)
  rw[aS,aS] at c9;rw[hr] at c7;clear hr hp up bx D6 bd;refine run ?_;exact aF
theorem ad7 {a:Ra} (h:okR a=true):negR a=pG a:=by
 obtain⟨p1,p2,p3,p4⟩:=eU h;unfold negR pG;rw[lQ h];by_cases h0:a.num=⟨#[]⟩
 ·rw[h0]
  have hn:a.neg=false:=by
   have:=congrArg Ra.neg p4;unfold low at this;rw[h0,show ak ⟨#[]⟩=0 from rfl] at this;simpa using this.symm
  obtain⟨n,u,d⟩:=a;simp only at hn h0;subst hn h0;rw[if_pos (by rw[ByteArray.toList_eq];rfl)];simp
 ·rw[Vm h0];simp[h0]
theorem aaN (a b:Ra) (w:World) (ha:okR a=true) (hb:okR b=true) (S:Nat) (hS:S<=1048577) (h1:a.num.size<=S) (h2:a.den.size<=S) (h3:b.num.size<=S) (h4:b.den.size<=S):
  Calls prog 115 #[a.v,b.v] w fun e w'=>e=.returned (.int .i64 (kV a b))/\Below w.heap.size w w':=by
 have hz:=JZ a (pG b) S h1 h2 h3 h4;have c1:=cu (Ld:=bG) fun W _=>aaA b W (by omega) (by omega)
 rw[ad7 hb] at c1;have c2:=cu (Ld:=bG) fun W _=>aaM a (pG b) W ha (Yb hb) S hS h1 h2 h3 h4
 have c3:=cu (Ld:=bG) fun W _=>JQ (pO a (pG b)) W (by omega) (by omega)
 unfold kV;generalize pO a (pG b)=z at*;generalize pG b=n at*
 have c4:PC prog bG 169 [a.p,b.p] (·=z.p):=by
  refine dh func169 fun X=>?_
  refine run ?_;exact aF
 refine iF (Ld:=bG) (us:=[a.v,b.v]) ?_ w trivial;refine dh func115 fun X=>?_
 refine run ?_;exact aF
theorem NV (a b:Ra) (w:World) (ha:okR a=true) (hb:okR b=true) (h0:b.num≠⟨#[]⟩) (S:Nat) (hS:S<=1048577) (h1:a.num.size<=S) (h2:a.den.size<=S) (h3:b.num.size<=S) (h4:b.den.size<=S):
  Calls prog 61 #[a.v,b.v] w fun e w'=>e=.returned (.tuple #[(fB a b).1.v,.bool true])/\Below w.heap.size w w':=by
 obtain⟨p1,p2,p3,p4⟩:=eU ha;obtain⟨q1,q2,q3,q4⟩:=eU hb;have c1:=cu (Ld:=bG) fun W _=>jT a W (by omega) (by omega)
 have c2:=cu (Ld:=bG) fun W _=>jT b W (by omega) (by omega)
 rw[lQ ha] at c1;rw[lQ hb] at c2;have e:(fB a b).1=low (a.neg !=b.neg) (ak a.num*ak b.den) (ak a.den*ak b.num):=by unfold fB;rw[if_neg h0]
 have c3:=cu (Ld:=bG) fun W _=>qw a.num b.den W (by omega) (by omega)
 have c4:=cu (Ld:=bG) fun W _=>qw a.den b.num W (by omega) (by omega)
 have c5:=cu (Ld:=bG) fun W _=>pW (a.neg !=b.neg) _ _ (S+S) W (by omega) (dV (bV a.num S h1) (bV b.den S h4)) (dV (bV a.den S h2) (bV b.num S h3)) (Nat.mul_pos p2 (yF q3 h0))
 rw[<-e] at c5;rw[show (a.neg !=b.neg)= !decide (a.neg=b.neg) by cases a.neg<;>cases b.neg<;>rfl] at c5;clear e;generalize (fB a b).1=r at*;refine XQ (Ld:=bG) (us:=[a.v,b.v]) ?_ w trivial;refine dh func61 fun X=>?_
 refine run ?_;refine aZ (fun h=>absurd h h0) fun _=>?_
 refine run ?_;exact aF
end
theorem IQ (neg:Bool) (n:Nat):low neg n 1=⟨neg&&decide (n≠0),aC n,aC 1⟩:=by
 unfold low;rw[Nat.gcd_one_right,Nat.div_one,Nat.div_one]
theorem um (neg:Bool) (n:Nat):dD (low neg n 1)=if n=0 then 0 else if neg then-1 else 1:=by
 unfold dD;rw[if_pos (Dl neg n 1 (by omega)),IQ];by_cases h:n=0
 ·subst h;rw[if_pos (by simp[aK]),if_pos rfl]
 ·rw[if_neg h,if_neg (fun e=>h (C9 (congrArg Ra.num e)))];simp[h]
theorem o7 (n:Nat):aK (n:Int)=⟨false,aC n,aC 1⟩:=by
 unfold aK;rw[show decide ((n:Int)<0)=false from decide_eq_false (by omega)];rfl
theorem Ye (n m:Nat) (hm:0<m):kV (aK (n:Int)) (aK (m:Int))<=0↔n<=m:=by
 have e:pG (aK (m:Int))=⟨true,aC m,aC 1⟩:=by
  rw[o7];unfold pG;simp only[Bool.not_false,Bool.true_and,Ra.mk.injEq,and_true,decide_eq_true_eq]
  intro h;have:=(nC m).1 h;omega
 unfold kV;rw[e,o7];unfold pO;rw[if_neg (by simp)];simp only[aS,Nat.mul_one]
 split
 ·rw[um];by_cases h:n-m=0
  ·rw[if_pos h];omega
  ·rw[if_neg h];simp;omega
 ·rw[um,if_neg (by omega)];simp;omega
theorem GR {q:Ra} (hq:okR q=true):(q.den=(aK 1).den/\0<dD q/\kV q (aK 200)<=0)↔∃n:Nat,1<=n/\n<=200/\q=aK (n:Int):=by
 constructor
 ·rintro⟨h1,h2,h3⟩;obtain⟨_,_,hn,_⟩:=eU hq
  have e:q=aK ((ak q.num:Nat):Int):=by
   unfold dD at h2;rw[if_pos hq] at h2;rw[o7,Vl hn];obtain⟨neg,num,den⟩:=q;simp only at h1 h2⊢;rw[h1];cases neg
   ·rfl
   ·split at h2<;>simp at h2
  rw[e] at h2 h3;refine⟨_,?_,(Ye _ 200 (by omega)).1 h3,e⟩;rw[o7,<-show low false (ak q.num) 1=⟨false,aC (ak q.num),aC 1⟩ by rw[IQ];rfl,um] at h2;split at h2<;>omega
 ·rintro⟨n,h1,h2,rfl⟩;refine⟨rfl,?_,(Ye _ 200 (by omega)).2 h2⟩;rw[o7,<-show low false n 1=⟨false,aC n,aC 1⟩ by rw[IQ];rfl,um,if_neg (by omega)];decide
end Go.Proofs.YtjpbmbgincdjaaaGreatDoor
