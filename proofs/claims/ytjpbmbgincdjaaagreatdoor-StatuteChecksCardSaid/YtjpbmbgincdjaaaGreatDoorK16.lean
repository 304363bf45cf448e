/- Part: FI FM FN. -/
import Derived.Test.YtjpbmbgincdjaaaGreatDoorK15
set_option linter.all false
set_option maxRecDepth 100000
set_option maxHeartbeats 0
set_option linter.unusedVariables false
namespace Go.Proofs.YtjpbmbgincdjaaaGreatDoor
open Go.RowKit List World
def PC (P:Program) (Ld:bU) (f:FuncId) (ps:List PV) (R:PV->Prop):Prop:=
 ∀(w:World) (L:Nat->Option Nat) (us:List Value),Ld.p w->(∀b,w.heap.size<=b->L b=none)->RL L w ps us->
  Calls P f us.toArray w fun e w'=>∃u p,e=.returned u/\R p/\RP L w' p u/\Below w.heap.size w w'
theorem PC.mono {P:Program} {Ld:bU} {f:FuncId} {ps:List PV} {R R':PV->Prop} (h:PC P Ld f ps R) (hr:∀p,R p->R' p):PC P Ld f ps R':=
 fun w L us h1 h2 h3=>(h w L us h1 h2 h3).mono fun e w' ⟨u,p,k1,k2,k3⟩=>⟨u,p,k1,hr p k2,k3⟩
inductive Arg (M:List (Ky × En)):List Operand->List Ky->List PV->Prop
 |nil:Arg M [] [] []
 |cons {x:Operand} {sx:bF} {p:PV} {r:List Operand} {ks:List Ky} {ps:List PV} (hx:ev M x=some sx) (hd:oh M sx p) (h:Arg M r ks ps):Arg M (x::r) (ok x++sx.refs.map .o++ks) (p::ps)
theorem Arg.real {Ld:bU} {X:Cx Ld} {N:Nat} {m:Mm} {a:Act} {w:World} {ρ:Nat->Value} {L:Nat->Option Nat} {M:List (Ky × En)} {r:List Operand} {ks:List Ky} {ps:List PV} (h:Arg M r ks ps) (hR:kJ X N m a w ρ L) (hk:∀k∈ks,m k=get k M):RL L w ps (r.map a.eval):=by
 induction h with
 |nil=>exact⟨rfl,fun i p u hp=>by cases hp⟩
 |@cons x sx p r ks ps hx hd _ ih=>
  obtain⟨h1,h2⟩:=ih fun k hk'=>hk k (by simp[hk'])
  have h0:=hd.real hR.hs (bI hR hx fun k hk'=>hk k (by simp[hk'])) fun j hj=>hk (.o j) (by simp[hj])
  refine⟨by simp[h1],fun i p' u hp hu=>?_⟩;cases i with
  |zero=>cases hp;cases hu;exact h0
  |succ i=>exact h2 i p' u hp hu
section
variable {P:Program} {Ld:bU} {X:Cx Ld} {N:Nat} {ops:Array Oper} {dr:Bool} {fin:List (Ky × En)->Prop} {o:Oper} {rest:List Oper} {acc:List (List Ky × List Ky)} {M:List (Ky × En)} {d:Nat} {ty:TypeId} {pos:String} {aO:Array Edge} {g:Option (Nat × Bool)} {x y:Operand} {sx sy:bF}
theorem aiq {f:FuncId} {xs:List Operand} {ts:Array TypeId} {ps:List PV} {ks:List Ky} {p:PV} (ha:Arg M xs ks ps) (hc:PC P Ld f ps (·=p)) (hf:∀args w,(callFunc f args).run P w=.ok (.enter f args) w):Yd ⟨some d,.call {callee:=.value (.func f),args:=xs.toArray,argTypes:=ts},ty,pos,aO,g⟩ P X N ops M ks (.v p):=
 by
 refine⟨fun _ hd hN hw _ _ _ _ next=>?_⟩;cases hd;exact
  og ks [(.s d,.s (.v p))] (fun m a w ρ L K Q hR hk hK=>by
   have hr:=ha.real hR hk
   have hrun:(execOp a.eval ⟨some d,.call {callee:=.value (.func f),args:=xs.toArray,argTypes:=ts},ty,pos,aO,g⟩).run P w=.ok (.enter f (xs.map a.eval).toArray) w:=by
    simp[execOp,resolve,Act.eval,Deferred.ofValue,invoke,hf]
   unfold Oper.wp;rw[hrun,Oper.upon_enter];refine (hc w L _ (X.tJ w hR.bl) hR.hs.new hr).mono ?_;rintro e w' ⟨u,p',rfl,rfl,hp,hb⟩;exact hK _ _ ⟨ρ,L,hR.put hb hN hp⟩) hw next
theorem RG.all {α:Type} {R:α->Prop}:True:=trivial
inductive Cap (M:List (Ky × En)):List Operand->List Ky->List Nat->Prop
 |nil:Cap M [] [] []
 |cons {x:Operand} {j:Nat} {r:List Operand} {ks:List Ky} {js:List Nat} (hx:ev M x=some (.pt j 0)) (h:Cap M r ks js):Cap M (x::r) (ok x++ks) (j::js)
theorem air {f:FuncId} {xs:List Operand} {ks:List Ky} {js:List Nat} (hc:Cap M xs ks js):Yd ⟨some d,.makeFunc (.func f) #[] xs.toArray,ty,pos,aO,g⟩ P X N ops M ks (.fn f js):=
 dL ks _ (fun m a w ρ L hR hk=>by
  refine⟨.func (.func f) #[] (xs.map a.eval).toArray,w,by simp[execOp,Instr.makeFunc],Below.refl _ _,xs.map a.eval,rfl,?_⟩
  have key:∀{xs:List Operand} {ks:List Ky} {js:List Nat},Cap M xs ks js->(∀k∈ks,m k=get k M)->js.length=(xs.map a.eval).length/\∀(i:Nat) j x,js[i]?=some j->(xs.map a.eval)[i]?=some x->xY ρ m j 0 x:=by
   intro xs ks js h
   induction h with
   |nil=>exact fun _=>⟨rfl,fun i j x hj=>by cases hj⟩
   |@cons x j r ks js hx _ ih=>
    intro hk;have h1:=ih fun k h=>hk k (mem_append_right _ h)
    refine⟨by simpa using h1.1,fun i j' x' hj hx'=>?_⟩;cases i with
    |zero=>cases hj;cases hx';exact bI hR hx fun k h=>hk k (mem_append_left _ h)
    |succ i=>exact h1.2 i j' x' hj hx'
  exact key hc hk)
end
section
variable {P:Program} {Ld:bU} {X:Cx Ld} {N:Nat} {F:Exit->List (Ky × En)->Prop} {c:Code} {r:List It} {M:List (Ky × En)}
theorem Np (t j:Nat) {ob:Ob} {sx:bF} (hob:∀w L ρ' m' base iL,ρ' j=.slice none 0 0->OR ρ' m' L w base iL j ob) (hsx:∀w L (ρ':Nat->Value) m',ρ' j=.slice none 0 0->m' (.o j)=some (.o ob)->SR ρ' m' L w sx (.slice none 0 0)) (ht:get (.s t) M=some (.s (.v (.sc (.slice none 0 0))))) (hj:get (.o j) M=none) (h9:j≠900) (h:GO P X N F c r ((.s t,.s sx)::(.o j,.o ob)::M)):GO P X N F c r M:=by
 refine⟨fun a w hR=>?_⟩;obtain⟨ρ,L,hR⟩:=hR;refine h.out a w ?_
 have mo:∀i,mm ((.s t,.s sx)::(.o j,.o ob)::M) (.o i)=if i=j then some (.o ob) else mm M (.o i):=by
  intro i;by_cases hi:i=j<;>simp[mm,bK,hi]
 have ms:∀t',mm ((.s t,.s sx)::(.o j,.o ob)::M) (.s t')=if t'=t then some (.s sx) else mm M (.s t'):=by
  intro i;by_cases hi:i=t<;>simp[mm,bK,hi]
 generalize mm ((.s t,.s sx)::(.o j,.o ob)::M)=m' at*
 have hoth:∀i ob',mm M (.o i)=some (.o ob')->i≠j:=fun i ob' hi e=>by
  have hj':mm M (.o j)=none:=hj;rw[e,hj'] at hi;cases hi
 have E:Ext ρ (mm M) L w (fun i=>if i=j then .slice none 0 0 else ρ i) m' L w:=
  ⟨Grow.refl,fun i ob' hi=>⟨ob',by rw[mo,if_neg (hoth i ob' hi)];exact hi,Ob.le_refl ρ i ob' (if_neg (hoth i ob' hi))⟩⟩
 refine⟨fun i=>if i=j then .slice none 0 0 else ρ i,L,⟨fun i kS hi=>?_,fun i i' pF kS b h1 h2 e1 e2=>?_,hR.hs.new,fun ob' ho'=>?_⟩,hR.sz,hR.df,fun t' y hy=>?_,hR.bl,hR.ll,hR.lb⟩
 ·by_cases hij:i=j
  ·subst hij;rw[mo,if_pos rfl] at hi;cases hi;exact hob _ _ _ _ _ _ (if_pos rfl)
  ·rw[mo,if_neg hij] at hi;exact (hR.hs.ob i kS hi).keep E (if_neg hij) fun b _=>⟨rfl,rfl⟩
 ·by_cases hij:i=j<;>by_cases hij':i'=j
  ·rw[hij,hij']
  ·simp only[if_pos hij] at e1;cases e1
  ·simp only[if_pos hij'] at e2;cases e2
  ·rw[mo,if_neg hij] at h1;rw[mo,if_neg hij'] at h2;simp only[if_neg hij] at e1;simp only[if_neg hij'] at e2;exact hR.hs.inj i i' pF kS b h1 h2 e1 e2
 ·rw[mo,if_neg (Ne.symm h9)] at ho';obtain⟨b,fP,hb'⟩:=hR.hs.bo ob' ho';exact⟨b,(if_neg (Ne.symm h9)).trans fP,hb'⟩
 ·by_cases htt:t'=t
  ·subst htt;rw[ms,if_pos rfl] at hy;cases hy;obtain⟨u,hu,hs⟩:=hR.sl t' _ ht;exact⟨u,hu,by rw[RP.lS hs];exact hsx _ _ _ _ (if_pos rfl) (by rw[mo,if_pos rfl])⟩
  ·rw[ms,if_neg htt] at hy;obtain⟨u,hu,hs⟩:=hR.sl t' y hy;exact⟨u,hu,hs.ext E⟩
theorem Df {w:World} {L:Nat->Option Nat} {base e q:Nat} {v:Value} (h:v=.slice none 0 0) (f:List Value->Nat):∃us,w.ownsRow base e q v ([]:List PV).length us/\RL L w (([]:List PV).flatMap PV.cs) us/\(∀u∈us,u.oneCell'=true)/\(∀b,gJ v=some b->L b=some (f us))/\∀x∈([]:List PV),x.cs.length=q:=
 ⟨[],by rw[h];exact ownsRow_nil _ _ _ _,⟨rfl,fun i p u hp=>(by cases hp)⟩,fun u hu=>(by cases hu),fun b hb=>(by rw[h] at hb;cases hb),fun x hx=>(by cases hx)⟩
theorem nK (t j e q:Nat) (ht:get (.s t) M=some (.s (.v (.sc (.slice none 0 0))))) (hj:get (.o j) M=none) (h9:j≠900) (h:GO P X N F c r ((.s t,.s (.ow j 0))::(.o j,.o (.row e q []))::M)):GO P X N F c r M:=
 Np t j (ob:=.row e q []) (sx:=.ow j 0) (fun _ _ _ _ _ _ h=>Df h List.length) (fun _ _ _ _ h1 h2=>⟨e,q,[],h2,Nat.le_refl _,fun _=>h1.symm⟩) ht hj h9 h
theorem Rq (t j e q:Nat) (ht:get (.s t) M=some (.s (.v (.sc (.slice none 0 0))))) (hj:get (.o j) M=none) (h9:j≠900) (h:GO P X N F c r ((.s t,.s (.ox j 0 0))::(.o j,.o (.aW 0 e q []))::M)):GO P X N F c r M:=
 Np t j (ob:=.aW 0 e q []) (sx:=.ox j 0 0) (fun _ _ _ _ _ _ h=>Df h fun _=>0) (fun _ _ _ _ h1 h2=>⟨0,e,q,[],h2,Nat.le_refl _,fun _=>⟨Nat.le_refl _,fun _=>h1.symm⟩⟩) ht hj h9 h
end
inductive pK (P:Program) (M:List (Ky × En)):ResultVar->PV->Prop
 |tmp {t:Nat} {x:bF} {p:PV} (h:get (.s t) M=some (.s x)) (hd:oh M x p):pK P M (.tmp t) p
 |cell {t j n:Nat} {ty:TypeId} {cs:List bF} {ps:List PV} (h:get (.s t) M=some (.s (.pt j 0))) (ho:get (.o j) M=some (.o (.blk cs))) (hA:∀w,(isAgg ty).run P w=.ok true w) (hn:∀w,(Go.sizeOf ty).run P w=.ok n w) (hps:pJ M (cs.take n) ps) (hpl:ps.length=n):pK P M (.cell t ty) (.ag ps)
 |cell1 {t j:Nat} {ty:TypeId} {x:bF} {cs:List bF} {p:PV} (h:get (.s t) M=some (.s (.pt j 0))) (ho:get (.o j) M=some (.o (.blk (x::cs)))) (hA:∀w,(isAgg ty).run P w=.ok false w) (hd:oh M x p):pK P M (.cell t ty) p
inductive Out (P:Program) (M:List (Ky × En)):List ResultVar->PV->Prop
 |none:Out P M [] (.tu [])
 |one {a:ResultVar} {p:PV} (h:pK P M a p):Out P M [a] p
 |two {a b:ResultVar} {p q:PV} (h:pK P M a p) (h':pK P M b q):Out P M [a,b] (.tu [p,q])
 |three {a b c:ResultVar} {p q r:PV} (h:pK P M a p) (h':pK P M b q) (h'':pK P M c r):Out P M [a,b,c] (.tu [p,q,r])
def resV (tmps:Array Value):ResultVar->Sem Value
 |.tmp t=>pure (tmps.getD t undef)
 |.cell a t=>do loadVar t (<-asAddr (tmps.getD a undef))
theorem pJ.at {M:List (Ky × En)} {l:List bF} {qs:List PV} (h:pJ M l qs):l.length=qs.length/\∀(i:Nat) q,qs[i]?=some q->∃sv,l[i]?=some sv/\oh M sv q:=by
 induction h with
 |nil=>exact⟨rfl,fun i q hq=>by simp at hq⟩
 |cons h _ ih=>exact⟨by simp[ih.1],fun i q hq=>by cases i with
   |zero=>cases hq;exact⟨_,rfl,h⟩
   |succ i=>exact ih.2 i q hq⟩
theorem pK.real {P:Program} {Ld:bU} {X:Cx Ld} {N:Nat} {M:List (Ky × En)} {a:Act} {w:World} {ρ:Nat->Value} {L:Nat->Option Nat} {r:ResultVar} {p:PV} (h:pK P M r p) (hR:kJ X N (mm M) a w ρ L):∃v,(resV a.tmps r).run P w=.ok v w/\RP L w p v:=by
 cases h with
 |@tmp t x p h hd=>
  obtain⟨u,hu,hs⟩:=hR.sl t x h;exact⟨u,by simp[resV,Array.getD_eq_getD_getElem?,hu],hd.real hR.hs hs fun j _=>rfl⟩
 |@cell t j n ty cs ps h ho hA hn hps hpl=>
  obtain⟨u,hu,⟨_,b,h1,h2⟩⟩:=hR.sl t _ h;obtain⟨b',e,us,k1,k2,k3,k4,k5,k6,k7⟩:=hR.hs.ob j _ ho;rw[h1] at k1;cases k1;obtain⟨d1,d2⟩:=hps.at
  have hlen:(us.take n).length=n:=by
   rw[hpl,length_take,k4] at d1;rw[length_take];exact d1
  have hld:=run_loadCells_list (P:=P) w ⟨b,0,none⟩ (us.take n) (fun i v hv=>by
   have hi:i<n:=by have:=(List.getElem?_eq_some_iff.1 hv).1;omega
   rw[getElem?_take_of_lt hi] at hv;have hi2:=(List.getElem?_eq_some_iff.1 hv)
   rw[add_lit,Nat.zero_add,k3.cell hi2.1,hi2.2])
  rw[hlen] at hld;refine⟨.agg (us.take n).toArray,?_,.ag (by rw[hpl,hlen]) (fun u hu=>k5 u (mem_of_mem_take hu)) fun i q u hq hu=>?_⟩
  ·simp[resV,Array.getD_eq_getD_getElem?,hu,h2,asAddr,loadVar,hA,hn,hld]
  ·obtain⟨sv,hsv,hdr⟩:=d2 i q hq;have hi:i<n:=by have:=(List.getElem?_eq_some_iff.1 hu).1;omega
   rw[getElem?_take_of_lt hi] at hsv hu;exact hdr.real hR.hs (k6 _ sv u hsv hu) fun j' _=>rfl
 |@cell1 t j ty x cs p h ho hA hd=>
  obtain⟨u,hu,⟨_,b,h1,h2⟩⟩:=hR.sl t _ h;obtain⟨b',e,us,k1,k2,k3,k4,k5,k6,k7⟩:=hR.hs.ob j _ ho;rw[h1] at k1;cases k1;have hlt:0<us.length:=by rw[<-k4];simp
  refine⟨us[0],?_,hd.real hR.hs (k6 0 x _ rfl (getElem?_eq_getElem hlt)) fun j' _=>rfl⟩;simp[resV,Array.getD_eq_getD_getElem?,hu,h2,asAddr,loadVar,hA,k3.cell hlt]
theorem Out.real {P:Program} {Ld:bU} {X:Cx Ld} {N:Nat} {M:List (Ky × En)} {a:Act} {w:World} {ρ:Nat->Value} {L:Nat->Option Nat} {fn:Func} {p:PV} (h:Out P M fn.results.toList p) (hR:kJ X N (mm M) a w ρ L):∃v,(results fn a.tmps).run P w=.ok v w/\RP L w p v:=by
 have hrs:fn.results=fn.results.toList.toArray:=by simp
 have hre:results fn a.tmps=(do
  let vs<-fn.results.mapM (resV a.tmps)
  pure (if h:vs.size=1 then vs[0] else .tuple vs)):=rfl
 generalize fn.results.toList=rs at h hrs;rw[hre,hrs];cases h with
 |none=>exact⟨.tuple #[],(by simp),.tu (us:=[]) rfl (fun i p u h=>by cases h)⟩
 |one h=>obtain⟨v,h1,h2⟩:=h.real hR;exact⟨v,by simp[h1],h2⟩
 |two h h'=>
  obtain⟨v,h1,h2⟩:=h.real hR;obtain⟨v',h1',h2'⟩:=h'.real hR;refine⟨.tuple #[v,v'],by simp[h1,h1'],.tu (us:=[v,v']) rfl fun i p' u' hp hu=>?_⟩
  match i with
  |0=>cases hp;cases hu;exact h2
  |1=>cases hp;cases hu;exact h2'
 |three h h' h''=>
  obtain⟨v,h1,h2⟩:=h.real hR;obtain⟨v',h1',h2'⟩:=h'.real hR;obtain⟨v'',akA,akB⟩:=h''.real hR;refine⟨.tuple #[v,v',v''],by simp[h1,h1',akA],.tu (us:=[v,v',v'']) rfl fun i p' u' hp hu=>?_⟩
  match i with
  |0=>cases hp;cases hu;exact h2
  |1=>cases hp;cases hu;exact h2'
  |2=>cases hp;cases hu;exact akB
def Nq (P:Program) (rs:Array ResultVar) (R:PV->Prop) (e:Exit) (M:List (Ky × En)):Prop:=(e=.normal∨e=.ret)/\∃p,Out P M rs.toList p/\R p
theorem at_end {P:Program} {Ld:bU} {X:Cx Ld} {N:Nat} {rs:Array ResultVar} {R:PV->Prop} {M:List (Ky × En)} {p:PV} {e:Exit} (ho:Out P M rs.toList p) (hr:R p) (he:e=.normal∨e=.ret):At P X N (Nq P rs R) [] e M:=⟨he,p,ho,hr⟩
def oI:Nat->List PV->List (Ky × En)
 |_,[]=>[]
 |i,p::r=>(.s i,.s (.v p))::oI (i+1) r
theorem Ez:∀(ps:List PV) (k t:Nat) (x:bF),get (.s t) (oI k ps)=some (.s x)->∃i p,t=k+i/\ps[i]?=some p/\x=.v p
 |p::ps,k,t,x,h=>by
  rw[oI,bK] at h;by_cases ht:t=k
  ·subst ht;rw[if_pos rfl] at h;cases h;exact⟨0,p,rfl,rfl,rfl⟩
  ·rw[if_neg (by simp[ht])] at h;obtain⟨i,q,h1,h2,h3⟩:=Ez ps (k+1) t x h;exact⟨i+1,q,by omega,h2,h3⟩
theorem rX:∀(ps:List PV) (k j:Nat),get (.o j) (oI k ps)=none
 |[],_,_=>rfl
 |p::ps,k,j=>by rw[oI,bK,if_neg (by simp)];exact rX ps (k+1) j
theorem afH {P:Program} {Ld:bU} {f:FuncId} {fn:Func} {c:Code} {ps:List PV} {R:PV->Prop} {N:Nat} (hf:P.funcs[f]?=some fn) (hb:fn.body=some c) (hN:fn.ntmps=N) (hl:ps.length<=N) (h:∀X:Cx Ld,GO P X N (Nq P fn.results R) c [] (oI 0 ps)):PC P Ld f ps R:=by
 intro w L us hw hL hr;refine calls_of_wp hf hb ?_
 have hR:RS (⟨w.heap.size,fun _=>False,w,L,fun w' hb=>Ld.st hb.out hw⟩:Cx Ld) N (mm (oI 0 ps)) {tmps:=us.toArray++Array.replicate (fn.ntmps-us.toArray.size) undef,defers:=[]} w:=by
  have Rt:us.length=ps.length:=hr.1.symm;refine⟨fun _=>undef,L,⟨fun j ob hj=>?_,fun j j' ob ob' b hj=>?_,hL,fun ob hj=>?_⟩,by simp;omega,rfl,fun t x hx=>?_,tH.of (Below.refl _ _),fun b _=>rfl,Nat.le_refl _⟩
  ·have:=rX ps 0 j;have hj:get (.o j) (oI 0 ps)=_:=hj;rw[this] at hj;cases hj
  ·have:=rX ps 0 j;have hj:get (.o j) (oI 0 ps)=_:=hj;rw[this] at hj;cases hj
  ·have:=rX ps 0 900;have hj:get (.o 900) (oI 0 ps)=_:=hj;rw[this] at hj;cases hj
  ·obtain⟨i,p,rfl,hp,rfl⟩:=Ez ps 0 t x hx;have hi:=(List.getElem?_eq_some_iff.1 hp).1;have hi2:i<us.length:=by omega
   refine⟨us[i],(by rw[Nat.zero_add,Array.getElem?_append_left (by simpa using hi2)];simp[hi2]),hr.2 i p _ hp (getElem?_eq_getElem hi2)⟩
 refine Code.wp_mono ?_ ((h _).out _ _ hR);rintro e a' w' ⟨M',⟨he,p,ho,hp⟩,ρ,L',hR'⟩
 have hgr:Grow L' w' L w':=by
  refine⟨Nat.le_refl _,fun b i _ ha=>⟨fun fr hfr=>?_,rfl⟩⟩;by_cases hb:b<w.heap.size
  ·exact ha fr ((hR'.ll b hb).trans hfr)
  ·rw[hL b (by omega)] at hfr;cases hfr
 obtain⟨v,k1,k0⟩:=ho.real hR';have k2:∃u p,Ending.returned v=.returned u/\R p/\RP L w' p u/\Below w.heap.size w w':=⟨v,p,rfl,hp,k0.grow hgr,hR'.bl.out⟩
 rcases he with rfl|rfl
 ·exact⟨hR'.df,v,k1,k2⟩
 ·exact⟨hR'.df,v,k1,k2⟩
end Go.Proofs.YtjpbmbgincdjaaaGreatDoor
namespace Go.Proofs.YtjpbmbgincdjaaaGreatDoor
open Go.RowKit List
section
variable {P:Program} {Ld:bU} {X:Cx Ld} {N:Nat} {ops:Array Oper} {dr:Bool} {fin:List (Ky × En)->Prop} {o:Oper} {rest:List Oper} {acc:List (List Ky × List Ky)} {M:List (Ky × En)} {d:Nat} {ty:TypeId} {pos:String} {aO:Array Edge} {g:Option (Nat × Bool)} {x y:Operand} {j n k v e q:Nat} {xs:List PV} {t:TypeId}
theorem evx {m:Mm} {a:Act} {w:World} {ρ:Nat->Value} {L:Nat->Option Nat} (hR:kJ X N m a w ρ L) (hx:ev M x=some (.ox j n k)) (ho:get (.o j) M=some (.o (.aW v e q xs))) (hn:n=xs.length) (hv:k=v) (hk:∀i∈ok x++[Ky.o j],m i=get i M):
  m (.o j)=some (.o (.aW v e q xs))/\a.eval x=ρ j/\OR ρ m L w X.base X.iL j (.aW v e q xs):=by
 have hm:m (.o j)=some (.o (.aW v e q xs)):=(hk (.o j) (by simp)).trans ho;obtain⟨v',e',q',xs',s1,_,s3⟩:=bI hR hx fun i h=>hk i (mem_append_left _ h)
 rw[hm] at s1;cases s1;exact⟨hm,(s3 hv).2 hn,hR.hs.ob j _ hm⟩
theorem adM (x:Operand) (hx:ev M x=some (.ox j n k)) (ho:get (.o j) M=some (.o (.aW v e q xs))) (hn:n=xs.length) (hk:k=v) (hv:∀(e:Operand->Value) A n c w,e x=.slice A n c->(execOp e o).run P w=.ok (.value (.int .i64 n)) w):Yd o P X N ops M (ok x++[.o j]) (.v (.sc (.int .i64 xs.length))):=
 dL (ok x++[.o j]) _ (fun m a w ρ L hR hk'=>by
  obtain⟨_,h3,us,h4,_⟩:=evx hR hx ho hn hk hk';obtain⟨A,c,h5,_⟩:=dK h4;exact⟨.int .i64 xs.length,w,hv _ A _ c _ (h3.trans h5),Below.refl _ _,.sc _⟩)
theorem afJ {kd:IntKind} {i:Int} {el:TypeId} (hx:ev M x=some (.ox j n k)) (ho:get (.o j) M=some (.o (.aW v e q xs))) (hn:n=xs.length) (hk:k=v) (hy:ev M y=some (.v (.sc (.int kd i)))) (h0:0<=i) (hi:i.toNat<xs.length) (ht:P.underlying t=some (.slice el)) (hq:∀w,(Go.sizeOf el).run P w=.ok q w):Yd ⟨some d,.indexAddr t x y,ty,pos,aO,g⟩ P X N ops M ((ok x++[.o j])++ok y) (.px j i.toNat 0 n k):=
 dL ((ok x++[.o j])++ok y) _ (fun m a w ρ L hR hk'=>by
  obtain⟨hm,h3,us,h4,_⟩:=evx hR hx ho hn hk fun i h=>hk' i (mem_append_left _ h)
  have XH:=evs hR hy fun k h=>hk' k (mem_append_right _ h)
  rcases h4.2 with⟨_,h5⟩|⟨b,cap,cur,h5,_⟩
  ·omega
  ·refine⟨_,w,Nl ht hq (h3.trans h5) XH h0 (by omega) rfl,Below.refl _ _,v,e,q,xs,hm,Nat.le_of_eq hk,fun _=>⟨Nat.le_of_eq hn,fun _=>⟨b,_,_,h5,?_⟩⟩⟩;rw[add_lit,Nat.zero_add,Nat.add_zero])
theorem afK {i c:Nat} {p pc:PV} (x:Operand) (hx:ev M x=some (.px j i c n k)) (ho:get (.o j) M=some (.o (.aW v e q xs))) (hn:n=xs.length) (hk:k=v) (hp:xs[i]?=some p) (hc:p.cs[c]?=some pc) (hA:∀w,(isAgg t).run P w=.ok false w) (hop:o.op=.load t x):Yd o P X N ops M (ok x++[.o j]) (.v pc):=
 dL (ok x++[.o j]) _ (fun m a w ρ L hR hk'=>by
  have hm:m (.o j)=some (.o (.aW v e q xs)):=(hk' (.o j) (by simp)).trans ho;obtain⟨v',e',q',xs',s1,_,s3⟩:=bI hR hx fun i h=>hk' i (mem_append_left _ h)
  rw[hm] at s1;cases s1;obtain⟨b,l,cp,h3,h1⟩:=(s3 hk).2 hn;obtain⟨us,k1,k2,_,_,k5⟩:=hR.hs.ob j _ hm;obtain⟨f1,f2⟩:=yu k5 hp;have hcl:=(List.getElem?_eq_some_iff.1 hc).1;have hpq:=k5 p (mem_of_getElem? hp);have hpc:(xs.flatMap PV.cs)[i*q+c]?=some pc:=by rw[<-f1,getElem?_take_of_lt (by omega),getElem?_drop] at hc;exact hc
  obtain⟨u,hu,hr⟩:=RP.at k2.1 k2.2 hpc;rw[h3] at k1;have hcell:=k1.cells (g:=b) rfl _ u hu;rw[add_lit,Nat.zero_add] at hcell;exact⟨u,w,(by simp[execOp,hop,h1,Instr.loadAt,Instr.sureAddr,loadVar,hA,hcell,Result.andThen]),Below.refl _ _,hr⟩)
theorem adN {f:Operand->Value} {w:World} {el:TypeId} {h:Operand} {A:Option Addr} {c:Nat} {z:Int} (ht:P.underlying t=some (.slice el)) (hq:∀w,(Go.sizeOf el).run P w=.ok q w) (hx:f x=.slice A n c) (hh:f h=.int .i64 z) (h0:0<=z) (h1:z<=c) (hA:A=none∨∃g,A=some ⟨g,0,none⟩):
  (execOp f ⟨some d,.slice t x none (some h) none,ty,pos,aO,g⟩).run P w=.ok (.value (.slice A z.toNat c)) w:=by
 rcases hA with rfl|⟨b,rfl⟩<;>simp[execOp,Instr.sliceAt,Instr.slice,Instr.sliceBounds,Instr.sliceBound,underlying,ht,hq,hx,hh,h0,h1,asIntOf,Result.andThen,add_lit]
theorem adO {h:Operand} {z:Int} (hx:ev M x=some (.ox j n k)) (ho:get (.o j) M=some (.o (.aW v e q xs))) (hn:n=xs.length) (hk:k=v) (hh:ev M h=some (.v (.sc (.int .i64 z)))) (h0:0<=z) (h1:z.toNat<=xs.length) {el:TypeId} (ht:P.underlying t=some (.slice el)) (hq:∀w,(Go.sizeOf el).run P w=.ok q w):Ru ⟨some d,.slice t x none (some h) none,ty,pos,aO,g⟩ P X N ops M ((ok x++[.o j])++ok h) [.s d,.o j] ((.s d,.s (.ox j z.toNat (v+1)))::(.o j,.o (.aW (v+1) e q (xs.take z.toNat)))::M):=
 ⟨fun hD hw _ _ _ _ next=>
 have hN:d<N:=Nat.le_of_ble_eq_true hD;og ((ok x++[.o j])++ok h) [(.s d,.s (.ox j z.toNat (v+1))),(.o j,.o (.aW (v+1) e q (xs.take z.toNat)))] (fun m a w ρ L K Q hR hk' hK=>by
  obtain⟨hm,h3,us,k1,k2,k3,k4,k5⟩:=evx hR hx ho hn hk fun i h=>hk' i (mem_append_left _ h)
  have hih:=evs hR hh fun k h=>hk' k (mem_append_right _ h)
  have mo:∀i,upd m [(.s d,.s (.ox j z.toNat (v+1))),(.o j,.o (.aW (v+1) e q (xs.take z.toNat)))] (.o i)=if i=j then some (.o (.aW (v+1) e q (xs.take z.toNat))) else m (.o i):=by
   intro i;by_cases hi:i=j<;>simp[upd,bK,get_nil,hi]
  have ms:∀t,upd m [(.s d,.s (.ox j z.toNat (v+1))),(.o j,.o (.aW (v+1) e q (xs.take z.toNat)))] (.s t)=if t=d then some (.s (.ox j z.toNat (v+1))) else m (.s t):=by
   intro t;by_cases ht:t=d<;>simp[upd,bK,get_nil,ht]
  generalize upd m [(.s d,.s (.ox j z.toNat (v+1))),(.o j,.o (.aW (v+1) e q (xs.take z.toNat)))]=m' at*;obtain⟨A,c,hA,c1,_,_,Rt⟩:=dK k1;have hl:(xs.take z.toNat).length=z.toNat:=by rw[length_take];omega
  have hbk:gJ (.slice A z.toNat c)=gJ (ρ j):=by rw[hA];cases A<;>rfl
  have hown:w.ownsRow X.base e q (.slice A z.toNat c) (xs.take z.toNat).length (us.take (z.toNat*q)):=by
   rw[hl];have hzq:z.toNat*q<=xs.length*q:=Nat.mul_le_mul_right _ h1;refine⟨by rw[length_take];omega,?_⟩;rcases k1.2 with⟨h5,h6⟩|⟨b,cap,cur,h5,hb,XI,Rw,hc5,hs5,ht5⟩
   ·rw[hA] at h5;injection h5 with e1 e2 e3;subst e1 e3;exact .inl ⟨by rw[show z.toNat=0 by omega],by omega⟩
   ·rw[hA] at h5;injection h5 with e1 e2 e3;subst e1 e3;exact .inr ⟨b,c,cur,rfl,hb,XI,by omega,hc5,hs5,by rw[<-ht5,take_take];congr 1;omega⟩
  have htk:(xs.take z.toNat).flatMap PV.cs=(xs.flatMap PV.cs).take (z.toNat*q):=by
   have h6:xs.flatMap PV.cs=(xs.take z.toNat).flatMap PV.cs++(xs.drop z.toNat).flatMap PV.cs:=by rw[<-flatMap_append,take_append_drop]
   have h7:=vI (xs.take z.toNat) fun y hy=>k5 y (mem_of_mem_take hy)
   rw[hl] at h7;rw[h6,<-h7,take_left]
  obtain⟨ρ',L',e1,E,hfin⟩:=row_step (lim:=0) (lim':=0) (v1:=.slice A z.toNat c) (w':=w) hR hm mo (fun b9 fP=>by rw[hA] at fP;cases fP) (fun b hb=>⟨(kF k1 hb).1,k4 b hb⟩) (fun ρ' L' E hρ hL=>⟨us.take (z.toNat*q),by rw[hρ];exact hown,⟨by rw[htk,length_take,length_take,k2.1],fun i p u hp hu=>by
    rw[htk] at hp;have hi:=(List.getElem?_eq_some_iff.1 hp).1;rw[length_take] at hi;rw[getElem?_take_of_lt (by omega)] at hp hu;exact (k2.2 i p u hp hu).grow E.grow⟩,fun u hu=>k3 u (mem_of_mem_take hu),fun b hb=>hL b (by rw[<-hρ];exact hb),fun y hy=>k5 y (mem_of_mem_take hy)⟩)
   (fun ρ' _=>⟨_,_,rfl,Nat.le_succ _,fun h=>by omega⟩) (Nat.le_refl _) ⟨rfl,rfl,rfl⟩ (fun _ _ _=>rfl) (fun _ _ _ _=>rfl) fun b hb=>by rw[hbk] at hb;exact⟨(kF k1 hb).2,.inl ⟨hb,Nat.le_refl _⟩⟩
  unfold Oper.wp
  have hA2:A=none∨∃g,A=some ⟨g,0,none⟩:=by
   rcases k1.2 with⟨h5,_⟩|⟨b,_,_,h5,_⟩<;>rw[hA] at h5<;>injection h5 with e1
   ·exact .inl e1
   ·exact .inr ⟨b,e1⟩
  rw[adN ht hq (h3.trans hA) hih h0 (by omega) hA2,Oper.upon_value];exact hK _ _ ⟨ρ',L',hfin _ (by simp[Act.put,hR.sz]) hR.df (Ba hR E ms hN ⟨v+1,e,q,_,by rw[mo,if_pos rfl],Nat.le_refl _,fun _=>⟨Nat.le_of_eq hl.symm,fun _=>e1.symm⟩⟩)⟩) hw next⟩
end
end Go.Proofs.YtjpbmbgincdjaaaGreatDoor
set_option linter.unusedVariables false
namespace Go.Proofs.YtjpbmbgincdjaaaGreatDoor
open Go.RowKit List World
def RA (L:Nat->Option Nat) (w:World) (b:Nat) (zas:List (Option PV)) (us:List Value):Prop:=
 zas.length=us.length/\∀(i:Nat) a u,zas[i]?=some a->us[i]?=some u->match a with
  |some p=>RP L w p u
  |none=>u=.pointer (some ⟨b,0,none⟩)
def Rx (P:Program) (Ld:bU) (f:FuncId) (zas:List (Option PV)) (cs:List PV) (R:PV->List PV->Prop):Prop:=
 ∀(w:World) (L:Nat->Option Nat) (us:List Value) (b e:Nat) (ws:List Value),(∀w',tH w.heap.size (·=b) w w'->Ld.p w')->(∀b,w.heap.size<=b->L b=none)->RA L w b zas us->aj w b e ws->RL L w cs ws->(∀u∈ws,u.oneCell'=true)->L b=some 0->
  Calls P f us.toArray w fun e' w'=>∃u p cs' ws' e2,e'=.returned u/\R p cs'/\RP L w' p u/\aj w' b e2 ws'/\RL L w' cs' ws'/\(∀u∈ws',u.oneCell'=true)/\tH w.heap.size (·=b) w w'
theorem Rx.mono {P:Program} {Ld:bU} {f:FuncId} {zas:List (Option PV)} {cs:List PV} {R R':PV->List PV->Prop} (h:Rx P Ld f zas cs R) (hr:∀p l,R p l->R' p l):Rx P Ld f zas cs R':=
 fun w L us b e ws h1 h2 h3 h4 h5 h6 h7=>(h w L us b e ws h1 h2 h3 h4 h5 h6 h7).mono fun e w' ⟨u,p,l,ws',e2,k1,k2,k3⟩=>⟨u,p,l,ws',e2,k1,hr p l k2,k3⟩
inductive Bc (M:List (Ky × En)) (j:Nat):List Operand->List Ky->List (Option PV)->Prop
 |nil:Bc M j [] [] []
 |cons {x:Operand} {sx:bF} {p:PV} {r:List Operand} {ks:List Ky} {zas:List (Option PV)} (hx:ev M x=some sx) (hd:oh M sx p) (h:Bc M j r ks zas):Bc M j (x::r) (ok x++sx.refs.map .o++ks) (some p::zas)
 |ptr {x:Operand} {r:List Operand} {ks:List Ky} {zas:List (Option PV)} (hx:ev M x=some (.pt j 0)) (h:Bc M j r ks zas):Bc M j (x::r) (ok x++ks) (none::zas)
theorem Bc.real {Ld:bU} {X:Cx Ld} {N:Nat} {m:Mm} {a:Act} {w:World} {ρ:Nat->Value} {L:Nat->Option Nat} {M:List (Ky × En)} {j b:Nat} {r:List Operand} {ks:List Ky} {zas:List (Option PV)} (h:Bc M j r ks zas) (hR:kJ X N m a w ρ L) (hj:ρ j=.pointer (some ⟨b,0,none⟩)) (hk:∀k∈ks,m k=get k M):RA L w b zas (r.map a.eval):=by
 induction h with
 |nil=>exact⟨rfl,fun i p u hp=>by cases hp⟩
 |@cons x sx p r ks zas hx hd _ ih=>
  obtain⟨h1,h2⟩:=ih fun k hk'=>hk k (by simp[hk'])
  have h0:=hd.real hR.hs (bI hR hx fun k hk'=>hk k (by simp[hk'])) fun j hj=>hk (.o j) (by simp[hj])
  refine⟨by simp[h1],fun i p' u hp hu=>?_⟩;cases i with
  |zero=>cases hp;cases hu;exact h0
  |succ i=>exact h2 i p' u hp hu
 |@ptr x r ks zas hx _ ih=>
  obtain⟨h1,h2⟩:=ih fun k hk'=>hk k (by simp[hk'])
  obtain⟨b',e1,e2⟩:=Xk hR hx fun k hk'=>hk k (by simp[hk'])
  rw[hj] at e1;cases e1;refine⟨by simp[h1],fun i p' u hp hu=>?_⟩;cases i with
  |zero=>cases hp;cases hu;exact e2
  |succ i=>exact h2 i p' u hp hu
def Fits:bF->PV->Prop
 |.v q,p=>p=q
 |.ex R,p=>R p
 |.any,_=>True
 |_,_=>False
theorem Fits.sr {ρ:Nat->Value} {m:Mm} {L:Nat->Option Nat} {w:World} {x:bF} {p:PV} {u:Value} (h:Fits x p) (hp:RP L w p u):SR ρ m L w x u:=by
 cases x with
 |v q=>cases h;exact hp
 |ex R=>exact⟨p,h,hp⟩
 |any=>trivial
 |_=>exact h.elim
section
variable {P:Program} {Ld:bU} {X:Cx Ld} {N:Nat} {ops:Array Oper} {dr:Bool} {fin:List (Ky × En)->Prop} {o:Oper} {rest:List Oper} {acc:List (List Ky × List Ky)} {M:List (Ky × En)} {d:Nat} {ty:TypeId} {pos:String} {aO:Array Edge} {g:Option (Nat × Bool)}
theorem ais {f j:Nat} {xs:List Operand} {ts:Array TypeId} {zas:List (Option PV)} {ks:List Ky} {cs:List PV} {R:PV->List PV->Prop} {xc cs':List bF} (y:bF) (ha:Bc M j xs ks zas) (ho:get (.o j) M=some (.o (.blk xc))) (hxc:xc=cs.map .v) (hc:Rx P Ld f zas cs R) (hR:∀p l,R p l->Fits y p/\l.length=cs'.length/\∀(i:Nat) x q,cs'[i]?=some x->l[i]?=some q->Fits x q) (hf:∀args w,(callFunc f args).run P w=.ok (.enter f args) w):Ru ⟨some d,.call {callee:=.value (.func f),args:=xs.toArray,argTypes:=ts},ty,pos,aO,g⟩ P X N ops M (ks++[.o j]) [.s d,.o j] ((.s d,.s y)::(.o j,.o (.blk cs'))::M):=
 ⟨fun hD hw _ _ _ _ next=>
 have hN:d<N:=Nat.le_of_ble_eq_true hD;og (ks++[.o j]) [(.s d,.s y),(.o j,.o (.blk cs'))] (fun m a w ρ L K Q hS hk hK=>by
  subst hxc;have hm:m (.o j)=some (.o (.blk (cs.map .v))):=(hk (.o j) (by simp)).trans ho;obtain⟨b,e,ws,k1,k2,k3,k4,k5,k6,k7⟩:=hS.hs.ob j _ hm;have hr:=ha.real hS k1 fun k h=>hk k (mem_append_left _ h)
  have hrun:(execOp a.eval ⟨some d,.call {callee:=.value (.func f),args:=xs.toArray,argTypes:=ts},ty,pos,aO,g⟩).run P w=.ok (.enter f (xs.map a.eval).toArray) w:=by
   simp[execOp,resolve,Act.eval,Deferred.ofValue,invoke,hf]
  unfold Oper.wp;rw[hrun,Oper.upon_enter];have conv:∀{w'},tH w.heap.size (·=b) w w'->tH X.base X.iL X.w0 w':=fun {w'} hB=>hS.bl.trans ⟨hB.os,hB.tape,hB.output,hB.size,fun k hk hn=>hB.block k (Nat.lt_of_lt_of_le hk hS.lb) (by rintro rfl;rcases k2 with k2|k2;omega;exact hn k2)⟩
  refine (hc w L _ b e ws (fun w' hB=>X.tJ w' (conv hB)) hS.hs.new hr k3 ⟨by simpa using k4,fun i p u hp hu=>k6 i (.v p) u (by rw[getElem?_map,hp];rfl) hu⟩ k5 k7).mono ?_;rintro e' w' ⟨u,p,l,ws',e2,rfl,hrp,hp,hblk,hl,h1',hB⟩;obtain⟨f1,f2,f3⟩:=hR p l hrp
  have mo:∀i,upd m [(.s d,.s y),(.o j,.o (.blk cs'))] (.o i)=if i=j then some (.o (.blk cs')) else m (.o i):=by
   intro i;by_cases hi:i=j<;>simp[upd,bK,get_nil,hi]
  have ms:∀t,upd m [(.s d,.s y),(.o j,.o (.blk cs'))] (.s t)=if t=d then some (.s y) else m (.s t):=by
   intro t;by_cases ht:t=d<;>simp[upd,bK,get_nil,ht]
  generalize upd m [(.s d,.s y),(.o j,.o (.blk cs'))]=m' at*
  have E:Ext ρ m L w ρ m' L w':=by
   refine⟨⟨hB.size,fun k i hlt hal=>⟨hal,?_⟩⟩,fun i ob hi=>?_⟩
   ·have hne:k≠b:=by rintro rfl;have:=hal 0 k7;omega
    exact cell?_of_block (w:=w) (hB.block k hlt hne)
   ·by_cases hij:i=j
    ·subst hij;rw[hm] at hi;cases hi;exact⟨_,by rw[mo,if_pos rfl],rfl,rfl⟩
    ·exact⟨ob,by rw[mo,if_neg hij];exact hi,Ob.le_refl ρ i ob rfl⟩
  refine hK _ _ ⟨ρ,L,⟨fun i ob hi=>?_,fun i i' pF kS b' h1 h2 e1 e2=>?_,fun k hk=>hS.hs.new k (Nat.le_trans hB.size hk),fun ob' ho'=>?_⟩,by simp[Act.put,hS.sz],hS.df,fun t z hz=>?_,conv hB,hS.ll,Nat.le_trans hS.lb hB.size⟩
  ·by_cases hij:i=j
   ·subst hij;rw[mo,if_pos rfl] at hi;cases hi
    exact⟨b,e2,ws',k1,k2,hblk,by rw[<-f2,hl.1],h1',fun i' x u hx hu=>by
     have hi':i'<l.length:=by rw[f2];exact (List.getElem?_eq_some_iff.1 hx).1
     exact (f3 i' x _ hx (getElem?_eq_getElem hi')).sr (hl.2 i' _ u (getElem?_eq_getElem hi') hu),k7⟩
   ·rw[mo,if_neg hij] at hi;refine (hS.hs.ob i ob hi).keep E rfl fun k hv=>⟨hB.block k (hS.hs.own hi hv).2 ?_,rfl⟩
    rintro rfl;exact hij (hS.hs.inj i j ob _ k hi hm hv (by rw[k1];rfl))
  ·have back:∀{i ob},m' (.o i)=some (.o ob)->∃ob',m (.o i)=some (.o ob'):=fun {i ob} hi=>by
    by_cases hij:i=j
    ·rw[hij];exact⟨_,hm⟩
    ·rw[mo,if_neg hij] at hi;exact⟨_,hi⟩
   obtain⟨_,h1'⟩:=back h1;obtain⟨_,h2'⟩:=back h2;exact hS.hs.inj i i' _ _ b' h1' h2' e1 e2
  ·by_cases h9:(900:Nat)=j
   ·subst h9;exact hS.hs.bo _ hm
   ·rw[mo,if_neg h9] at ho';exact hS.hs.bo _ ho'
  ·by_cases htd:t=d
   ·subst htd;rw[ms,if_pos rfl] at hz;cases hz;exact⟨u,by simp[Act.put,hS.sz,hN],f1.sr hp⟩
   ·rw[ms,if_neg htd] at hz;obtain⟨v,hv,hs⟩:=hS.sl t z hz;exact⟨v,by simp[Act.put,Ne.symm htd,hv],hs.ext E⟩) hw next⟩
end
section
variable {L:Nat->Option Nat} {w:World}
theorem RL.app {a b:List PV} {us vs:List Value} (h:RL L w a us) (k:RL L w b vs):RL L w (a++b) (us++vs):=by
 refine⟨by rw[length_append,length_append,h.1,k.1],fun i p u hp hu=>?_⟩;rcases Nat.lt_or_ge i a.length with hlt|hge
 ·rw[getElem?_append_left hlt] at hp;rw[getElem?_append_left (h.1 ▸ hlt)] at hu;exact h.2 i p u hp hu
 ·rw[getElem?_append_right hge] at hp;rw[getElem?_append_right (h.1 ▸ hge),<-h.1] at hu;exact k.2 _ p u hp hu
theorem RL.tak {a:List PV} {us:List Value} (h:RL L w a us) (n:Nat):RL L w (a.take n) (us.take n):=by
 refine⟨by rw[length_take,length_take,h.1],fun i p u hp hu=>?_⟩;have hi:i<n:=by have:=(List.getElem?_eq_some_iff.1 hu).1;rw[length_take] at this;omega
 rw[getElem?_take_of_lt hi] at hp hu;exact h.2 i p u hp hu
theorem RL.drp {a:List PV} {us:List Value} (h:RL L w a us) (n:Nat):RL L w (a.drop n) (us.drop n):=by
 refine⟨by rw[length_drop,length_drop,h.1],fun i p u hp hu=>?_⟩;rw[getElem?_drop] at hp hu;exact h.2 _ p u hp hu
end
theorem Ry {q:Nat}:∀{xs:List PV} (k:Nat),(∀x∈xs,x.cs.length=q)->(xs.take k).flatMap PV.cs=(xs.flatMap PV.cs).take (k*q)
 |_,0,_=>by simp
 |[],k+1,_=>by simp
 |x::xs,k+1,h=>by
  have h0:=h x (by simp);rw[take_succ_cons,flatMap_cons,flatMap_cons,Ry k fun y hy=>h y (mem_cons_of_mem _ hy),take_append,take_of_length_le (l:=x.cs) (by rw[h0,Nat.add_mul];omega),h0,Nat.add_mul];congr 2;omega
theorem Rz {q:Nat}:∀{xs:List PV} (k:Nat),(∀x∈xs,x.cs.length=q)->(xs.drop k).flatMap PV.cs=(xs.flatMap PV.cs).drop (k*q)
 |_,0,_=>by simp
 |[],k+1,_=>by simp
 |x::xs,k+1,h=>by
  have h0:=h x (by simp);rw[drop_succ_cons,flatMap_cons,Rz k fun y hy=>h y (mem_cons_of_mem _ hy),drop_append,drop_of_length_le (l:=x.cs) (by rw[h0,Nat.add_mul];omega),nil_append,h0,Nat.add_mul];congr 1;omega
theorem Nr {q c:Nat} {p p':PV} {l:List PV}:∀{xs:List PV} {i:Nat},(∀x∈xs,x.cs.length=q)->xs[i]?=some p->c+l.length<=q->p'.cs=p.cs.take c++l++p.cs.drop (c+l.length)->(xs.set i p').flatMap PV.cs=(xs.flatMap PV.cs).take (i*q+c)++l++(xs.flatMap PV.cs).drop (i*q+c+l.length)
 |x::xs,0,hq,h,hc,hp=>by
  obtain rfl:x=p:=by simpa using h
  have h0:=hq x (by simp);rw[set_cons_zero,flatMap_cons,flatMap_cons,hp,Nat.zero_mul,Nat.zero_add,take_append_of_le_length (by omega),drop_append_of_le_length (by omega),append_assoc]
 |x::xs,i+1,hq,h,hc,hp=>by
  have h0:=hq x (by simp);rw[set_cons_succ,flatMap_cons,flatMap_cons,Nr (fun y hy=>hq y (mem_cons_of_mem _ hy)) h hc hp,take_append,take_of_length_le (l:=x.cs) (by rw[h0,Nat.add_mul];omega),drop_append,drop_of_length_le (l:=x.cs) (by rw[h0,Nat.add_mul];omega),nil_append,h0,Nat.add_mul,Nat.one_mul];rw[show i*q+q+c-q=i*q+c by omega,show i*q+q+c+l.length-q=i*q+c+l.length by omega];simp[append_assoc]
theorem Ns {P:Program} {t ty' e q n c cap:Nat} {A B:Option Addr} (w:World) (ht:P.underlying t=some (.slice e)) (hq:∀w,(Go.sizeOf e).run P w=.ok q w) (h:n<=cap):(Builtin.append_ #[t,t] ty' #[.slice A n cap,.slice B 0 c]).run P w=.ok (.slice A n cap) w:=by
 cases A<;>cases B<;>simp[Builtin.append_,underlying,ht,hq,Builtin.lenOf,Builtin.firstCells,h,loadCells,loadCellsFrom,storeCells,Result.andThen]
theorem JF {P:Program} {e q:Nat} (h:lU P e q=true) (w:World):(Go.sizeOf e).run P w=.ok q w:=by
 unfold lU at h;cases hi:P.info? e with
 |none=>rw[hi] at h;cases h
 |some i=>
  rw[hi] at h;simp only[Option.any_some,Bool.and_eq_true,beq_iff_eq] at h;simp[Go.sizeOf,typeInfo,hi,h.1.1.2]
section
variable {P:Program} {Ld:bU} {X:Cx Ld} {N:Nat} {ops:Array Oper} {dr:Bool} {fin:List (Ky × En)->Prop} {o:Oper} {rest:List Oper} {acc:List (List Ky × List Ky)} {M:List (Ky × En)} {d:Nat} {ty:TypeId} {pos:String} {aO:Array Edge} {g:Option (Nat × Bool)} {x y:Operand} {sx sy:bF}
theorem upd_same {m:Mm} {k:Ky} {e:En} {l:List (Ky × En)} (h:m k=some e):upd m (l++[(k,e)])=upd m l:=by
 funext k'
 simp only[upd,get_append]
 cases get k' l with
 |some _=>rfl
 |none=>
  simp only[bK,get_nil]
  by_cases hk:k'=k
  ·rw[if_pos hk,hk,h]
  ·rw[if_neg hk]
theorem afN {j n e q:Nat} {xs:List PV} {t:TypeId} (hx:ev M x=some (.ow j n)) (ho:get (.o j) M=some (.o (.row e q xs))) (hn:n=xs.length) (hy:ev M y=some (.v (.sl q []))) (ht:P.underlying t=some (.slice e)) (hi:lU P e q=true):Ru ⟨some d,.call {callee:=.builtin .append,args:=#[x,y],argTypes:=#[t,t]},ty,pos,aO,g⟩ P X N ops M (ok x++(.o j::ok y)) [.s d,.o j] ((.s d,.s (.ow j xs.length))::(.o j,.o (.row e q xs))::M):=
 ⟨fun hD hw _ _ _ _ next=>
 have hN:d<N:=Nat.le_of_ble_eq_true hD;og (ok x++(.o j::ok y)) [(.s d,.s (.ow j xs.length)),(.o j,.o (.row e q xs))] (fun m a w ρ L K Q hR hk hK=>by
  have hm:m (.o j)=some (.o (.row e q xs)):=(hk (.o j) (by simp)).trans ho;have h1:=bI hR hx fun k h=>hk k (mem_append_left _ h)
  have h2:=h1;obtain⟨e',q',xs',s1,s2,s3⟩:=h2;rw[hm] at s1;cases s1;obtain⟨us,k1,_⟩:=hR.hs.ob j _ hm;obtain⟨A,c,h3,h4,_⟩:=dK k1;obtain⟨B,c',_,h5,_⟩:=RP.qP (bI hR hy fun k h=>hk k (mem_append_right _ (mem_cons_of_mem _ h)))
  have hrun:(execOp a.eval ⟨some d,.call {callee:=.builtin .append,args:=#[x,y],argTypes:=#[t,t]},ty,pos,aO,g⟩).run P w=.ok (.value (a.eval x)) w:=by
   simp only[execOp,resolve,invoke,builtin,Sem.run_bind,Sem.run_pure,Result.andThen_ok,map_toArray,map_cons,map_nil,s3 hn,h3,h5]
   rw[show ([]:List PV).length=0 from rfl,Ns w ht (JF hi) h4];rfl
  unfold Oper.wp;rw[hrun,Oper.upon_value];refine hK _ _ ⟨ρ,L,?_⟩;have:=hR.put (d:=d) (x:=.ow j xs.length) (Below.refl _ _) hN (u:=a.eval x) (hn ▸ h1);rw[<-upd_same (l:=[(.s d,.s (.ow j xs.length))]) hm] at this;exact this) hw next⟩
theorem afO {j n e q:Nat} {xs ys:List PV} {t:TypeId} (hx:ev M x=some (.ow j n)) (ho:get (.o j) M=some (.o (.row e q xs))) (hn:n=xs.length) (hy:ev M y=some (.v (.sl q ys))) (hb:xs.length+ys.length<=100000) (ht:P.underlying t=some (.slice e)) (hi:lU P e q=true):Ru ⟨some d,.call {callee:=.builtin .append,args:=#[x,y],argTypes:=#[t,t]},ty,pos,aO,g⟩ P X N ops M (ok x++(.o j::ok y)) [.s d,.o j] ((.s d,.s (.ow j (xs++ys).length))::(.o j,.o (.row e q (xs++ys)))::M):=
 by
 cases ys with
 |nil=>rw[append_nil];exact afN hx ho hn hy ht hi
 |cons y1 ys=>exact aip hx ho hn hy (by simp) hb ht hi
theorem adP {j n k v e q:Nat} {xs:List PV} {t:TypeId} (hx:ev M x=some (.ox j n k)) (ho:get (.o j) M=some (.o (.aW v e q xs))) (hn:n=xs.length) (hv:k=v) (hy:ev M y=some (.v (.sl q []))) (ht:P.underlying t=some (.slice e)) (hi:lU P e q=true):Ru ⟨some d,.call {callee:=.builtin .append,args:=#[x,y],argTypes:=#[t,t]},ty,pos,aO,g⟩ P X N ops M (ok x++(.o j::ok y)) [.s d,.o j] ((.s d,.s (.ox j xs.length v))::(.o j,.o (.aW v e q xs))::M):=
 ⟨fun hD hw _ _ _ _ next=>
 have hN:d<N:=Nat.le_of_ble_eq_true hD;og (ok x++(.o j::ok y)) [(.s d,.s (.ox j xs.length v)),(.o j,.o (.aW v e q xs))] (fun m a w ρ L K Q hR hk hK=>by
  subst hn hv;have hm:m (.o j)=some (.o (.aW k e q xs)):=(hk (.o j) (by simp)).trans ho;have h1:=bI hR hx fun k h=>hk k (mem_append_left _ h)
  have h2:=h1;obtain⟨v',e',q',xs',s1,s2,s3⟩:=h2;rw[hm] at s1;cases s1;obtain⟨us,k1,_⟩:=hR.hs.ob j _ hm;obtain⟨A,c,h3,h4,_⟩:=dK k1;obtain⟨B,c',_,h5,_⟩:=RP.qP (bI hR hy fun k h=>hk k (mem_append_right _ (mem_cons_of_mem _ h)))
  have hrun:(execOp a.eval ⟨some d,.call {callee:=.builtin .append,args:=#[x,y],argTypes:=#[t,t]},ty,pos,aO,g⟩).run P w=.ok (.value (a.eval x)) w:=by
   simp only[execOp,resolve,invoke,builtin,Sem.run_bind,Sem.run_pure,Result.andThen_ok,map_toArray,map_cons,map_nil,(s3 rfl).2 rfl,h3,h5]
   rw[show ([]:List PV).length=0 from rfl,Ns w ht (JF hi) h4];rfl
  unfold Oper.wp;rw[hrun,Oper.upon_value];refine hK _ _ ⟨ρ,L,?_⟩;have:=hR.put (d:=d) (x:=.ox j xs.length k) (Below.refl _ _) hN (u:=a.eval x) h1;rw[<-upd_same (l:=[(.s d,.s (.ox j xs.length k))]) hm] at this;exact this) hw next⟩
theorem adQ {v k j n e q:Nat} {xs ys:List PV} {t:TypeId} (hx:ev M x=some (.ox j n k)) (ho:get (.o j) M=some (.o (.aW v e q xs))) (hn:n=xs.length) (hv:k=v) (hy:ev M y=some (.v (.sl q ys))) (hb:xs.length+ys.length<=100000) (ht:P.underlying t=some (.slice e)) (hi:lU P e q=true):Ru ⟨some d,.call {callee:=.builtin .append,args:=#[x,y],argTypes:=#[t,t]},ty,pos,aO,g⟩ P X N ops M (ok x++(.o j::ok y)) [.s d,.o j] ((.s d,.s (.ox j (xs++ys).length v))::(.o j,.o (.aW v e q (xs++ys)))::M):=
 by
 cases ys with
 |nil=>rw[append_nil];exact adP hx ho hn hv hy ht hi
 |cons y1 ys=>exact afG hx ho hn hv hy (by simp) hb ht hi
def okO:Option Operand->List Ky
 |none=>[]
 |some x=>ok x
inductive Bd (M:List (Ky × En)):Option Operand->Nat->Nat->Prop
 |no (n:Nat):Bd M none n n
 |is {x:Operand} {z:Int} {n k:Nat} (h:ev M x=some (.v (.sc (.int .i64 z)))) (hz:z=(k:Int)):Bd M (some x) n k
theorem Bd.real {m:Mm} {a:Act} {w:World} {ρ:Nat->Value} {L:Nat->Option Nat} {lo:Option Operand} {n k:Nat} (h:Bd M lo n k) (hR:kJ X N m a w ρ L) (hk:∀i∈okO lo,m i=get i M):(lo=none/\k=n)∨∃x,lo=some x/\a.eval x=.int .i64 (k:Int):=by
 cases h with
 |no n=>exact .inl ⟨rfl,rfl⟩
 |is h hz=>subst hz;exact .inr ⟨_,rfl,evs hR h hk⟩
theorem ait {q i k:Nat} {xs:List PV} {t e:TypeId} {lo hi:Option Operand} (hx:ev M x=some sx) (hd:oh M sx (.sl q xs)) (hl:Bd M lo 0 i) (hh:Bd M hi xs.length k) (h1:i<=k) (h2:k<=xs.length) (ht:P.underlying t=some (.slice e)) (hq:∀w,(Go.sizeOf e).run P w=.ok q w):Yd ⟨some d,.slice t x lo hi none,ty,pos,aO,g⟩ P X N ops M ((ok x++sx.refs.map .o)++(okO lo++okO hi)) (.v (.sl q ((xs.take k).drop i))):=
 dL ((ok x++sx.refs.map .o)++(okO lo++okO hi)) _ (fun m a w ρ L hR hk=>by
  have hr:RP L w (.sl q xs) (a.eval x):=hd.real hR.hs (bI hR hx fun k h=>hk k (mem_append_left _ (mem_append_left _ h))) fun j hj=>hk (.o j) (mem_append_left _ (mem_append_right _ (mem_map.2 ⟨j,hj,rfl⟩)))
  obtain⟨A,c,us,s1,s2,s3,s4,s5,s6,s7,s8⟩:=RP.qP hr;have hlo:=hl.real hR fun k h=>hk k (mem_append_right _ (mem_append_left _ h))
  have hhi:=hh.real hR fun k h=>hk k (mem_append_right _ (mem_append_right _ h))
  have hkc:k<=c:=by omega
  have hrun:(execOp a.eval ⟨some d,.slice t x lo hi none,ty,pos,aO,g⟩).run P w=.ok (.value (.slice (if c=i then A else A.map (·.add (i*q))) (k-i) (c-i))) w:=by
   rcases hlo with⟨rfl,rfl⟩|⟨x1,rfl,e1⟩<;>rcases hhi with⟨rfl,rfl⟩|⟨x2,rfl,e2⟩<;>simp[*,execOp,Instr.sliceAt,Instr.slice,Instr.sliceBounds,Instr.sliceBound,underlying,ht,hq,s1,asIntOf,Result.andThen]
  have hxl:((xs.take k).drop i).length=k-i:=by rw[length_drop,length_take];omega
  have hcs:((xs.take k).drop i).flatMap PV.cs=((xs.flatMap PV.cs).take (k*q)).drop (i*q):=by rw[Rz i (q:=q) fun y hy=>s8 y (mem_of_mem_take hy),Ry k s8]
  have akC:RL L w (xs.flatMap PV.cs) us:=⟨s4,s6⟩
  have hRL:=(RL.tak akC (k*q)).drp (i*q);refine⟨_,w,hrun,Below.refl _ _,?_⟩;show RP L w (.sl q ((xs.take k).drop i)) _;rw[<-hxl];refine .sl (us:=(us.take (k*q)).drop (i*q)) (fun y hy=>s8 y (mem_of_mem_take (mem_of_mem_drop hy))) (by omega) (by omega) (by rw[hcs];exact hRL.1) (fun u hu=>s5 u (mem_of_mem_take (mem_of_mem_drop hu))) (by rw[hcs];exact hRL.2) ?_;by_cases hci:c=i
  ·rw[if_pos hci];refine .inl (eq_nil_of_length_eq_zero ?_);have:=hRL.1;rw[<-hcs] at this;rw[<-this,eq_nil_of_length_eq_zero (l:=(xs.take k).drop i) (by omega)];rfl
  ·rw[if_neg hci];rcases s7 with rfl|⟨b,off,rfl,hb,s7⟩
   ·exact .inl (by simp)
   ·have hL:=Lays.part (.inr ⟨b,off,rfl,hb,s7⟩:Lays L w (some ⟨b,off,none⟩) us) (i*q) (k*q-i*q);rw[drop_take];show Lays L w (some (Addr.add ⟨b,off,none⟩ (i*q))) _;rw[add_lit];exact hL)
theorem aiu {i k:Nat} {s:ByteArray} {t:TypeId} {lo hi:Option Operand} (hx:ev M x=some (.v (.sc (.string s)))) (hl:Bd M lo 0 i) (hh:Bd M hi s.size k) (h1:i<=k) (h2:k<=s.size) (ht:P.underlying t=some .string):Yd ⟨some d,.slice t x lo hi none,ty,pos,aO,g⟩ P X N ops M (ok x++(okO lo++okO hi)) (.v (.sc (.string (s.extract i k)))):=
 dL (ok x++(okO lo++okO hi)) _ (fun m a w ρ L hR hk=>by
  have s1:=evs hR hx fun k h=>hk k (mem_append_left _ h)
  have hlo:=hl.real hR fun k h=>hk k (mem_append_right _ (mem_append_left _ h))
  have hhi:=hh.real hR fun k h=>hk k (mem_append_right _ (mem_append_right _ h))
  refine⟨_,w,?_,Below.refl _ _,.sc _⟩;rcases hlo with⟨rfl,rfl⟩|⟨x1,rfl,e1⟩<;>rcases hhi with⟨rfl,rfl⟩|⟨x2,rfl,e2⟩<;>simp[*,execOp,Instr.sliceAt,Instr.slice,Instr.sliceBounds,Instr.sliceBound,underlying,ht,s1,asIntOf,Result.andThen])
theorem RD {t e n q:Nat} {z:Value} {parts:List (Nat × Operand)} {ps:List PV} {ks:List Ky} {ob:Ob} {sx:bF} (lim:List Value->Nat) (ht:P.underlying t=some (.slice e)) (hq:∀w,(Go.sizeOf e).run P w=.ok q w) (hz:∀w,(zeroValue e).run P w=.ok z w) (hp:uf M q parts 0 ks ps) (hn:ps.length=n) (hq0:n*q<=10000000) (hj:get (.o d) M=none) (h9:d≠900) (hO:∀ρ' m' L' (w':World) (us:List Value),ρ' d=.slice (some ⟨w'.heap.size,0,none⟩) n n->L' w'.heap.size=some (lim us)->RL L' (w'.alloc (.cells us.toArray e)) (ps.flatMap PV.cs) us->(∀u∈us,u.oneCell'=true)->X.base<=w'.heap.size->(∀p∈ps,p.cs.length=q)->us.length=n*q->OR ρ' m' L' (w'.alloc (.cells us.toArray e)) X.base X.iL d ob) (hS:∀ρ' m' L' w' v,ρ' d=v->m' (.o d)=some (.o ob)->SR ρ' m' L' w' sx v):Ru ⟨some d,.buildSlice t n parts.toArray,ty,pos,aO,g⟩ P X N ops M (.o d::ks) [.s d,.o d] ((.s d,.s sx)::(.o d,.o ob)::M):=
 ⟨fun hD hw _ _ _ _ next=>
 have hN:d<N:=Nat.le_of_ble_eq_true hD;og (.o d::ks) [(.s d,.s sx),(.o d,.o ob)] (fun m a w ρ L K Q hR hk hK=>by
  subst hn;have hmj:m (.o d)=none:=(hk (.o d) (by simp)).trans hj;obtain⟨junk,j1,j2⟩:∃junk:List Value,((Array.range (ps.length*q)).map ((if ps.length*q=0 then #[] else z.cells)[· % (if ps.length*q=0 then #[] else z.cells).size]!))=junk.toArray/\junk.length=ps.length*q:=⟨((Array.range (ps.length*q)).map ((if ps.length*q=0 then #[] else z.cells)[· % (if ps.length*q=0 then #[] else z.cells).size]!)).toList,rfl,by simp⟩
  obtain⟨us,e1,e2,e3,e4⟩:=hp.real hR (fun k h=>hk k (mem_cons_of_mem _ h)) [] junk (by simp) j2;simp only[nil_append] at e1
  have hrun:(execOp a.eval ⟨some d,.buildSlice t ps.length parts.toArray,ty,pos,aO,g⟩).run P w=.ok (.value (.slice (some ⟨w.heap.size,0,none⟩) ps.length ps.length)) (w.alloc (.cells us.toArray e)):=by
   have Nk:¬(2 ^ 24<ps.length*q):=by omega
   by_cases h00:ps.length*q=0
   ·simp only[if_pos h00] at j1;simp only[execOp,Instr.buildSlice,underlying,Sem.run_bind,run_program,Result.andThen_ok,ht,Sem.run_pure,hq,gt_iff_lt,if_neg Nk,if_pos h00]
    simp only[map_toArray,j1,e1]
    rfl
   ·simp only[if_neg h00] at j1;simp only[execOp,Instr.buildSlice,underlying,Sem.run_bind,run_program,Result.andThen_ok,ht,Sem.run_pure,hq,gt_iff_lt,if_neg Nk,if_neg h00,hz]
    simp only[map_toArray,j1,e1]
    rfl
  have hB:Below w.heap.size w (w.alloc (.cells us.toArray e)):=(Below.refl _ _).alloc (Nat.le_refl _) _;unfold Oper.wp;rw[hrun,Oper.upon_value];have Rt:us.length=ps.length*q:=by rw[<-e2,vI ps hp.wid]
  refine hK _ _ (hR.obj (lim:=some (lim us)) hmj h9 hN (fun b hb=>by cases hb;rfl) (fun ρ' m' L' e5 e6 E=>hO _ _ _ w us e5 e6 ⟨e2,fun i p u hp hu=>(e4 i p u hp hu).grow E.grow⟩ e3 hR.lb hp.wid Rt) fun ρ' m' L' e5 e6=>hS _ _ _ _ _ e5 e6)) hw next⟩
theorem XJ {base e n q:Nat} {w:World} {us:List Value} (hb:base<=w.heap.size) (hl:us.length=n*q) (hm:n<=maxLen):(w.alloc (.cells us.toArray e)).ownsRow base e q (.slice (some ⟨w.heap.size,0,none⟩) n n) n us:=
 ⟨hl,.inr ⟨w.heap.size,n,us.toArray,rfl,hb,heap_alloc_new w _,Nat.le_refl _,hm,by simp[hl],by simp[<-hl]⟩⟩
theorem aiv {t e n q:Nat} {z:Value} {parts:List (Nat × Operand)} {ps:List PV} {ks:List Ky} (ht:P.underlying t=some (.slice e)) (hq:∀w,(Go.sizeOf e).run P w=.ok q w) (hz:∀w,(zeroValue e).run P w=.ok z w) (hp:uf M q parts 0 ks ps) (hn:ps.length=n) (hq0:n*q<=10000000/\n<=10000000) (hj:get (.o d) M=none) (h9:d≠900):Ru ⟨some d,.buildSlice t n parts.toArray,ty,pos,aO,g⟩ P X N ops M (.o d::ks) [.s d,.o d] ((.s d,.s (.ow d n))::(.o d,.o (.row e q ps))::M):=
 RD (ob:=.row e q ps) (sx:=.ow d n) List.length ht hq hz hp hn hq0.1 hj h9 (fun ρ' m' L' w' us h1 h2 h3 h4 h5 h6 h7=>⟨us,by rw[h1,hn];exact XJ h5 h7 (by unfold maxLen;omega),h3,h4,fun b hb=>by rw[h1] at hb;cases hb;exact h2,h6⟩) (fun ρ' m' L' w' v h1 h2=>⟨e,q,ps,h2,Nat.le_of_eq hn.symm,fun _=>h1.symm⟩)
theorem aiw {t e n q:Nat} {z:Value} {parts:List (Nat × Operand)} {ps:List PV} {ks:List Ky} (ht:P.underlying t=some (.slice e)) (hq:∀w,(Go.sizeOf e).run P w=.ok q w) (hz:∀w,(zeroValue e).run P w=.ok z w) (hp:uf M q parts 0 ks ps) (hn:ps.length=n) (hq0:n*q<=10000000/\n<=10000000) (hj:get (.o d) M=none) (h9:d≠900):Ru ⟨some d,.buildSlice t n parts.toArray,ty,pos,aO,g⟩ P X N ops M (.o d::ks) [.s d,.o d] ((.s d,.s (.ox d n 0))::(.o d,.o (.aW 0 e q ps))::M):=
 RD (ob:=.aW 0 e q ps) (sx:=.ox d n 0) (fun _=>0) ht hq hz hp hn hq0.1 hj h9 (fun ρ' m' L' w' us h1 h2 h3 h4 h5 h6 h7=>⟨us,by rw[h1,hn];exact XJ h5 h7 (by unfold maxLen;omega),h3,h4,fun b hb=>by rw[h1] at hb;cases hb;exact h2,h6⟩) (fun ρ' m' L' w' v h1 h2=>⟨0,e,q,ps,h2,Nat.le_refl _,fun _=>⟨Nat.le_of_eq hn.symm,fun _=>h1.symm⟩⟩)
theorem afP {i c f n k j e' q':Nat} {xs':List PV} (x:Operand) (hx:ev M x=some (.px j i c n k)) (hv:∀(e:Operand->Value) b off w,e x=.pointer (some ⟨b,off,none⟩)->(execOp e o).run P w=.ok (.value (.pointer (some ⟨b,off+f,none⟩))) w) (ho:get (.o j) M=some (.o (.aW k e' q' xs'))) (hn:n=xs'.length):Yd o P X N ops M (ok x++[.o j]) (.px j i (c+f) n k):=
 dL (ok x++[.o j]) _ (fun m a w ρ L hR hk=>by
  have hm:m (.o j)=some (.o (.aW k e' q' xs')):=(hk (.o j) (by simp)).trans ho;obtain⟨v,e,q,xs,h1,h2,h3⟩:=bI hR hx fun k h=>hk k (mem_append_left _ h)
  rw[hm] at h1;cases h1;obtain⟨b,l,cp,h4,h5⟩:=(h3 rfl).2 hn;exact⟨_,w,hv _ _ _ _ h5,Below.refl _ _,k,e',q',xs',hm,Nat.le_refl _,fun _=>⟨(h3 rfl).1,fun _=>⟨b,l,cp,h4,by rw[Nat.add_assoc]⟩⟩⟩)
theorem afQ {i c n k v e q j s:Nat} {xs:List PV} {p:PV} {l:List PV} {t:TypeId} (x:Operand) (hx:ev M x=some (.px j i c n k)) (ho:get (.o j) M=some (.o (.aW v e q xs))) (hn:n=xs.length) (hk:k=v) (hp:xs[i]?=some p) (hA:∀w,(isAgg t).run P w=.ok true w) (hs:∀w,(Go.sizeOf t).run P w=.ok s w) (hl:(p.cs.drop c).take s=l) (hls:l.length=s) (hop:o.op=.load t x):Yd o P X N ops M (ok x++[.o j]) (.v (.ag l)):=
 dL (ok x++[.o j]) _ (fun m a w ρ L hR hk'=>by
  have hm:m (.o j)=some (.o (.aW v e q xs)):=(hk' (.o j) (by simp)).trans ho;obtain⟨v',e',q',xs',s1,_,s3⟩:=bI hR hx fun i h=>hk' i (mem_append_left _ h)
  rw[hm] at s1;cases s1;obtain⟨b,l0,cp,h3,h1⟩:=(s3 hk).2 hn;obtain⟨us,k1,k2,k3,_,k5⟩:=hR.hs.ob j _ hm;obtain⟨f1,f2⟩:=yu k5 hp;have hpq:=k5 p (mem_of_getElem? hp);rw[h3] at k1
  have hcl:c+s<=q∨s=0:=by
   have:=hls;rw[<-hl,length_take,length_drop,hpq] at this;omega
  have hL:l=((xs.flatMap PV.cs).drop (i*q+c)).take s:=by
   rw[<-hl,<-f1,drop_take,drop_drop,take_take];rcases hcl with h|h
   ·congr 1;omega
   ·subst h;simp
  have hRL:RL L w l ((us.drop (i*q+c)).take s):=by rw[hL];exact (RL.drp k2 _).tak _
  have hlen:((us.drop (i*q+c)).take s).length=s:=by rw[<-hRL.1,hls]
  have hld:=run_loadCells_list (P:=P) w ⟨b,i*q+c,none⟩ ((us.drop (i*q+c)).take s) (fun a v hv=>by
   have ha:a<s:=by have:=(List.getElem?_eq_some_iff.1 hv).1;omega
   rw[getElem?_take_of_lt ha,getElem?_drop] at hv;have hcell:=k1.cells (g:=b) rfl _ _ hv;rw[add_lit,Nat.zero_add] at hcell;rw[add_lit];exact hcell)
  rw[hlen] at hld;refine⟨.agg ((us.drop (i*q+c)).take s).toArray,w,?_,Below.refl _ _,.ag hRL.1 (fun u hu=>k3 u (mem_of_mem_drop (mem_of_mem_take hu))) hRL.2⟩;simp[execOp,hop,h1,Instr.loadAt,Instr.sureAddr,loadVar,hA,hs,hld,Result.andThen])
theorem XK {i c n k v e q j:Nat} {xs:List PV} {p0 p p':PV} {l:List PV} {t:TypeId} (hx:ev M x=some (.px j i c n k)) (ho:get (.o j) M=some (.o (.aW v e q xs))) (hn:n=xs.length) (hk:k=v) (hy:ev M y=some sy) (hd:oh M sy p) (hpl:Af p l) (hs:∀w,(Go.sizeOf t).run P w=.ok l.length w) (hp:xs[i]?=some p0) (hc:c+l.length<=p0.cs.length) (hp':p'.cs=p0.cs.take c++l++p0.cs.drop (c+l.length)):Ru ⟨none,.store t x y,ty,pos,aO,g⟩ P X N ops M (ok x++(ok y++.o j::sy.refs.map .o)) [.o j] ((.o j,.o (.aW v e q (xs.set i p')))::M):=
 ⟨fun hD hw _ _ _ _ next=>
 og (ok x++(ok y++.o j::sy.refs.map .o)) [(.o j,.o (.aW v e q (xs.set i p')))] (fun m a w ρ L K Q hR hk0 hK=>by
  have hk':∀k∈ok y++.o j::sy.refs.map .o,m k=get k M:=fun k h=>hk0 k (mem_append_right _ h)
  have hm:m (.o j)=some (.o (.aW v e q xs)):=(hk' (.o j) (by simp)).trans ho;obtain⟨v',e',q',xs',s1,_,s3⟩:=bI hR hx fun i h=>hk0 i (mem_append_left _ h)
  rw[hm] at s1;cases s1;obtain⟨b,l0,cp,h3,h1⟩:=(s3 hk).2 hn;have hr:=hd.real hR.hs (bI hR hy fun k h=>hk' k (mem_append_left _ h)) fun i hi=>hk' (.o i) (mem_append_right _ (mem_cons_of_mem _ (mem_map.2 ⟨i,hi,rfl⟩)))
  obtain⟨vs,g1,g2,g3,g4⟩:=hpl.real hr;obtain⟨us,k1,k2,k3,k4,k5⟩:=hR.hs.ob j _ hm;have hpq:=k5 p0 (mem_of_getElem? hp);have hil:=(List.getElem?_eq_some_iff.1 hp).1;have hq1:i*q+q<=xs.length*q:=by rw[<-Nat.succ_mul];exact Nat.mul_le_mul_right _ hil
  rcases k1.2 with⟨h5,_⟩|⟨b',cap,cur,h5,hb,XI,Rw,hc5,hs5,ht5⟩
  ·rw[h3] at h5;cases h5
  ·rw[h3] at h5;cases h5;have hB:aj w b e cur.toList:=by simpa [aj] using XI
   have aoG:xs.length*q<=cp*q:=Nat.mul_le_mul_right _ Rw;have hst:=run_storeCells_at (P:=P) b (i*q+c) e vs 0 cur w XI (by rw[<-g2];omega) g3;simp only[Nat.add_zero] at hst
   have hrun:(execOp a.eval ⟨none,.store t x y,ty,pos,aO,g⟩).run P w=.ok .skip (w.setRow b (cur.toList.take (i*q+c)++vs++cur.toList.drop (i*q+c+vs.length)).toArray):=by
    simp[execOp,Instr.storeAt,Instr.sureAddr,h1,storeVar,hs,g1,g2,hst,Result.andThen]
   unfold Oper.wp;rw[hrun,Oper.upon_skip];have hOt:∀k,k≠b->(w.setRow b (cur.toList.take (i*q+c)++vs++cur.toList.drop (i*q+c+vs.length)).toArray).heap[k]?=w.heap[k]?:=fun k hk=>setRow_other w b k _ hk
   have hW:=setRow_heap w b cur (cur.toList.take (i*q+c)++vs++cur.toList.drop (i*q+c+vs.length)).toArray e (0,0) XI;have hS:(w.setRow b (cur.toList.take (i*q+c)++vs++cur.toList.drop (i*q+c+vs.length)).toArray).heap.size=w.heap.size:=by simp[World.setRow]
   have hos:(w.setRow b (cur.toList.take (i*q+c)++vs++cur.toList.drop (i*q+c+vs.length)).toArray).os=w.os/\(w.setRow b (cur.toList.take (i*q+c)++vs++cur.toList.drop (i*q+c+vs.length)).toArray).tape=w.tape/\(w.setRow b (cur.toList.take (i*q+c)++vs++cur.toList.drop (i*q+c+vs.length)).toArray).output=w.output:=⟨rfl,rfl,rfl⟩
   generalize w.setRow b (cur.toList.take (i*q+c)++vs++cur.toList.drop (i*q+c+vs.length)).toArray=w' at*
   have mo:∀i',upd m [(.o j,.o (.aW v e q (xs.set i p')))] (.o i')=if i'=j then some (.o (.aW v e q (xs.set i p'))) else m (.o i'):=by
    intro i';by_cases hi:i'=j<;>simp[upd,bK,get_nil,hi]
   have ms:∀t,upd m [(.o j,.o (.aW v e q (xs.set i p')))] (.s t)=m (.s t):=fun t=>by simp[upd,bK,get_nil]
   generalize upd m [(.o j,.o (.aW v e q (xs.set i p')))]=m' at*
   have hk5:∀y∈xs.set i p',y.cs.length=q:=fun y hy=>by
    rcases mem_or_eq_of_mem_set hy with hy|rfl
    ·exact k5 y hy
    ·rw[hp'];simp;omega
   have Rt:us.length=xs.length*q:=k1.1;have aix:=Nr (p':=p') k5 hp (by omega) hp';have hvl:l.length=vs.length:=g2
   have hus:(cur.toList.take (i*q+c)++vs++cur.toList.drop (i*q+c+vs.length)).take (xs.length*q)=us.take (i*q+c)++vs++us.drop (i*q+c+vs.length):=by
    have hcl:cur.toList.length=cp*q:=by simpa using hs5
    rw[<-ht5,take_append,take_append,take_of_length_le (l:=cur.toList.take (i*q+c)) (by rw[length_take];omega),take_of_length_le (l:=vs) (by rw[length_take];omega),take_take,Nat.min_eq_left (by omega),drop_take];congr 2;rw[length_append,length_take];omega
   have hown:w'.ownsRow X.base e q (.slice (some ⟨b,0,none⟩) xs.length cp) xs.length (us.take (i*q+c)++vs++us.drop (i*q+c+vs.length)):=by
    refine⟨by rw[length_append,length_append,length_take,length_drop];omega,.inr ⟨b,cp,_,rfl,hb,hW,Rw,hc5,?_,hus⟩⟩;have hcl:cur.toList.length=cp*q:=by simpa using hs5
    simp only[size_toArray,length_append,length_take,length_drop];omega
   obtain⟨ρ',L',e1,E,hfin⟩:=row_step (lim:=0) (lim':=0) (v1:=ρ j) (w':=w') hR hm mo (fun b9 fP=>by rw[h3] at fP;cases fP) (fun b' hb'=>⟨(kF k1 hb').1,k4 b' hb'⟩) (fun ρ' L' E hρ hL=>⟨us.take (i*q+c)++vs++us.drop (i*q+c+vs.length),by rw[hρ,h3,length_set];exact hown,by
     rw[aix,hvl];have k2':RL L' w' (xs.flatMap PV.cs) us:=k2.grow E.grow;exact ((RL.tak k2' _).app ⟨hvl,fun i p u h1 h2=>(g4 i p u h1 h2).grow E.grow⟩).app (RL.drp k2' _),fun u hu=>by
     rcases mem_append.1 hu with hu|hu
     ·rcases mem_append.1 hu with hu|hu
      ·exact k3 u (mem_of_mem_take hu)
      ·exact g3 u hu
     ·exact k3 u (mem_of_mem_drop hu),fun b' hb'=>hL b' (by rw[<-hρ];exact hb'),hk5⟩)
    (fun ρ' hρ=>⟨_,_,rfl,Nat.le_refl _,fun _=>⟨by rw[length_set];omega,fun _=>hρ⟩⟩) (by omega) hos (fun b' _ hne=>hOt b' fun h=>hne (by rw[h,h3];rfl)) (fun _ _ _ h=>absurd h (Nat.not_lt_zero _)) fun b' hb'=>⟨by have:=(kF k1 hb').2;omega,.inl ⟨hb',Nat.le_refl _⟩⟩
   exact hK _ _ ⟨ρ',L',hfin _ hR.sz hR.df fun t z hz=>by
    rw[ms] at hz;obtain⟨u,hu,hs⟩:=hR.sl t z hz;exact⟨u,hu,hs.ext E⟩⟩) hw next⟩
theorem aiy {j off n:Nat} {cs:List bF} {qs:List SC} {t:TypeId} (x:Operand) (hx:ev M x=some (.pt j off)) (ho:get (.o j) M=some (.o (.blk cs))) (hA:∀w,(isAgg t).run P w=.ok true w) (hn:∀w,(Go.sizeOf t).run P w=.ok n w) (hq:(cs.drop off).take n=qs.map SC.s) (Jw:qs.length=n) (hop:o.op=.load t x):Yd o P X N ops M (ok x++[.o j]) (.sg qs):=
 dL (ok x++[.o j]) _ (fun m a w ρ L hR hk=>by
  obtain⟨b,h1,h2⟩:=Xk hR hx fun k h=>hk k (mem_append_left _ h)
  have hm:m (.o j)=some (.o (.blk cs)):=(hk (.o j) (by simp)).trans ho;obtain⟨b',e,us,k1,k2,k3,k4,k5,k6,k7⟩:=hR.hs.ob j _ hm;rw[h1] at k1;cases k1
  have hlen:((us.drop off).take n).length=n:=by
   have:=congrArg List.length hq;rw[length_map,Jw,length_take,length_drop] at this;rw[length_take,length_drop];omega
  have hld:=run_loadCells_list (P:=P) w ⟨b,off,none⟩ ((us.drop off).take n) (fun i v hv=>by
   have hi:i<n:=by have:=(List.getElem?_eq_some_iff.1 hv).1;omega
   rw[getElem?_take_of_lt hi,getElem?_drop] at hv;have hi2:=List.getElem?_eq_some_iff.1 hv;rw[add_lit,k3.cell hi2.1,hi2.2])
  rw[hlen] at hld;refine⟨.agg ((us.drop off).take n).toArray,w,by simp[execOp,hop,h2,Instr.loadAt,Instr.sureAddr,loadVar,hA,hn,hld,Result.andThen],Below.refl _ _,_,rfl,by rw[Jw,hlen],fun u hu=>k5 u (mem_of_mem_drop (mem_of_mem_take hu)),fun i c x hc hx=>SC.sr.2 ?_⟩;have hi:i<n:=by have:=(List.getElem?_eq_some_iff.1 hx).1;omega
  have hcs:((cs.drop off).take n)[i]?=some c.s:=by rw[hq,getElem?_map,hc];rfl
  rw[getElem?_take_of_lt hi,getElem?_drop] at hcs hx;exact k6 _ _ x hcs hx)
theorem acD (x:Operand) (hx:ev M x=some sx) (hp:∀(m:Mm) (ρ:Nat->Value) (L:Nat->Option Nat) (w:World) u,SR ρ m L w sx u->(∀k∈sx.refs.map Ky.o,m k=get k M)->∃b off,u=.pointer (some ⟨b,off,none⟩)) (hop:o.op=.nilCheck x):Yd o P X N ops M (ok x++sx.refs.map .o) sx:=
 dL (ok x++sx.refs.map .o) _ (fun m a w ρ L hR hk=>by
  have h1:=bI hR hx fun k h=>hk k (mem_append_left _ h)
  obtain⟨b,off,h2⟩:=hp m ρ L w _ h1 fun k h=>hk k (mem_append_right _ h)
  exact⟨a.eval x,w,(by simp[execOp,hop,h2]),Below.refl _ _,h1⟩)
theorem aiz {i n q:Nat} {kd:IntKind} {l l':List PV} {t e:TypeId} (hx:ev M x=some (.v (.ag l))) (hy:ev M y=some (.v (.sc (.int kd (i:Int))))) (ht:P.underlying t=some (.array n e)) (hA:∀w,(isAgg e).run P w=.ok true w) (hq:∀w,(Go.sizeOf e).run P w=.ok q w) (hi:i<n) (hl:(l.drop (i*q)).take q=l'):Yd ⟨some d,.index t x y,ty,pos,aO,g⟩ P X N ops M (ok x++ok y) (.v (.ag l')):=
 dL (ok x++ok y) _ (fun m a w ρ L hR hk=>by
  obtain⟨us,h1,h2,h3,h4⟩:=RP.vP (bI hR hx fun k h=>hk k (mem_append_left _ h));have h5:=evs hR hy fun k h=>hk k (mem_append_right _ h)
  have hRL:RL L w l' ((us.drop (i*q)).take q):=by rw[<-hl];exact (RL.drp ⟨h2,h4⟩ _).tak _
  refine⟨.agg ((us.drop (i*q)).take q).toArray,w,?_,Below.refl _ _,.ag hRL.1 (fun u hu=>h3 u (mem_of_mem_drop (mem_of_mem_take hu))) hRL.2⟩;have e1:us.toArray.extract (i*q) (i*q+q)=((us.drop (i*q)).take q).toArray:=by simp
  simp[execOp,Instr.index,asIntOf,underlying,ht,h1,h5,hi,hq,hA,part,Result.andThen])
theorem aiA {i n:Nat} {kd:IntKind} {l:List PV} {p:PV} {t e:TypeId} (hx:ev M x=some (.v (.ag l))) (hy:ev M y=some (.v (.sc (.int kd (i:Int))))) (ht:P.underlying t=some (.array n e)) (hA:∀w,(isAgg e).run P w=.ok false w) (hq:∀w,(Go.sizeOf e).run P w=.ok 1 w) (hi:i<n) (hl:l[i]?=some p):Yd ⟨some d,.index t x y,ty,pos,aO,g⟩ P X N ops M (ok x++ok y) (.v p):=
 dL (ok x++ok y) _ (fun m a w ρ L hR hk=>by
  obtain⟨us,h1,h2,h3,h4⟩:=RP.vP (bI hR hx fun k h=>hk k (mem_append_left _ h));have h5:=evs hR hy fun k h=>hk k (mem_append_right _ h)
  obtain⟨u,hu,hr⟩:=RP.at h2 h4 hl;exact⟨u,w,(by simp[execOp,Instr.index,asIntOf,underlying,ht,h1,h5,hi,hq,hA,part,hu,Result.andThen]),Below.refl _ _,hr⟩)
theorem afR {j off k off':Nat} {vy:Value} (x y:Operand) (hx:ev M x=some (.pt j off)) (hy:ev M y=some (.v (.sc vy))) (hv:∀(e:Operand->Value) b off w,e x=.pointer (some ⟨b,off,none⟩)->e y=vy->(execOp e o).run P w=.ok (.value (.pointer (some ⟨b,off+k,none⟩))) w) (hk:off+k=off'):Yd o P X N ops M (ok x++ok y) (.pt j off'):=
 dL (ok x++ok y) _ (fun m a w ρ L hR hk'=>by
  obtain⟨h1,b,h2,h3⟩:=bI hR hx fun k h=>hk' k (mem_append_left _ h)
  have h4:=evs hR hy fun k h=>hk' k (mem_append_right _ h)
  exact⟨_,w,hv _ _ _ _ h3 h4,Below.refl _ _,h1,b,h2,by rw[hk]⟩)
end
def bF.c?:bF->Option SC
 |.v p=>some (.v p)
 |.ow j n=>some (.ow j n)
 |.ox j n k=>some (.ox j n k)
 |_=>none
def Nu:List bF->Option (List SC)
 |[]=>some []
 |x::r=>match x.c?,Nu r with
  |some c,some l=>some (c::l)
  |_,_=>none
theorem scq:∀{cs:List bF} {qs:List SC},Nu cs=some qs->cs=qs.map SC.s
 |[],qs,h=>by cases h;rfl
 |x::r,qs,h=>by
  unfold Nu at h;cases hx:x.c? with
  |none=>rw[hx] at h;cases h
  |some c=>
   cases hr:Nu r with
   |none=>rw[hx,hr] at h;cases h
   |some l=>
    rw[hx,hr] at h;cases h;rw[map_cons,<-scq hr];congr 1;cases x<;>simp_all [bF.c?,SC.s]<;>(subst_vars;rfl)
inductive Bf (M:List (Ky × En)) (pl:Nat->Option (Nat × Nat)):List SC->List (Nat × Operand)->List Ky->List SC->Prop
 |nil (cs:List SC):Bf M pl cs [] [] cs
 |cons {cs l cs' out:List SC} {cs0:List bF} {i off:Nat} {x:Operand} {sx:bF} {r:List (Nat × Operand)} {ks:List Ky} (hx:ev M x=some sx) (hc:uT M sx cs0) (hs:Nu cs0=some l) (hpl:pl i=some (off,l.length)) (ho:off+l.length<=cs.length) (hcc:cs.take off++l++cs.drop (off+l.length)=cs') (h:Bf M pl cs' r ks out):Bf M pl cs ((i,x)::r) (ok x++sx.refs.map .o++ks) out
theorem Bf.real {Ld:bU} {X:Cx Ld} {N:Nat} {m:Mm} {a:Act} {w:World} {ρ:Nat->Value} {L:Nat->Option Nat} {M:List (Ky × En)} {pl:Nat->Option (Nat × Nat)} {cs out:List SC} {r:List (Nat × Operand)} {ks:List Ky} (h:Bf M pl cs r ks out) (hR:kJ X N m a w ρ L) (hk:∀k∈ks,m k=get k M):
  ∀us:List Value,cs.length=us.length->(∀u∈us,u.oneCell'=true)->(∀(i:Nat) c u,cs[i]?=some c->us[i]?=some u->SC.R ρ m L w c u)->
   ∃vs:List Value,Instr.fill pl us.toArray (r.map fun x=>(x.1,a.eval x.2))=some vs.toArray/\out.length=vs.length/\(∀u∈vs,u.oneCell'=true)/\∀(i:Nat) c u,out[i]?=some c->vs[i]?=some u->SC.R ρ m L w c u:=by
 induction h with
 |nil cs=>exact fun us h1 h2 h3=>⟨us,rfl,h1,h2,h3⟩
 |@cons cs l cs' out cs0 i off x sx r ks hx hc hs hpl ho hcc _ ih=>
  intro us h1 h2 h3;obtain⟨ws,g1,g2,g3,g4⟩:=hc.real hR.hs (bI hR hx fun k hk'=>hk k (by simp[hk'])) fun j hj=>hk (.o j) (by simp[hj])
  rw[scq hs] at g2 g4;rw[length_map] at g2;have hst:=AZ (place:=pl) (rest:=r.map fun x=>(x.1,a.eval x.2)) hpl g1 g2.symm (cs:=us) (by omega);rw[map_cons,hst];have e1:(cs.take off).length=off:=by rw[length_take];omega
  have e2:(us.take off).length=off:=by rw[length_take];omega
  refine ih (fun k hk'=>hk k (by simp[hk'])) _ (by rw[<-hcc];simp[h1,g2]) (fun u hu=>?_) fun i' p' u hp' hu=>?_
  ·rcases mem_append.1 hu with hu|hu
   ·rcases mem_append.1 hu with hu|hu
    ·exact h2 u (mem_of_mem_take hu)
    ·exact g3 u hu
   ·exact h2 u (mem_of_mem_drop hu)
  ·rw[<-hcc] at hp';rcases Nat.lt_or_ge i' off with hlt|hge
   ·rw[append_assoc,getElem?_append_left (by omega),getElem?_take_of_lt hlt] at hp' hu;exact h3 i' p' u hp' hu
   ·rcases Nat.lt_or_ge i' (off+l.length) with hlt2|afE
    ·rw[append_assoc,getElem?_append_right (by omega),getElem?_append_left (by omega)] at hp' hu;rw[e1] at hp';rw[e2] at hu;exact SC.sr.2 (g4 _ p'.s u (by rw[getElem?_map,hp'];rfl) hu)
    ·rw[getElem?_append_right (by simp;omega),getElem?_drop] at hp' hu;simp only[length_append,e1,e2,<-g2] at hp' hu;exact h3 _ p' u hp' hu
theorem aiB {P:Program} {Ld:bU} {X:Cx Ld} {N:Nat} {ops:Array Oper} {M:List (Ky × En)} {d:Nat} {ty:TypeId} {pos:String} {aO:Array Edge} {g:Option (Nat × Bool)} {t:TypeId} {parts:List (Nat × Operand)} {pl:Nat->Option (Nat × Nat)} {zs:Array Value} {msg:String} {out:List SC} {ks:List Ky} (hb:∀(ps:Array (Nat × Value)) w,(Instr.build t ps).run P w=(Rn pl (.agg zs) msg ps).run P w) (h1:zs.toList.all Value.oneCell'=true) (hf:Bf M pl (zs.toList.map fun v=>.v (.sc v)) parts ks out):Yd ⟨some d,.build t parts.toArray,ty,pos,aO,g⟩ P X N ops M ks (.sg out):=
 dL ks _ (fun m a w ρ L hR hk=>by
  obtain⟨vs,e1,e2,e3,e4⟩:=hf.real hR hk zs.toList (by simp) (fun u hu=>all_eq_true.1 h1 u hu) fun i c u hp hu=>by
   rw[getElem?_map,hu] at hp;cases hp;exact .sc u
  refine⟨.agg vs.toArray,w,?_,Below.refl _ _,vs,rfl,e2,e3,e4⟩;have e5:Instr.fill pl zs (parts.map fun x=>(x.1,a.eval x.2))=some vs.toArray:=by simpa using e1
  simp[execOp,hb,Rn,Value.cells,e5,Result.andThen])
inductive RF (M:List (Ky × En)):bF->PV->Prop
 |d {x:bF} {p:PV} (h:oh M x p):RF M x p
 |ox {j n k v e q:Nat} {xs:List PV} (h:get (.o j) M=some (.o (.aW v e q xs))) (hn:n=xs.length) (hk:k=v):RF M (.ox j n k) (.sl q xs)
inductive EC (M:List (Ky × En)):List SC->List PV->Prop
 |nil:EC M [] []
 |cons {c l p ps} (h:RF M c.s p) (hs:EC M l ps):EC M (c::l) (p::ps)
inductive XL (M:List (Ky × En)):bF->PV->Prop
 |t {x:bF} {p:PV} (h:RF M x p):XL M x p
 |sg {cs:List SC} {ps:List PV} (h:EC M cs ps):XL M (.sg cs) (.ag ps)
abbrev Gs:Nat->Option Nat:=fun _=>none
theorem Grow.no {L:Nat->Option Nat} {w:World}:Grow L w Gs w:=⟨Nat.le_refl _,fun _ _ _ _=>⟨fun f hf=>(by cases hf),rfl⟩⟩
section
variable {M:List (Ky × En)} {m:Mm} {ρ:Nat->Value} {L:Nat->Option Nat} {w:World} {base:Nat} {iL:Nat->Prop} {sv:bF} {p:PV} {u:Value}
theorem RF.real (hd:RF M sv p) (h:HS ρ m L w base iL) (hs:SR ρ m L w sv u) (hk:∀j∈sv.refs,m (.o j)=get (.o j) M):RP Gs w p u:=by
 cases hd with
 |d hd=>exact (hd.real h hs hk).grow .no
 |@ox j n k v e q xs hg hn hv=>
  obtain⟨v',e',q',xs',h1,h2,h3⟩:=hs;have hm:m (.o j)=some (.o (.aW v e q xs)):=(hk j (by simp[bF.refs])).trans hg;rw[hm] at h1;cases h1;obtain⟨us,h4,h5,h6,h7,h8⟩:=h.ob j _ hm;rw[(h3 hv).2 hn];obtain⟨A,c,e1,e2,e3,e4,e5⟩:=dK h4;rw[e1];refine .sl h8 e2 e3 h5.1 h6 (fun i p u hp hu=>(h5.2 i p u hp hu).grow .no) ?_;rcases e4 with e4|⟨b,off,hA,hb,e4⟩
  ·exact .inl e4
  ·exact .inr ⟨b,off,hA,hb,fun i hi=>⟨e4 i hi,fun f hf=>by cases hf⟩⟩
theorem EC.real {cs:List SC} {ps:List PV} (hd:EC M cs ps) (h:HS ρ m L w base iL) (hk:∀j∈cs.flatMap SC.refs,m (.o j)=get (.o j) M):∀us:List Value,cs.length=us.length->(∀(i:Nat) c x,cs[i]?=some c->us[i]?=some x->SC.R ρ m L w c x)->RL Gs w ps us:=by
 induction hd with
 |nil=>exact fun us h1 _=>⟨h1,fun i p u hp=>by cases hp⟩
 |@cons c l p ps hd _ ih=>
  intro us h1 h2
  match us,h1 with
  |u::us,h1=>
   have h3:=ih (fun j hj=>hk j (by rw[flatMap_cons];exact mem_append_right _ hj)) us (by simpa using h1) fun i c x hc hx=>h2 (i+1) c x hc hx
   have h4:=hd.real h (SC.sr.1 (h2 0 c u rfl rfl)) fun j hj=>hk j (by rw[flatMap_cons];exact mem_append_left _ (by rwa[SC.Xj] at hj))
   refine⟨by simp[h3.1],fun i p' u' hp hu=>?_⟩;cases i with
   |zero=>cases hp;cases hu;exact h4
   |succ i=>exact h3.2 i p' u' hp hu
theorem XL.real (hd:XL M sv p) (h:HS ρ m L w base iL) (hs:SR ρ m L w sv u) (hk:∀j∈sv.refs,m (.o j)=get (.o j) M):RP Gs w p u:=by
 cases hd with
 |t hd=>exact hd.real h hs hk
 |sg hd=>
  obtain⟨us,h1,h2,h3,h4⟩:=hs;have h5:=hd.real h hk us h2 h4;rw[h1];exact .ag h5.1 h3 h5.2
end
inductive JG (M:List (Ky × En)):List Operand->List Ky->List PV->Prop
 |nil:JG M [] [] []
 |cons {x:Operand} {sx:bF} {p:PV} {r:List Operand} {ks:List Ky} {ps:List PV} (hx:ev M x=some sx) (hd:XL M sx p) (h:JG M r ks ps):JG M (x::r) (ok x++sx.refs.map .o++ks) (p::ps)
theorem JG.real {Ld:bU} {X:Cx Ld} {N:Nat} {m:Mm} {a:Act} {w:World} {ρ:Nat->Value} {L:Nat->Option Nat} {M:List (Ky × En)} {r:List Operand} {ks:List Ky} {ps:List PV} (h:JG M r ks ps) (hR:kJ X N m a w ρ L) (hk:∀k∈ks,m k=get k M):RL Gs w ps (r.map a.eval):=by
 induction h with
 |nil=>exact⟨rfl,fun i p u hp=>by cases hp⟩
 |@cons x sx p r ks ps hx hd _ ih=>
  obtain⟨h1,h2⟩:=ih fun k hk'=>hk k (by simp[hk'])
  have h0:=hd.real hR.hs (bI hR hx fun k hk'=>hk k (by simp[hk'])) fun j hj=>hk (.o j) (by simp[hj])
  refine⟨by simp[h1],fun i p' u hp hu=>?_⟩;cases i with
  |zero=>cases hp;cases hu;exact h0
  |succ i=>exact h2 i p' u hp hu
def Bg (P:Program) (Ld:bU) (f:FuncId) (ps:List PV) (p:PV):Prop:=
 ∀(w:World) (us:List Value),Ld.p w->RL Gs w ps us->Calls P f us.toArray w fun e w'=>∃u,e=.returned u/\RP (fun b=>if b<w.heap.size then some 0 else none) w' p u/\Below w.heap.size w w'
inductive Nv:PV->Prop
 |sc (v:Value):Nv (.sc v)
 |ag {l:List PV} {us:List Value} (h:qI l us):Nv (.ag l)
 |tu {l:List PV} {us:List Value} (h:qI l us):Nv (.tu l)
theorem qI.any {L L':Nat->Option Nat} {w w':World} {l:List PV} {us:List Value} (h:qI l us):∀(i:Nat) p u,l[i]?=some p->RP L w p u->RP L' w' p u:=by
 induction h with
 |nil=>intro i p u hp;cases hp
 |cons _ ih=>
  intro i p u hp hr;cases i with
  |zero=>cases hp;rw[RP.lS hr];exact .sc _
  |succ i=>exact ih i p u hp hr
theorem Nv.any {p:PV} (h:Nv p) {L L':Nat->Option Nat} {w w':World} {u:Value} (hr:RP L w p u):RP L' w' p u:=by
 cases h with
 |sc v=>rw[RP.lS hr];exact .sc _
 |ag h=>obtain⟨us,rfl,h2,h3,h4⟩:=RP.vP hr;exact .ag h2 h3 fun i p u hp hu=>h.any i p u hp (h4 i p u hp hu)
 |tu h=>obtain⟨us,rfl,h2,h4⟩:=RP.MF hr;exact .tu h2 fun i p u hp hu=>h.any i p u hp (h4 i p u hp hu)
theorem PC.fr {P:Program} {Ld:bU} {f:FuncId} {ps:List PV} {p:PV} (h:PC P Ld f ps (·=p)) (hp:Nv p):Bg P Ld f ps p:=fun w us hw hr=>
 (h w Gs us hw (fun _ _=>rfl) hr).mono fun e w' ⟨u,p',h1,h2,h3,h4⟩=>⟨u,h1,h2 ▸ (h2.symm ▸ hp:Nv p').any h3,h4⟩
section
variable {P:Program} {Ld:bU} {X:Cx Ld} {N:Nat} {ops:Array Oper} {dr:Bool} {fin:List (Ky × En)->Prop} {rest:List Oper} {acc:List (List Ky × List Ky)} {M:List (Ky × En)} {d:Nat} {ty:TypeId} {pos:String} {aO:Array Edge} {g:Option (Nat × Bool)}
theorem aiC {f:FuncId} {xs:List Operand} {ts:Array TypeId} {ps:List PV} {ks:List Ky} {p:PV} (ha:JG M xs ks ps) (hc:Bg P Ld f ps p) (hf:∀args w,(callFunc f args).run P w=.ok (.enter f args) w):Yd ⟨some d,.call {callee:=.value (.func f),args:=xs.toArray,argTypes:=ts},ty,pos,aO,g⟩ P X N ops M ks (.v p):=
 by
 refine⟨fun _ hd hN hw _ _ _ _ next=>?_⟩;cases hd;exact
  og ks [(.s d,.s (.v p))] (fun m a w ρ L K Q hR hk hK=>by
   have hr:=ha.real hR hk
   have hrun:(execOp a.eval ⟨some d,.call {callee:=.value (.func f),args:=xs.toArray,argTypes:=ts},ty,pos,aO,g⟩).run P w=.ok (.enter f (xs.map a.eval).toArray) w:=by
    simp[execOp,resolve,Act.eval,Deferred.ofValue,invoke,hf]
   unfold Oper.wp;rw[hrun,Oper.upon_enter];refine (hc w _ (X.tJ w hR.bl) hr).mono ?_;rintro e w' ⟨u,rfl,hp,hb⟩;refine hK _ _ ⟨ρ,L,hR.put hb hN (hp.grow ⟨Nat.le_refl _,fun b i hb ha=>⟨fun fr hfr=>?_,rfl⟩⟩)⟩;by_cases hbw:b<w.heap.size
   ·have:=ha 0 (if_pos hbw);omega
   ·rw[hR.hs.new b (by omega)] at hfr;cases hfr) hw next
end
end Go.Proofs.YtjpbmbgincdjaaaGreatDoor
