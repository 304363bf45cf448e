/- Part: FO. -/
import Derived.Test.YtjpbmbgincdjaaaGreatDoorK17
set_option linter.all false
set_option maxRecDepth 100000
set_option maxHeartbeats 0
set_option linter.unusedVariables false
namespace Go.Proofs.YtjpbmbgincdjaaaGreatDoor
open Go.RowKit List
section
variable {P:Program} {Ld:bU} {X:Cx Ld} {N:Nat} {F:Exit->List (Ky × En)->Prop} {k:Code} {r:List It} {M:List (Ky × En)}
theorem JH (b c j:Nat) {cs:List bF} {ob:Ob} {sx:bF} (hob:∀w L ρ' m' base iL,ρ' j=.slice none 0 0->OR ρ' m' L w base iL j ob) (hsx:∀w L (ρ':Nat->Value) m',ρ' j=.slice none 0 0->m' (.o j)=some (.o ob)->SR ρ' m' L w sx (.slice none 0 0)) (hb:get (.o b) M=some (.o (.blk cs))) (hc:cs[c]?=some (.v (.sc (.slice none 0 0)))) (hj:get (.o j) M=none) (h9:j≠900) (h:GO P X N F k r ((.o b,.o (.blk (cs.set c sx)))::(.o j,.o ob)::M)):GO P X N F k r M:=by
 refine⟨fun a w hR=>?_⟩;obtain⟨ρ,L,hR⟩:=hR;refine h.out a w ?_;have hbj:b≠j:=by rintro rfl;rw[hb] at hj;cases hj
 have mo:∀i,mm ((.o b,.o (.blk (cs.set c sx)))::(.o j,.o ob)::M) (.o i)=if i=b then some (.o (.blk (cs.set c sx))) else if i=j then some (.o ob) else mm M (.o i):=by
  intro i;by_cases hi:i=b<;>by_cases hi2:i=j<;>simp[mm,bK,hi,hi2]
 have ms:∀t,mm ((.o b,.o (.blk (cs.set c sx)))::(.o j,.o ob)::M) (.s t)=mm M (.s t):=by
  intro i;simp[mm,bK]
 generalize mm ((.o b,.o (.blk (cs.set c sx)))::(.o j,.o ob)::M)=m' at*;have hbm:mm M (.o b)=some (.o (.blk cs)):=hb
 have hoth:∀i ob',mm M (.o i)=some (.o ob')->i≠j:=fun i ob' hi e=>by
  have hj':mm M (.o j)=none:=hj;rw[e,hj'] at hi;cases hi
 have E:Ext ρ (mm M) L w (fun i=>if i=j then .slice none 0 0 else ρ i) m' L w:=by
  refine⟨Grow.refl,fun i ob' hi=>?_⟩;by_cases hib:i=b
  ·subst hib;rw[hbm] at hi;cases hi;exact⟨_,by rw[mo,if_pos rfl],rfl,if_neg hbj⟩
  ·exact⟨ob',by rw[mo,if_neg hib,if_neg (hoth i ob' hi)];exact hi,Ob.le_refl ρ i ob' (if_neg (hoth i ob' hi))⟩
 have back:∀i pF,m' (.o i)=some (.o pF)->i≠j->∃kS,mm M (.o i)=some (.o kS):=fun i pF h1 hij=>by
  by_cases hib:i=b
  ·rw[hib];exact⟨_,hbm⟩
  ·rw[mo,if_neg hib,if_neg hij] at h1;exact⟨_,h1⟩
 refine⟨fun i=>if i=j then .slice none 0 0 else ρ i,L,⟨fun i kS hi=>?_,fun i i' pF kS b' h1 h2 e1 e2=>?_,hR.hs.new,fun ob' ho'=>?_⟩,hR.sz,hR.df,fun t' y hy=>?_,hR.bl,hR.ll,hR.lb⟩
 ·by_cases hib:i=b
  ·subst hib;rw[mo,if_pos rfl] at hi;cases hi;obtain⟨b',e,us,k1,k2,k3,k4,k5,k6,k7⟩:=hR.hs.ob i _ hbm;refine⟨b',e,us,(if_neg hbj).trans k1,k2,k3,by rw[length_set,k4],k5,fun i' x u hx hu=>?_,k7⟩;by_cases hic:c=i'
   ·subst hic;have hl:c<cs.length:=(List.getElem?_eq_some_iff.1 hc).1;rw[getElem?_set_self hl] at hx;cases hx;have h0:SR ρ (mm M) L w (.v (.sc (.slice none 0 0))) u:=k6 c _ u hc hu;rw[RP.lS h0];exact hsx _ _ _ _ (if_pos rfl) (by rw[mo,if_neg (Ne.symm hbj),if_pos rfl])
   ·rw[getElem?_set_ne hic] at hx;exact (k6 i' x u hx hu).ext E
  ·by_cases hij:i=j
   ·subst hij;rw[mo,if_neg hib,if_pos rfl] at hi;cases hi;exact hob _ _ _ _ _ _ (if_pos rfl)
   ·rw[mo,if_neg hib,if_neg hij] at hi;exact (hR.hs.ob i kS hi).keep E (if_neg hij) fun b _=>⟨rfl,rfl⟩
 ·by_cases hij:i=j<;>by_cases hij':i'=j
  ·rw[hij,hij']
  ·simp only[if_pos hij] at e1;cases e1
  ·simp only[if_pos hij'] at e2;cases e2
  ·obtain⟨_,g1⟩:=back i pF h1 hij;obtain⟨_,g2⟩:=back i' kS h2 hij';simp only[if_neg hij] at e1;simp only[if_neg hij'] at e2;exact hR.hs.inj i i' _ _ b' g1 g2 e1 e2
 ·obtain⟨_,g1⟩:=back 900 ob' ho' (Ne.symm h9);obtain⟨b0,fP,hb'⟩:=hR.hs.bo _ g1;exact⟨b0,(if_neg (Ne.symm h9)).trans fP,hb'⟩
 ·rw[ms] at hy;obtain⟨u,hu,hs⟩:=hR.sl t' y hy;exact⟨u,hu,hs.ext E⟩
theorem II (b c j e q:Nat) {cs:List bF} (h:GO P X N F k r ((.o b,.o (.blk (cs.set c (.ow j 0))))::(.o j,.o (.row e q []))::M)) (hb:get (.o b) M=some (.o (.blk cs)):=by rfl) (hc:cs[c]?=some (.v (.sc (.slice none 0 0))):=by rfl) (hj:get (.o j) M=none:=by rfl) (h9:j≠900:=by decide):GO P X N F k r M:=
 JH b c j (ob:=.row e q []) (sx:=.ow j 0) (fun _ _ _ _ _ _ h=>Df h List.length) (fun _ _ _ _ h1 h2=>⟨e,q,[],h2,Nat.le_refl _,fun _=>h1.symm⟩) hb hc hj h9 h
theorem aau (b c j e q:Nat) {cs:List bF} (h:GO P X N F k r ((.o b,.o (.blk (cs.set c (.ox j 0 0))))::(.o j,.o (.aW 0 e q []))::M)) (hb:get (.o b) M=some (.o (.blk cs)):=by rfl) (hc:cs[c]?=some (.v (.sc (.slice none 0 0))):=by rfl) (hj:get (.o j) M=none:=by rfl) (h9:j≠900:=by decide):GO P X N F k r M:=
 JH b c j (ob:=.aW 0 e q []) (sx:=.ox j 0 0) (fun _ _ _ _ _ _ h=>Df h fun _=>0) (fun _ _ _ _ h1 h2=>⟨0,e,q,[],h2,Nat.le_refl _,fun _=>⟨Nat.le_refl _,fun _=>h1.symm⟩⟩) hb hc hj h9 h
theorem LC (b c q:Nat) {cs:List bF} (h:GO P X N F k r ((.o b,.o (.blk (cs.set c (.v (.sl q [])))))::M)) (hb:get (.o b) M=some (.o (.blk cs)):=by rfl) (hc:cs[c]?=some (.v (.sc (.slice none 0 0))):=by rfl):GO P X N F k r M:=by
 refine⟨fun a w hR=>?_⟩;obtain⟨ρ,L,hR⟩:=hR;refine h.out a w ⟨ρ,L,?_⟩;have hbm:mm M (.o b)=some (.o (.blk cs)):=hb
 have mo:∀i,mm ((.o b,.o (.blk (cs.set c (.v (.sl q [])))))::M) (.o i)=if i=b then some (.o (.blk (cs.set c (.v (.sl q []))))) else mm M (.o i):=by
  intro i;by_cases hi:i=b<;>simp[mm,bK,hi]
 have ms:∀t,mm ((.o b,.o (.blk (cs.set c (.v (.sl q [])))))::M) (.s t)=mm M (.s t):=by
  intro i;simp[mm,bK]
 generalize mm ((.o b,.o (.blk (cs.set c (.v (.sl q [])))))::M)=m' at*
 have E:Ext ρ (mm M) L w ρ m' L w:=by
  refine⟨Grow.refl,fun i ob' hi=>?_⟩;by_cases hib:i=b
  ·subst hib;rw[hbm] at hi;cases hi;exact⟨_,by rw[mo,if_pos rfl],rfl,rfl⟩
  ·exact⟨ob',by rw[mo,if_neg hib];exact hi,Ob.le_refl ρ i ob' rfl⟩
 have back:∀i pF,m' (.o i)=some (.o pF)->∃kS,mm M (.o i)=some (.o kS):=fun i pF h1=>by
  by_cases hib:i=b
  ·rw[hib];exact⟨_,hbm⟩
  ·rw[mo,if_neg hib] at h1;exact⟨_,h1⟩
 refine⟨⟨fun i kS hi=>?_,fun i i' pF kS b' h1 h2 e1 e2=>?_,hR.hs.new,fun ob' ho'=>?_⟩,hR.sz,hR.df,fun t' y hy=>?_,hR.bl,hR.ll,hR.lb⟩
 ·by_cases hib:i=b
  ·subst hib;rw[mo,if_pos rfl] at hi;cases hi;obtain⟨b',e,us,k1,k2,k3,k4,k5,k6,k7⟩:=hR.hs.ob i _ hbm;refine⟨b',e,us,k1,k2,k3,by rw[length_set,k4],k5,fun i' x u hx hu=>?_,k7⟩;by_cases hic:c=i'
   ·subst hic;have hl:c<cs.length:=(List.getElem?_eq_some_iff.1 hc).1;rw[getElem?_set_self hl] at hx;cases hx;have h0:SR ρ (mm M) L w (.v (.sc (.slice none 0 0))) u:=k6 c _ u hc hu;exact (oh.nil (M:=M) q).real hR.hs h0 fun j hj=>by simp[bF.refs] at hj
   ·rw[getElem?_set_ne hic] at hx;exact (k6 i' x u hx hu).ext E
  ·rw[mo,if_neg hib] at hi;exact (hR.hs.ob i kS hi).keep E rfl fun b _=>⟨rfl,rfl⟩
 ·obtain⟨_,g1⟩:=back i pF h1;obtain⟨_,g2⟩:=back i' kS h2;exact hR.hs.inj i i' _ _ b' g1 g2 e1 e2
 ·obtain⟨_,g1⟩:=back 900 ob' ho';exact hR.hs.bo _ g1
 ·rw[ms] at hy;obtain⟨u,hu,hs⟩:=hR.sl t' y hy;exact⟨u,hu,hs.ext E⟩
end
def frS (j v n:Nat):bF->bF
 |.ox i a b=>bif Nat.beq i j then (bif Nat.beq b v then .ow j a else .any) else .ox i a b
 |.px i a c b e=>bif Nat.beq i j then .any else .px i a c b e
 |.sg cs=>.any
 |x=>x
def XP (j v n:Nat):En->En
 |.s x=>.s (frS j v n x)
 |.o (.blk cs)=>.o (.blk (cs.map (frS j v n)))
 |x=>x
def RH (j v n:Nat) (M:List (Ky × En)):List (Ky × En):=M.map fun x=>(x.1,XP j v n x.2)
theorem get_map (f:En->En) (k:Ky):∀M:List (Ky × En),get k (M.map fun x=>(x.1,f x.2))=(get k M).map f
 |[]=>rfl
 |(k',e)::M=>by
  rw[map_cons,bK,bK];by_cases h:k=k'
  ·rw[if_pos h,if_pos h];rfl
  ·rw[if_neg h,if_neg h];exact get_map f k M
section
variable {P:Program} {Ld:bU} {X:Cx Ld} {N:Nat} {F:Exit->List (Ky × En)->Prop} {c:Code} {r:List It} {M:List (Ky × En)}
theorem RS.frz {j v e q:Nat} {xs:List PV} {a:Act} {w:World} (ho:get (.o j) M=some (.o (.aW v e q xs))) (h:RS X N (mm M) a w):RS X N (mm ((.o j,.o (.row e q xs))::RH j v xs.length M)) a w:=by
 obtain⟨ρ,L,hR⟩:=h;have hm:mm M (.o j)=some (.o (.aW v e q xs)):=ho
 have mo:∀i,mm ((.o j,.o (.row e q xs))::RH j v xs.length M) (.o i)=if i=j then some (.o (.row e q xs)) else (mm M (.o i)).map (XP j v xs.length):=by
  intro i;have:=get_map (XP j v xs.length) (.o i) M;by_cases hi:i=j
  ·rw[if_pos hi,hi];simp[mm,bK]
  ·rw[if_neg hi];simp only[mm,bK,Ky.o.injEq,if_neg hi];exact this
 have ms:∀t,mm ((.o j,.o (.row e q xs))::RH j v xs.length M) (.s t)=(mm M (.s t)).map (XP j v xs.length):=by
  intro t;have:=get_map (XP j v xs.length) (.s t) M;simp only[mm,bK,reduceCtorEq,if_false];exact this
 generalize mm ((.o j,.o (.row e q xs))::RH j v xs.length M)=m' at*;obtain⟨us,k1,k2,k3,k4,k5⟩:=hR.hs.ob j _ hm
 have G:Grow L w (fun b=>if gJ (ρ j)=some b then some us.length else L b) w:=by
  refine⟨Nat.le_refl _,fun b i _ ha=>⟨fun f hf=>?_,rfl⟩⟩;by_cases hb:gJ (ρ j)=some b
  ·exact absurd (ha 0 (k4 b hb)) (Nat.not_lt_zero _)
  ·simp only[if_neg hb] at hf;exact ha f hf
 have hne:∀{i ob},mm M (.o i)=some (.o ob)->i≠j->∀b,gJ (ρ i)=some b->gJ (ρ j)≠some b:=fun hi hij b hb hbj=>hij (hR.hs.inj _ j _ _ b hi hm hb hbj)
 have sr:∀{x u},SR ρ (mm M) L w x u->SR ρ m' (fun b=>if gJ (ρ j)=some b then some us.length else L b) w (frS j v xs.length x) u:=by
  intro x u hx
  have pto:∀{i off u},xY ρ (mm M) i off u->xY ρ m' i off u:=by
   rintro i off u ⟨⟨ob,h1,h2⟩,h3⟩;have hij:i≠j:=by rintro rfl;rw[hm] at h1;cases h1;cases h2
   refine⟨?_,h3⟩;cases ob with
   |blk cs=>exact⟨_,by rw[mo,if_neg hij,h1];rfl,rfl⟩
   |_=>cases h2
  cases x with
  |v p=>exact RP.grow hx G
  |sg cs=>trivial
  |pt i off=>exact pto hx
  |ow i n=>
   obtain⟨e',q',xs',h1,h2⟩:=hx;have hij:i≠j:=by rintro rfl;rw[hm] at h1;cases h1
   exact⟨e',q',xs',by rw[mo,if_neg hij,h1];rfl,h2⟩
  |ox i n k=>
   obtain⟨v',e',q',xs',h1,h2,h3⟩:=hx;show SR ρ m' _ w (bif Nat.beq i j then (bif Nat.beq k v then .ow j n else .any) else .ox i n k) u;cases hb:Nat.beq i j with
   |false=>
    have hij:i≠j:=by rintro rfl;rw[Nat.beq_refl] at hb;cases hb
    exact⟨v',e',q',xs',by rw[mo,if_neg hij,h1];rfl,h2,h3⟩
   |true=>
    have hij:i=j:=Nat.eq_of_beq_eq_true hb;subst hij;rw[hm] at h1;cases h1;cases hc:Nat.beq k v with
    |false=>trivial
    |true=>exact⟨e,q,xs,by rw[mo,if_pos rfl],h3 (Nat.eq_of_beq_eq_true hc)⟩
  |px i a c n k=>
   obtain⟨v',e',q',xs',h1,h2,h3⟩:=hx;show SR ρ m' _ w (bif Nat.beq i j then .any else .px i a c n k) u;cases hb:Nat.beq i j with
   |false=>
    have hij:i≠j:=by rintro rfl;rw[Nat.beq_refl] at hb;cases hb
    exact⟨v',e',q',xs',by rw[mo,if_neg hij,h1];rfl,h2,h3⟩
   |true=>trivial
  |fn f js=>
   obtain⟨us',h1,h2,h3⟩:=hx;exact⟨us',h1,h2,fun i j x hj hx=>pto (h3 i j x hj hx)⟩
  |ex R=>obtain⟨p,h1,h2⟩:=hx;exact⟨p,h1,h2.grow G⟩
  |any=>trivial
 refine⟨ρ,fun b=>if gJ (ρ j)=some b then some us.length else L b,⟨fun i ob hi=>?_,fun i i' o1 o2 b h1 h2 e1 e2=>?_,fun b hB=>?_,fun ob h9=>?_⟩,hR.sz,hR.df,fun t x hx=>?_,hR.bl,fun b hB=>?_,hR.lb⟩
 ·by_cases hij:i=j
  ·subst hij;rw[mo,if_pos rfl] at hi;cases hi;exact⟨us,k1,k2.grow G,k3,fun b hb=>if_pos hb,k5⟩
  ·rw[mo,if_neg hij] at hi;cases ho1:mm M (.o i) with
   |none=>rw[ho1] at hi;cases hi
   |some en=>
    rw[ho1] at hi;cases en with
    |s x=>cases hi
    |o pF=>
     have hO:=hR.hs.ob i pF ho1;have hnb:=hne ho1 hij;cases pF with
     |blk cs=>
      cases hi;obtain⟨b,e1,ws,g1,g2,g3,g4,g5,g6,g7⟩:=hO;refine⟨b,e1,ws,g1,g2,g3,by rw[length_map,g4],g5,fun i' x u hx hu=>?_,?_⟩
      ·rw[getElem?_map] at hx;cases hc:cs[i']? with
       |none=>rw[hc] at hx;cases hx
       |some y=>rw[hc] at hx;cases hx;exact sr (g6 i' y u hc hu)
      ·show (if gJ (ρ j)=some b then some us.length else L b)=some 0;rw[if_neg (hnb b (by rw[g1];rfl))];exact g7
     |row e1 q1 ys=>
      cases hi;obtain⟨ws,g1,g2,g3,g4,g5⟩:=hO;refine⟨ws,g1,g2.grow G,g3,fun b hb=>?_,g5⟩;show (if gJ (ρ j)=some b then some us.length else L b)=_;rw[if_neg (hnb b hb)];exact g4 b hb
     |aW v1 e1 q1 ys=>
      cases hi;obtain⟨ws,g1,g2,g3,g4,g5⟩:=hO;refine⟨ws,g1,g2.grow G,g3,fun b hb=>?_,g5⟩;show (if gJ (ρ j)=some b then some us.length else L b)=_;rw[if_neg (hnb b hb)];exact g4 b hb
 ·have back:∀i o1,m' (.o i)=some (.o o1)->∃o2,mm M (.o i)=some (.o o2):=fun i o1 h=>by
   by_cases hij:i=j
   ·rw[hij];exact⟨_,hm⟩
   ·rw[mo,if_neg hij] at h;cases ho1:mm M (.o i) with
    |none=>rw[ho1] at h;cases h
    |some en=>
     cases en with
     |s x=>rw[ho1] at h;cases h
     |o pF=>exact⟨pF,rfl⟩
  obtain⟨_,f1⟩:=back i o1 h1;obtain⟨_,f2⟩:=back i' o2 h2;exact hR.hs.inj i i' _ _ b f1 f2 e1 e2
 ·show (if gJ (ρ j)=some b then some us.length else L b)=none;rw[if_neg fun h=>by have:=(kF k1 h).2;omega];exact hR.hs.new b hB
 ·have h99:(900:Nat)≠j:=by
   rintro rfl;obtain⟨b9,fP,_⟩:=hR.hs.bo _ hm;rcases k1.2 with⟨h,_⟩|⟨_,_,_,h,_⟩<;>rw[fP] at h<;>cases h
  rw[mo,if_neg h99] at h9;cases ho1:mm M (.o 900) with
  |none=>rw[ho1] at h9;cases h9
  |some en=>
   cases en with
   |s x=>rw[ho1] at h9;cases h9
   |o pF=>exact hR.hs.bo pF ho1
 ·rw[ms] at hx;cases ht:mm M (.s t) with
  |none=>rw[ht] at hx;cases hx
  |some en=>
   rw[ht] at hx;cases en with
   |o ob=>cases ob<;>cases hx
   |s y=>
    cases hx;obtain⟨u,hu,hs⟩:=hR.sl t y ht;exact⟨u,hu,sr hs⟩
 ·show (if gJ (ρ j)=some b then some us.length else L b)=_;rw[if_neg fun h=>by have:=(kF k1 h).1;omega];exact hR.ll b hB
theorem af5 (j:Nat) {v e q:Nat} {xs:List PV} (h:GO P X N F c r ((.o j,.o (.row e q xs))::RH j v xs.length M)) (ho:get (.o j) M=some (.o (.aW v e q xs)):=by rfl):GO P X N F c r M:=⟨fun a w hR=>h.out a w (hR.frz ho)⟩
end
inductive NC:List (Ky × En)->List (Ky × En)->Prop
 |refl (M:List (Ky × En)):NC M M
 |step {M M':List (Ky × En)} (j:Nat) {v e q:Nat} {xs:List PV} (h:NC ((.o j,.o (.row e q xs))::RH j v xs.length M) M') (ho:get (.o j) M=some (.o (.aW v e q xs)):=by rfl):NC M M'
theorem NC.rs {Ld:bU} {X:Cx Ld} {N:Nat} {M M':List (Ky × En)} {a:Act} {w:World} (h:NC M M'):RS X N (mm M) a w->RS X N (mm M') a w:=by
 induction h with
 |refl M=>exact id
 |step j _ ho ih=>exact fun hR=>ih (hR.frz ho)
def af6 (P:Program) (rs:Array ResultVar) (R:PV->Prop) (e:Exit) (M:List (Ky × En)):Prop:=∃M',NC M M'/\Nq P rs R e M'
theorem wY {P:Program} {Ld:bU} {f:FuncId} {fn:Func} {c:Code} {ps:List PV} {R:PV->Prop} {N:Nat} (hf:P.funcs[f]?=some fn) (h:∀X:Cx Ld,GO P X N (af6 P fn.results R) c [] (oI 0 ps)) (hb:fn.body=some c:=by rfl) (hN:fn.ntmps=N:=by first|((simp;rfl);done)|fail) (hl:ps.length.ble N=true:=by rfl):PC P Ld f ps R:=
 afH hf hb hN (Nat.le_of_ble_eq_true hl) fun X=>⟨fun a w hR=>Code.wp_mono (fun e a' w' ⟨M',⟨M2,h1,h2⟩,h3⟩=>⟨M2,h2,h1.rs h3⟩) ((h X).out a w hR)⟩
theorem oq {P:Program} {Ld:bU} {X:Cx Ld} {N:Nat} {rs:Array ResultVar} {p q:PV} {M M':List (Ky × En)} {e:Exit} (hz:NC M M') (ho:Out P M' rs.toList p:=by first|exact .one lY|exact .two lY lY|exact .three lY lY lY|exact .none) (hr:p=q:=by rfl) (he:e=.normal∨e=.ret:=by first|exact .inl rfl|exact .inr rfl):At P X N (af6 P rs (·=q)) [] e M:=⟨M',hz,he,p,ho,hr⟩
def FiF (rs:Array ResultVar) (p:PV) (e:Exit) (M:List (Ky × En)):Prop:=(e=.normal∨e=.ret)/\∃t j n e' q xs,rs.toList=[.tmp t]/\get (.s t) M=some (.s (.ow j n))/\get (.o j) M=some (.o (.row e' q xs))/\n=xs.length/\(∀y∈xs.flatMap PV.cs,∃v,y=.sc v)/\p=.sl q xs
theorem pcF {P:Program} {Ld:bU} {f:FuncId} {fn:Func} {c:Code} {ps:List PV} {p:PV} {N:Nat} (hf:P.funcs[f]?=some fn) (h:∀X:Cx Ld,GO P X N (FiF fn.results p) c [] (oI 0 ps)) (hb:fn.body=some c:=by rfl) (hN:fn.ntmps=N:=by first|((simp;rfl);done)|fail) (hl:ps.length.ble N=true:=by rfl):Bg P Ld f ps p:=by
 intro w us hw hr;have hl:=Nat.le_of_ble_eq_true hl;refine calls_of_wp hf hb ?_
 have hR:RS (⟨w.heap.size,fun _=>False,w,Gs,fun w' hb=>Ld.st hb.out hw⟩:Cx Ld) N (mm (oI 0 ps)) {tmps:=us.toArray++Array.replicate (fn.ntmps-us.toArray.size) undef,defers:=[]} w:=by
  have Rt:us.length=ps.length:=hr.1.symm;refine⟨fun _=>undef,Gs,⟨fun j ob hj=>?_,fun j j' ob ob' b hj=>?_,fun _ _=>rfl,fun ob hj=>?_⟩,by simp;omega,rfl,fun t x hx=>?_,tH.of (Below.refl _ _),fun b _=>rfl,Nat.le_refl _⟩
  ·have:=rX ps 0 j;have hj:get (.o j) (oI 0 ps)=_:=hj;rw[this] at hj;cases hj
  ·have:=rX ps 0 j;have hj:get (.o j) (oI 0 ps)=_:=hj;rw[this] at hj;cases hj
  ·have:=rX ps 0 900;have hj:get (.o 900) (oI 0 ps)=_:=hj;rw[this] at hj;cases hj
  ·obtain⟨i,p,rfl,hp,rfl⟩:=Ez ps 0 t x hx;have hi:=(List.getElem?_eq_some_iff.1 hp).1;have hi2:i<us.length:=by omega
   refine⟨us[i],(by rw[Nat.zero_add,Array.getElem?_append_left (by simpa using hi2)];simp[hi2]),hr.2 i p _ hp (getElem?_eq_getElem hi2)⟩
 refine Code.wp_mono ?_ ((h _).out _ _ hR);rintro e a' w' ⟨M',⟨he,t,j,n,e',q,xs,h1,h2,h3,rfl,h5,rfl⟩,ρ,L',hR'⟩;obtain⟨u,hu,⟨e2,q2,xs2,g1,g2,g3⟩⟩:=hR'.sl t _ h2;have h3':mm M' (.o j)=some (.o (.row e' q xs)):=h3;rw[h3'] at g1;cases g1;have hu2:=g3 rfl;obtain⟨ws,k1,k2,k3,k4,k5⟩:=hR'.hs.ob j _ h3';obtain⟨A,cp,s1,s2,s3,s4,s5⟩:=dK k1
 have hrp:RP (fun b=>if b<w.heap.size then some 0 else none) w' (.sl q xs) u:=by
  rw[hu2,s1];refine .sl k5 s2 s3 k2.1 k3 (fun i y v hy hv=>?_) ?_
  ·obtain⟨v',rfl⟩:=h5 y (mem_of_getElem? hy);rw[RP.lS (k2.2 i _ v hy hv)];exact .sc _
  ·rcases s4 with s4|⟨b,off,hA,hb,s4⟩
   ·exact .inl s4
   ·refine .inr ⟨b,off,hA,hb,fun i hi=>⟨s4 i hi,fun fr hfr=>?_⟩⟩;have hbb:=(kF k1 (b:=b) (by rw[s1,hA];rfl)).1;have hbb:w.heap.size<=b:=hbb;simp only[if_neg (Nat.not_lt.2 hbb)] at hfr;cases hfr
 have hrs:fn.results=#[.tmp t]:=by have:=congrArg List.toArray h1;simpa using this
 have hres:(results fn a'.tmps).run P w'=.ok u w':=by
  have hre:results fn a'.tmps=(do
   let vs<-fn.results.mapM (resV a'.tmps)
   pure (if h:vs.size=1 then vs[0] else .tuple vs)):=rfl
  rw[hre,hrs];simp[resV,Array.getD_eq_getD_getElem?,hu]
 have k2:∃u',Ending.returned u=.returned u'/\RP (fun b=>if b<w.heap.size then some 0 else none) w' (.sl q xs) u'/\Below w.heap.size w w':=⟨u,rfl,hrp,hR'.bl.out⟩
 rcases he with rfl|rfl
 ·exact⟨hR'.df,u,hres,k2⟩
 ·exact⟨hR'.df,u,hres,k2⟩
theorem acE {P:Program} {Ld:bU} {X:Cx Ld} {N:Nat} {rs:Array ResultVar} {p:PV} {M:List (Ky × En)} {e:Exit} {t j n e' q:Nat} {xs:List PV} (h1:∀y∈xs.flatMap PV.cs,∃v,y=.sc v) (hr:p=.sl q xs:=by rfl) (h2:rs.toList=[.tmp t]:=by rfl) (h3:get (.s t) M=some (.s (.ow j n)):=by rfl) (h4:get (.o j) M=some (.o (.row e' q xs)):=by rfl) (h5:n=xs.length:=by first|rfl|simp) (he:e=.normal∨e=.ret:=by first|exact .inl rfl|exact .inr rfl):At P X N (FiF rs p) [] e M:=⟨he,t,j,n,e',q,xs,h2,h3,h4,h5,h1,hr⟩
theorem acF (M:List (Ky × En)):∀l:List PV,pJ M (l.map .v) l
 |[]=>.nil
 |p::l=>.cons (.v p) (acF M l)
theorem yX {P:Program} {Ld:bU} {f:FuncId} {fn:Func} {c:Code} {zas:List (Option PV)} {cs l:List PV} {p:PV} {N:Nat} (hf:P.funcs[f]?=some fn) (h:∀X:Cx Ld,GO P X N (Fio P fn.results fun p' l'=>p'=p/\l'=l) c [] ((.o 900,.o (.blk (cs.map .v)))::uN 0 zas)) (hb:fn.body=some c:=by rfl) (hN:fn.ntmps=N:=by first|((simp;rfl);done)|fail) (hl:zas.length.ble N=true:=by rfl):yw P Ld f zas cs p l:=af2 hf hb hN (Nat.le_of_ble_eq_true hl) h
theorem iy {P:Program} {Ld:bU} {X:Cx Ld} {N:Nat} {rs:Array ResultVar} {M:List (Ky × En)} {p q:PV} {xc:List bF} {l l':List PV} {e:Exit} (hr:p=q:=by rfl) (ho:Out P M rs.toList p:=by first|exact .one lY|exact .two lY lY|exact .three lY lY lY|exact .none) (hg:get (.o 900) M=some (.o (.blk xc)):=by rfl)
  (hl:pJ M xc l:=by first|exact acF _ _|((repeat (first|exact .nil|(apply pJ.cons;(first|exact .v _|exact .ow rfl rfl|exact .fn _))));done)|fail) (hl2:l=l':=by rfl) (he:e=.normal∨e=.ret:=by first|exact .inl rfl|exact .inr rfl):At P X N (Fio P rs fun p' m'=>p'=q/\m'=l') [] e M:=⟨he,p,xc,l,ho,hg,hl,hr,hl2⟩
theorem Bg.pc {P:Program} {Ld:bU} {f:FuncId} {ps:List PV} {p:PV} (h:Bg P Ld f ps p):PC P Ld f ps (·=p):=fun w L us hw hL hr=>
 (h w us hw ⟨hr.1,fun i p u h1 h2=>(hr.2 i p u h1 h2).grow .no⟩).mono fun e w' ⟨u,h1,h2,h3⟩=>⟨u,p,h1,rfl,h2.grow ⟨Nat.le_refl _,fun b i hb ha=>⟨fun fr hfr=>(by
   by_cases hbw:b<w.heap.size
   ·have:=ha 0 (if_pos hbw);omega
   ·rw[hL b (by omega)] at hfr;cases hfr),rfl⟩⟩,h3⟩
end Go.Proofs.YtjpbmbgincdjaaaGreatDoor
