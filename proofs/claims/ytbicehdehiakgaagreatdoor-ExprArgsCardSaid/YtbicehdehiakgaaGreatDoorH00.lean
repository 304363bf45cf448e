/- A part of the proof: P5. -/
import Derived.Test.YtbicehdehiakgaaGreatDoorG22
set_option linter.unusedVariables false
set_option linter.unusedSimpArgs false
namespace Go.Proofs.YtbicehdehiakgaaGreatDoor
open Go.RowKit
def sl (e:List Nd) (s k:Nat):List Nd:=(e.take k).drop s
theorem sl_app {e:List Nd} {s t k:Nat} (h1:s≤t) (h2:t≤k):sl e s t++sl e t k=sl e s k:=by
 unfold sl;have e1:e.take t=(e.take k).take t:=by rw[List.take_take,Nat.min_eq_left h2]
 rw[e1];generalize e.take k=x;have e2:x.drop s=(x.take t++x.drop t).drop s:=by rw[List.take_append_drop]
 rw[e2,List.drop_append,List.length_take];congr 1;by_cases h:t≤x.length
 ·rw[Nat.min_eq_left h,Nat.sub_eq_zero_of_le h1,List.drop_zero]
 ·rw[List.drop_eq_nil_of_le (by omega:x.length≤t)];simp
theorem sl_one {e:List Nd} {k:Nat} (hk:k<e.length):sl e k (k+1)=[e[k]]:=by
 unfold sl;rw[List.take_succ_eq_append_getElem hk,List.drop_left' (by rw[List.length_take];omega)]
def Stk (e:List Nd):List (Nat × Nat)→Nat→Prop
 |[],k=>k=0
 |p::r,k=>p.2+1=k∧p.1≤p.2∧IsE (sl e p.1 k)∧Stk e r p.1
def edge:List (Nat × Nat)→Nat
 |[]=>0
 |p::_=>p.2+1
theorem Stk.eqE {e:List Nd}:∀{st:List (Nat × Nat)} {k:Nat},Stk e st k→k=edge st
 |[],_,h=>h
 |_::_,_,h=>h.1.symm
theorem Stk.lt {e:List Nd}:∀{st:List (Nat × Nat)} {k:Nat},Stk e st k→∀q∈st,q.2<k
 |[],_,_,q,hq=>by simp at hq
 |p::r,k,h,q,hq=>by
  rcases List.mem_cons.1 hq with rfl|hq
  ·have:=h.1;omega
  ·have:=h.2.2.2.lt q hq;have:=h.1;have:=h.2.1;omega
theorem Stk.pop {e:List Nd}:∀(m:Nat) {st:List (Nat × Nat)} {k:Nat},Stk e st k→m≤st.length→
  ∃(s:Nat) (cs:List (List Nd)) (K:Nat),Stk e (st.drop m) s∧s≤k∧cs.length=m∧(∀a∈cs,Ex K a)∧sl e s k=cs.flatten
 |0,st,k,h,_=>⟨k,[],0,h,Nat.le_refl _,rfl,fun _ h=>by simp at h,by unfold sl;rw[List.drop_eq_nil_of_le (by rw[List.length_take];omega)];rfl⟩
 |m+1,[],k,h,hm=>by simp at hm
 |m+1,p::r,k,h,hm=>by
  obtain⟨h1,h2,⟨K1,h3⟩,h4⟩:=h;obtain⟨s,cs,K,a,b,c,d,f⟩:=Stk.pop m h4 (by simpa using hm);refine⟨s,cs++[sl e p.1 k],max K K1,a,by omega,by simp[c],fun x hx=>?_,?_⟩
  ·rcases List.mem_append.1 hx with hx|hx
   ·exact (d x hx).mono (Nat.le_max_left _ _)
   ·rw[List.mem_singleton] at hx;subst hx;exact h3.mono (Nat.le_max_right _ _)
  ·rw[List.flatten_append,←f,←sl_app b (by omega:p.1≤k)];simp
theorem Stk.push {e:List Nd} {st:List (Nat × Nat)} {k:Nat} (h:Stk e st k) (hk:k<e.length) (hn:wrongN e[k]=0) (ho:(shp e[k].op).ops≤st.length):
  Stk e ((edge (st.drop (shp e[k].op).ops),k)::st.drop (shp e[k].op).ops) (k+1):=by
 obtain⟨s,cs,K,a,b,c,d,f⟩:=Stk.pop _ h ho;rw[←a.eqE];exact⟨rfl,b,⟨K+1,cs,e[k],by rw[←sl_app b (Nat.le_succ k),f,sl_one hk],hn,c,d⟩,a⟩
theorem Stk.at_ {e:List Nd} {st:List (Nat × Nat)} {k j:Nat} (h:Stk e st k) (hj:j≤st.length):Stk e (st.drop j) (edge (st.drop j)):=by
 obtain⟨s,_,_,a,_⟩:=Stk.pop j h hj;rw[←a.eqE];exact a
theorem rev_get {st:List (Nat × Nat)} {a j:Nat} (ha:a≤st.length) (hj:j<a) {p:Nat × Nat} {r:List (Nat × Nat)} (hp:st.drop j=p::r):(((st.map Prod.snd).take a).reverse)[a-1-j]?=some p.2:=by
 have hl:((st.map Prod.snd).take a).length=a:=by rw[List.length_take,List.length_map,Nat.min_eq_left ha]
 rw[List.getElem?_reverse (by rw[hl];omega),hl,show a-1-(a-1-j)=j by omega,List.getElem?_take_of_lt hj,List.getElem?_map];have:=congrArg (·[0]?) hp;simp only[List.getElem?_drop,Nat.add_zero,List.getElem?_cons_zero] at this;rw[this];rfl
structure AI (e:List Nd) (k:Nat) (st:List (Nat × Nat)):Prop where
 stk:Stk e st k
 ar:(argsE e).drop k=runA (e.drop k) k (st.map Prod.snd)
 ck:chk (e.drop k) st.length=0
theorem AI.zero {e:List Nd} (h:checkE e=0):AI e 0 []:=⟨rfl,rfl,by
 unfold checkE at h;split at h
 ·cases h
 ·exact h⟩
theorem AI.next {e:List Nd} {k:Nat} {st:List (Nat × Nat)} (h:AI e k st) (hk:k<e.length):
  (shp e[k].op).ops≤st.length∧(argsE e)[k]?=some (((st.map Prod.snd).take (shp e[k].op).ops).reverse)∧
  AI e (k+1) ((edge (st.drop (shp e[k].op).ops),k)::st.drop (shp e[k].op).ops):=by
 have h1:=h.ck;have h2:=h.ar;rw[List.drop_eq_getElem_cons hk] at h1 h2;obtain⟨c1,c2,c3⟩:=chk_zero h1;rw[runA] at h2;refine⟨c2,?_,h.stk.push hk c1 c2,?_,?_⟩
 ·have:=congrArg (·[0]?) h2;simpa using this
 ·have:=congrArg (List.drop 1) h2;rw[List.drop_drop] at this;rw[this];simp[List.map_drop]
 ·rw[List.length_cons,List.length_drop];exact c3
theorem AI.last {e:List Nd} {st:List (Nat × Nat)} (h:AI e e.length st):∃n,e.length=n+1∧st=[(0,n)]:=by
 have h1:=h.ck;rw[List.drop_length,chk] at h1
 match st,h.stk,h1 with
 |[],_,h1=>simp at h1
 |p::q::r,_,h1=>simp at h1
 |[p],⟨a,_,_,b⟩,_=>exact⟨p.2,a.symm,by have hb:p.1=0:=b;rw[←hb]⟩
theorem sl_check {e:List Nd} {s k:Nat} (h:IsE (sl e s k)) (hl:e.length≤60):checkE (sl e s k)=0:=
 (checkE_iff _).2 ⟨by unfold sl;rw[List.length_drop,List.length_take];omega,h⟩
theorem if_iff {p q:Prop} [Decidable p] [Decidable q] (h:p↔q):(if p then 1 else 0:Nat)=if q then 1 else 0:=by
 by_cases hp:p
 ·rw[if_pos hp,if_pos (h.1 hp)]
 ·rw[if_neg hp,if_neg (fun hq=>hp (h.2 hq))]
def UI (U:List Nat) (n k:Nat) (st:List (Nat × Nat)):Prop:=U.length=n∧∀x,x<n→U[x]?=some (if x<k∧x∉st.map Prod.snd then 1 else 0)
theorem UI.pop {U:List Nat} {n k:Nat} {p:Nat × Nat} {r:List (Nat × Nat)} (h:UI U n k (p::r)) (hp:p.2<k) (hk:k≤n) (hr:∀q∈r,q.2<p.2):
  U[p.2]?=some 0∧UI (U.set p.2 1) n k r:=by
 refine⟨by rw[h.2 _ (by omega),if_neg (by simp)],by rw[List.length_set];exact h.1,fun x hx=>?_⟩;rw[List.getElem?_set];split
 ·next h1=>
  subst h1
  have hn:p.2∉r.map Prod.snd:=fun hm=>by
   obtain⟨q,hq,e⟩:=List.mem_map.1 hm;have:=hr q hq;omega
  rw[if_pos (by rw[h.1];omega),if_pos ⟨hp,hn⟩]
 ·next h1=>
  rw[h.2 x hx];have h2:x≠p.2:=fun h=>h1 h.symm
  exact congrArg some (if_iff (by simp[h2]))
theorem UI.push {U:List Nat} {n k:Nat} {st:List (Nat × Nat)} (s:Nat) (h:UI U n k st):UI U n (k+1) ((s,k)::st):=by
 refine⟨h.1,fun x hx=>?_⟩;rw[h.2 x hx];refine congrArg some (if_iff ?_);by_cases h1:x=k
 ·subst h1;simp
 ·have:x<k+1↔x<k:=by omega
  simp[h1,this]
def FI (F:List Nat) (n:Nat) (st:List (Nat × Nat)):Prop:=F.length=n∧∀p∈st,F[p.2]?=some p.1
theorem FI.set {F:List Nat} {n k:Nat} {st:List (Nat × Nat)} (h:FI F n st) (hl:∀q∈st,q.2<k) (s:Nat):FI (F.set k s) n st:=by
 refine⟨by rw[List.length_set];exact h.1,fun p hp=>?_⟩;rw[List.getElem?_set,if_neg (by have:=hl p hp;omega),h.2 p hp]
theorem FI.push {F:List Nat} {n k s:Nat} {st:List (Nat × Nat)} (h:FI F n st) (hk:F[k]?=some s):FI F n ((s,k)::st):=
 ⟨h.1,fun p hp=>by
   rcases List.mem_cons.1 hp with rfl|hp
   ·exact hk
   ·exact h.2 p hp⟩
end Go.Proofs.YtbicehdehiakgaaGreatDoor
