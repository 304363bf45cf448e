/- A part of the proof: Y8 Q0 Qc W4 U7 U8 Uy. -/
import Derived.Test.YtimokmplkpbmdaaGreatDoorQ30
import Derived.Test.YtimokmplkpbmdaaGreatDoorQ31
set_option linter.all false
set_option maxRecDepth 100000
set_option maxHeartbeats 0
namespace Go.Proofs.YtimokmplkpbmdaaGreatDoor
open Go.RowKit
theorem acZ (sg:List Sg) (n:Nd) (r:List Nd) (a:List Nat) (ar:List (List Nat)) (ts:List Ty):nN sg (n::r) (a::ar) ts=if (pU sg n (rowT ts a)).2=0 then nN sg r ar (ts++[(pU sg n (rowT ts a)).1]) else ([],(pU sg n (rowT ts a)).2):=by
 rw[nN];unfold pU;cases o8 sg n with
 |none=>rfl
 |some own=>cases h:(fH n.op own (rowT ts a)).2<;>simp[h]
def xq (sg:List Sg):List Nd->List Ty->Option (List Ty)
 |[],st=>some st
 |n::r,st=>if (pU sg n (st.take (aB n.op).ops).reverse).2=0 then xq sg r ((pU sg n (st.take (aB n.op).ops).reverse).1::st.drop (aB n.op).ops) else none
theorem Ap (sg:List Sg):∀(a b:List Nd) (st:List Ty),xq sg (a++b) st=(xq sg a st).bind (xq sg b)
 |[],b,st=>rfl
 |n::r,b,st=>by
  rw[List.cons_append,xq,xq];split
  ·exact Ap sg r b _
  ·rfl
structure TE (sg:List Sg) (t:Ty) (e:List Nd):Prop where
 c:∀r d,chk (e++r) d=chk r (d+1)
 s:∀st,xq sg e st=some (t::st)
theorem ac0 {sg:List Sg} {n:Nd} {st ts:List Ty} {t:Ty} (hl:ts.length=(aB n.op).ops) (h:pU sg n ts=(t,0)):xq sg [n] (ts.reverse++st)=some (t::st):=by
 have e:((ts.reverse++st).take (aB n.op).ops).reverse=ts:=by rw[<-hl,List.take_left' (by simp),List.reverse_reverse]
 have d:(ts.reverse++st).drop (aB n.op).ops=st:=by rw[<-hl];exact List.drop_left' (by simp)
 rw[xq,e,d,h];rfl
theorem ac1 {n:Nd} (hw:aQ n=0) (r:List Nd) (d:Nat):chk (n::r) (d+(aB n.op).ops)=chk r (d+1):=by
 rw[chk,if_neg (by simp[hw]),if_neg (by omega)];congr 1;omega
theorem TE.node {sg:List Sg} {n:Nd} {t:Ty}:∀(cs:List (List Nd × Ty)),(∀x∈cs,TE sg x.2 x.1)->(hw:aQ n=0)->(hl:cs.length=(aB n.op).ops)->pU sg n (cs.map Prod.snd)=(t,0)->TE sg t ((cs.map Prod.fst).flatten++[n]):=by
 intro cs hc hw hl ho
 have hC:∀(l:List (List Nd × Ty)),(∀x∈l,TE sg x.2 x.1)->∀r d,chk ((l.map Prod.fst).flatten++r) d=chk r (d+l.length):=by
  intro l
  induction l with
  |nil=>intro _ r d;rfl
  |cons x l ih=>
   intro h r d;rw[List.map_cons,List.flatten_cons,List.append_assoc,(h x (by simp)).c,ih (fun y hy=>h y (by simp[hy]))];congr 1;simp;omega
 have hS:∀(l:List (List Nd × Ty)),(∀x∈l,TE sg x.2 x.1)->∀st,xq sg (l.map Prod.fst).flatten st=some ((l.map Prod.snd).reverse++st):=by
  intro l
  induction l with
  |nil=>intro _ st;rfl
  |cons x l ih=>
   intro h st;rw[List.map_cons,List.flatten_cons,Ap,(h x (by simp)).s,Option.bind_some,ih (fun y hy=>h y (by simp[hy]))];simp
 refine⟨fun r d=>?_,fun st=>?_⟩
 ·rw[List.append_assoc,hC cs hc,hl];exact ac1 hw r d
 ·rw[Ap,hS cs hc,Option.bind_some];exact ac0 (by rw[List.length_map,hl]) ho
theorem TE.leaf {sg:List Sg} {n:Nd} {t:Ty} (hw:aQ n=0) (hl:(aB n.op).ops=0) (ho:pU sg n []=(t,0)):TE sg t [n]:=TE.node [] (fun _ h=>by cases h) hw hl.symm ho
theorem XL {sg:List Sg}:∀(e:List Nd) (ts:List Ty) (idx:List Nat) (st':List Ty),(∀x∈idx,x<ts.length)->xq sg e (idx.map fun k=>ts.getD k bV)=some st'->
  ∃ts' idx',nN sg e (iJ e ts.length idx) ts=(ts',0)/\st'=idx'.map (fun k=>ts'.getD k bV)/\(e≠[]->∃r,idx'=(ts'.length-1)::r)/\(e=[]->idx'=idx/\ts'=ts)
 |[],ts,idx,st',_,h=>⟨ts,idx,rfl,(Option.some.inj h).symm,fun h=>absurd rfl h,fun _=>⟨rfl,rfl⟩⟩
 |n::r,ts,idx,st',hx,h=>by
  have er:rowT ts ((idx.take (aB n.op).ops).reverse)=((idx.map fun k=>ts.getD k bV).take (aB n.op).ops).reverse:=by simp[rowT,List.map_reverse,List.map_take]
  rw[iJ,acZ,er];rw[xq] at h;split at h
  ·next h0=>
   rw[if_pos h0];generalize (pU sg n ((idx.map fun k=>ts.getD k bV).take (aB n.op).ops).reverse).1=T at h⊢
   have em:((ts.length::idx.drop (aB n.op).ops).map fun k=>(ts++[T]).getD k bV)=T::(idx.map fun k=>ts.getD k bV).drop (aB n.op).ops:=by
    rw[List.map_cons,<-List.map_drop];congr 1
    ·simp[List.getD_eq_getElem?_getD]
    ·refine List.map_congr_left fun k hk=>?_
     have hk:=hx k (List.mem_of_mem_drop hk);simp only[List.getD_eq_getElem?_getD]
     rw[List.getElem?_append_left hk]
   have hl:(ts++[T]).length=ts.length+1:=by simp
   obtain⟨ts',idx',a1,a2,a3,a4⟩:=XL r (ts++[T]) (ts.length::idx.drop (aB n.op).ops) st' (fun x h=>by
    rw[hl];rcases List.mem_cons.1 h with rfl|h
    ·omega
    ·have:=hx x (List.mem_of_mem_drop h);omega) (by rw[em];exact h)
   rw[hl] at a1;refine⟨ts',idx',a1,a2,fun _=>?_,fun h=>by cases h⟩;by_cases hr:r=[]
   ·obtain⟨b1,b2⟩:=a4 hr;exact⟨_,by rw[b1,b2,hl,Nat.add_sub_cancel]⟩
   ·exact a3 hr
  ·cases h
theorem TE.ne {sg:List Sg} {t:Ty} {e:List Nd} (h:TE sg t e):e≠[]:=by
 rintro rfl;have:=h.s [];cases this
theorem TE.chk {sg:List Sg} {t:Ty} {e:List Nd} (h:TE sg t e) (h60:e.length<=60):bQ e=0:=by
 have k:=h.c [] 0;rw[List.append_nil] at k;unfold bQ;rw[if_neg (by omega),k];rfl
theorem TE.type {sg:List Sg} {t:Ty} {e:List Nd} (h:TE sg t e) (h60:e.length<=60):iU sg e=(t,0):=by
 obtain⟨ts',idx',a1,a2,a3,_⟩:=XL e [] [] [t] (fun x h=>by cases h) (h.s []);obtain⟨r,rfl⟩:=a3 h.ne;have e1:gJ sg e=(ts',0):=by unfold gJ lG;rw[if_pos (h.chk h60)];exact a1
 have e2:ts'.getD (ts'.length-1) bV=t:=by injection a2 with a2 _;exact a2.symm
 unfold iU;simp only[e1,if_true]
 rw[e2]
def nE:ByteArray:=⟨#[]⟩
theorem vT {op:Int} (h:9<=op/\op<=20):aQ ⟨op,zR,nE⟩=0:=by
 rcases (by omega:op=9∨op=10∨op=11∨op=12∨op=13∨op=14∨op=15∨op=16∨op=17∨op=18∨op=19∨op=20) with rfl|rfl|rfl|rfl|rfl|rfl|rfl|rfl|rfl|rfl|rfl|rfl<;>decide
theorem aeX {op:Int} {x:Ra} (h:1<=op/\op<=3) (hx:aV x=true):aQ ⟨op,x,nE⟩=0:=by
 rcases (by omega:op=1∨op=2∨op=3) with rfl|rfl|rfl<;>(unfold aQ gX;simp[hx,nE,aB,iQ,vF])
theorem aeY {x:Ra} (h:x=aS 0∨x=aS 1):aQ ⟨4,x,nE⟩=0:=by
 rcases h with rfl|rfl<;>decide
theorem aeZ {op:Int} {x:Ra} (h:21<=op/\op<=23) (hx:aV x=true) (hp:0<eH x):aQ ⟨op,x,nE⟩=0:=by
 rcases (by omega:op=21∨op=22∨op=23) with rfl|rfl|rfl<;>(unfold aQ gX;simp[hx,hp,nE,aB,iQ,vF])
theorem XM {op:Int} {s:ByteArray} (h:jL op=true) (hs:dI s=true):aQ ⟨op,zR,s⟩=0:=by
 unfold jL at h;rw[Bool.or_eq_true,decide_eq_true_eq,decide_eq_true_eq] at h;unfold dI at hs;rcases (by omega:op=5∨op=6∨op=7∨op=8∨op=24) with rfl|rfl|rfl|rfl|rfl<;>(unfold aQ gX;simp[hs,aB,iQ,vF])
section
variable {sg:List Sg} {t:Ty} {a b c:List Nd}
theorem lg {n:Nd} {l:List Ty} (h:jL n.op=false) (hr:fH n.op bV l=(t,true)):pU sg n l=(t,0):=by
 unfold pU o8;simp only[h,Bool.false_eq_true,if_false,hr,if_true]
theorem XO {n:Nd} {l:List Ty} {own:Ty} (h:jL n.op=true) (hs:dP sg n=some own) (hr:fH n.op own l=(t,true)):pU sg n l=(t,0):=by
 unfold pU o8;simp only[h,if_true,hs,hr]
theorem TE.lit {op:Int} {x:Ra} (h:1<=op/\op<=3) (hx:aV x=true) (ht:t=if op=1 then bT else if op=2 then ug else bV):TE sg t [⟨op,x,nE⟩]:=by
 subst ht;refine TE.leaf (aeX h hx) ?_ (lg ?_ ?_)
 all_goals rcases (by omega:op=1∨op=2∨op=3) with rfl|rfl|rfl<;>rfl
theorem TE.XP {x:Ra} (h:x=aS 0∨x=aS 1):TE sg bG [⟨4,x,nE⟩]:=TE.leaf (aeY h) rfl (lg rfl rfl)
theorem TE.dF {op:Int} {s:ByteArray} (h:5<=op/\op<=8) (hs:dI s=true) (hg:dP sg ⟨op,zR,s⟩=some t):TE sg t [⟨op,zR,s⟩]:=by
 have hB:jL op=true:=by unfold jL;rw[decide_eq_true h,Bool.true_or]
 refine TE.leaf (XM hB hs) ?_ (XO hB hg ?_)
 all_goals rcases (by omega:op=5∨op=6∨op=7∨op=8) with rfl|rfl|rfl|rfl<;>rfl
theorem TE.one {n:Nd} {u:Ty} (ha:TE sg u a) (hw:aQ n=0) (hl:(aB n.op).ops=1) (ho:pU sg n [u]=(t,0)):TE sg t ([a].flatten++[n]):=
 TE.node [(a,u)] (fun x h=>by obtain rfl:=List.mem_singleton.1 h;exact ha) hw hl.symm ho
theorem TE.two {n:Nd} {u v:Ty} (ha:TE sg u a) (hb:TE sg v b) (hw:aQ n=0) (hl:(aB n.op).ops=2) (ho:pU sg n [u,v]=(t,0)):TE sg t ([a,b].flatten++[n]):=
 TE.node [(a,u),(b,v)] (fun x h=>by
  rcases List.mem_cons.1 h with rfl|h
  ·exact ha
  ·obtain rfl:=List.mem_singleton.1 h;exact hb) hw hl.symm ho
theorem TE.three {n:Nd} {u v w:Ty} (ha:TE sg u a) (hb:TE sg v b) (hc:TE sg w c) (hw:aQ n=0) (hl:(aB n.op).ops=3) (ho:pU sg n [u,v,w]=(t,0)):TE sg t ([a,b,c].flatten++[n]):=
 TE.node [(a,u),(b,v),(c,w)] (fun x h=>by
  rcases List.mem_cons.1 h with rfl|h
  ·exact ha
  ·rcases List.mem_cons.1 h with rfl|h
   ·exact hb
   ·obtain rfl:=List.mem_singleton.1 h;exact hc) hw hl.symm ho
theorem TE.sum {op:Int} (h:op=9∨op=10∨op=13∨op=14) (ht:t.truth=false) (ha:TE sg t a) (hb:TE sg t b):TE sg t ([a,b].flatten++[⟨op,zR,nE⟩]):=by
 refine TE.two ha hb (vT (by omega)) ?_ (lg ?_ ?_)
 all_goals rcases h with rfl|rfl|rfl|rfl<;>simp[fH,tA,tB,ht,aB,iQ,vF,jL]
theorem TE.mul {op:Int} (h:op=11∨op=12) (ht:t.truth=false) (hu:gu t.aN t.days=true) (ha:TE sg t a) (hb:TE sg bV b):TE sg t ([a,b].flatten++[⟨op,zR,nE⟩]):=by
 obtain⟨tr,m,d⟩:=t;simp only at ht hu;subst ht;refine TE.two ha hb (vT (by omega)) ?_ (lg ?_ ?_)
 all_goals rcases h with rfl|rfl<;>simp[fH,tA,tB,bV,hu,aB,iQ,vF,jL]
theorem TE.cond (ha:TE sg bG a) (hb:TE sg t b) (hc:TE sg t c):TE sg t ([a,b,c].flatten++[⟨15,zR,nE⟩]):=by
 refine TE.three ha hb hc (vT (by omega)) rfl (lg rfl ?_);simp[fH,tA,tB,tC]
theorem TE.cmp {op:Int} {u:Ty} (h:op=16∨op=17) (ht:u.truth=false) (ha:TE sg u a) (hb:TE sg u b):TE sg bG ([a,b].flatten++[⟨op,zR,nE⟩]):=by
 refine TE.two ha hb (vT (by omega)) ?_ (lg ?_ ?_)
 all_goals rcases h with rfl|rfl<;>simp[fH,tA,tB,ht,aB,iQ,vF,jL]
theorem TE.and {op:Int} (h:op=18∨op=19) (ha:TE sg bG a) (hb:TE sg bG b):TE sg bG ([a,b].flatten++[⟨op,zR,nE⟩]):=by
 refine TE.two ha hb (vT (by omega)) ?_ (lg ?_ ?_)
 all_goals rcases h with rfl|rfl<;>rfl
theorem TE.not (ha:TE sg bG a):TE sg bG ([a].flatten++[⟨20,zR,nE⟩]):=TE.one ha (vT (by omega)) rfl (lg rfl rfl)
theorem TE.dJ {op:Int} {x:Ra} (h:21<=op/\op<=23) (hx:aV x=true) (hp:0<eH x) (ht:t.truth=false) (ha:TE sg t a):TE sg t ([a].flatten++[⟨op,x,nE⟩]):=by
 refine TE.one ha (aeZ h hx hp) ?_ (lg ?_ ?_)
 all_goals rcases (by omega:op=21∨op=22∨op=23) with rfl|rfl|rfl<;>simp[fH,tA,ht,aB,iQ,vF,jL]
theorem TE.rate {s:ByteArray} (hs:dI s=true) (hg:dP sg ⟨24,zR,s⟩=some t) (ha:TE sg t a):TE sg t ([a].flatten++[⟨24,zR,s⟩]):=by
 refine TE.one ha (XM rfl hs) rfl (XO rfl hg ?_);simp[fH,tA]
end
def TyN (K:Nat) (m d:Int):Prop:=(1<=K/\((m=1/\d=0)∨(m=0/\d=1)∨(m=0/\d=0)))∨(5<=K/\m=1/\d= -1)
def jh (K:Nat) (t:Bool) (m d:Int):Prop:=(1<=K/\t=true/\m=0/\d=0)∨(t=false/\TyN K m d)
section
variable {K L:Nat} {t:Bool} {m d:Int}
theorem jh.plain:jh 1 false 0 0:=.inr ⟨rfl,.inl ⟨Nat.le_refl _,.inr (.inr ⟨rfl,rfl⟩)⟩⟩
theorem jh.truth:jh 1 true 0 0:=.inl ⟨Nat.le_refl _,rfl,rfl,rfl⟩
theorem jh.mono (h:jh K t m d) (hL:K<=L):jh L t m d:=
 h.imp (fun h=>⟨Nat.le_trans h.1 hL,h.2⟩) (fun h=>⟨h.1,h.2.imp (fun h=>⟨Nat.le_trans h.1 hL,h.2⟩) (fun h=>⟨Nat.le_trans h.1 hL,h.2⟩)⟩)
theorem jh.one (h:jh K t m d):1<=K:=by
 rcases h with h|⟨_,h|h⟩
 ·exact h.1
 ·exact h.1
 ·omega
theorem jh.num (h:jh K false m d):TyN K m d:=by
 rcases h with h|h
 ·cases h.2.1
 ·exact h.2
theorem jh.XP (h:jh K true m d):m=0/\d=0:=by
 rcases h with h|h
 ·exact h.2.2
 ·cases h.1
theorem jh.unit (h:jh K false m d):gu m d=true:=by
 rcases h.num with⟨_,⟨rfl,rfl⟩|⟨rfl,rfl⟩|⟨rfl,rfl⟩⟩|⟨_,rfl,rfl⟩<;>decide
end
def TK (sg:List Sg) (t:Bool) (m d:Int) (K:Nat) (ns:List Nd):Prop:=TE sg ⟨t,m,d⟩ ns/\ns.length<=K
def vU (P:List Nd->Prop) (D u:Nat) (w:World) (e:Ending) (w':World):Prop:=∃v ns,e=.returned v/\P ns/\w'.ownsRow w.heap.size 49 5 v ns.length (eP ns)/\DS w' D u/\aF D w w'
theorem tq (w:World) (cs:Array Value) (t:TypeId) (s m B:Nat) (hs:cs.size=m*s) (hm:m<=1000) (h:B<=w.heap.size):(w.alloc (.cells cs t)).ownsRow B t s (.slice (some ⟨w.heap.size,0,none⟩) m m) m cs.toList:=by
 refine⟨by simp[hs],.inr ⟨w.heap.size,m,cs,rfl,h,?_,Nat.le_refl _,by unfold maxLen;omega,hs,by rw[List.take_of_length_le (by simp[hs])]⟩⟩;show (Array.push _ _)[w.heap.size]?=_;simp
theorem aas {w W:World} {cs:Array Value} {t:TypeId} (hW:w.alloc (.cells cs t)=W) (s m B:Nat) (hs:cs.size=m*s) (hm:m<=1000) (h:B<=w.heap.size):W.ownsRow B t s (.slice (some ⟨w.heap.size,0,none⟩) m m) m cs.toList:=hW ▸ tq w cs t s m B hs hm h
theorem jI {D B n s:Nat} {e:TypeId} {w w':World} {v:Value} {xs:List Value} (h:w.ownsRow B e s v n xs) (ho:aF D w w') (hD:D<B):w'.ownsRow B e s v n xs:=by
 refine h.kept ho.grown (.inr (fun hh=>?_));have:=(h.lt _ hh).1;omega
theorem DS.Hq {w w':World} {D u B:Nat} (h:DS w D u) (hb:Below B w w') (hu:u<=B):DS w' D u:=by
 obtain⟨A,n,c,L,k,h,hl,ha⟩:=h;refine⟨A,n,c,L,k,⟨h.blk.below hb (by omega),h.len,h.max,?_,h.rng,h.ne,h.le⟩,hl,ha⟩;rcases h.rd with h0|⟨b',off',e,hb',hc⟩
 ·exact .inl h0
 ·by_cases hL:L=[]
  ·exact .inl (by rw[hL];rfl)
  ·subst e;refine .inr ⟨b',off',rfl,Nat.lt_of_lt_of_le hb' hb.size,fun i hi=>?_⟩;rw[<-hc i hi];exact World.cell?_of_block (hb.block b' (by have:b'<u:=ha hL _ rfl;omega))
structure DW (w:World) (D u:Nat) (W:World):Prop where
 ds:DS W D u
 on:aF D w W
 hD:D<w.heap.size
 hu:u<=w.heap.size
section
variable {w W X:World} {D u:Nat}
theorem DW.dG (h:DW w D u W) (hd:DS X D u) (ho:aF D W X):DW w D u X:=⟨hd,h.on.trans ho,h.hD,h.hu⟩
theorem DW.below (h:DW w D u W) (hb:Below W.heap.size W X):DW w D u X:=h.dG (h.ds.below hb) (aF.of_below hb)
theorem DW.low (h:DW w D u W) (hb:Below w.heap.size W X):DW w D u X:=⟨h.ds.Hq hb h.hu,h.on.more hb,h.hD,h.hu⟩
theorem DW.next (h:DW w D u W) (q:Int) (h1:1<=q) (h2:q<=1000):Calls Tryz.prog 52 #[.pointer (some ⟨D,0,none⟩),.int .i64 q] W fun e X=>∃r:Nat,(r:Int)<q/\e=.returned (.int .i64 r)/\DW w D u X/\aF D W X:=
 (next_any W D u q h.ds h1 (by omega)).mono fun _ _ ⟨r,hr,he,hd,ho⟩=>⟨r,hr,he,h.dG hd ho,ho⟩
theorem DW.row {v:Value} {n s:Nat} {e:TypeId} {xs:List Value} (h:DW w D u W) (ho:W.ownsRow w.heap.size e s v n xs) (hx:aF D W X):X.ownsRow w.heap.size e s v n xs:=jI ho hx h.hD
end
theorem zP2 {P:Program} {W:World} {news:Array Value} {ops:Array Oper} {rest:List Oper} {o:Oper} {a:Act} {Q:Exit->Act->World->Prop} {s x:Operand} {t e:TypeId} {z v:Value} {base size bytes n:Nat} {xs:List Value} {a':Value->Act}
  (hinfo:(P.info? e).map (fun i=>(i.zero,i.size,i.bytes))=some (some z,size,bytes)) (ht:P.underlying t=some (.slice e)) (hown:W.ownsRow base e size v n xs) (hn:n<=100000) (hbase:base<=W.heap.size)
  (h:∀v' w',w'.ownsRow base e size v' (n+2) (xs++news.toList)->Below base W w'->wpList P ops Q rest (a' v') w')
  (hgd:o.guard=none:=by rfl) (ho:o.op=.call {callee:=.builtin .append,args:=#[s,x],argTypes:=#[t,t]}:=by rfl) (hs:a.eval s=v:=by rfl) (hx:a.eval x=.slice (some ⟨W.heap.size,0,none⟩) 2 2:=by rfl)
  (hl:news.size=2*size:=by rfl) (hzs:z.cells.size=size:=by rfl) (hsz:0<size:=by decide) (hby:bytes<=1000:=by decide) (h1:∀u∈news.toList,u.oneCell'=true:=by (simp<;>(repeat' constructor)))
  (ha:∀v,a.put o.dst v=a' v:=by (intro v;rfl)):wpList P ops Q (o::rest) a (W.alloc (.cells news e)):=
 bP W news hgd s x t ho base e z size bytes 2 ht hinfo hzs hsz v n xs hs hown hx hl h1 (by unfold maxLen;omega) (Nat.le_trans (Nat.mul_le_mul (show n+2<=100002 by omega) hby) (by decide)) hbase (fun v' w' h2 h3=>by rw[ha];exact h v' w' h2 h3)
theorem wu (w:World) (n:Nd) (base:Nat) (h:base<=w.heap.size):(w.alloc (.cells n.cells.toArray 49)).ownsRow base 49 5 (.slice (some ⟨w.heap.size,0,none⟩) 1 1) [n].length (eP [n]):=by
 refine⟨rfl,.inr ⟨w.heap.size,1,n.cells.toArray,rfl,h,?_,Nat.le_refl _,by decide,rfl,rfl⟩⟩;show (Array.push _ _)[w.heap.size]?=_;simp
theorem UN (sg:List Sg) (K D u:Nat) (m d:Int) (w:World) (hd:DS w D u) (hu:u<=w.heap.size) (ht:TyN K m d):
  Calls Tryz.prog 181 #[.pointer (some ⟨D,0,none⟩),.agg #[.bool false,.int .i64 m,.int .i64 d]] w (vU (TK sg false m d K) D u w):=by
 obtain⟨W,hW⟩:=zE (w.alloc (.cells #[.bool false,.int .i64 m,.int .i64 d] 34));have hba:Below w.heap.size w W:=by rw[hW];exact zB _ _
 have hk0:aj W w.heap.size 34 [.bool false,.int .i64 m,.int .i64 d]:=by rw[hW];exact aj.new w _ _
 have hDB:=hd.lt;have hd0:=hd.below hba;have ho0:aF D w W:=aF.of_below hba;have hsz:u<=W.heap.size:=Nat.le_trans hu hba.size;obtain⟨B,hB⟩:=zE w.heap.size;have HB:=zH hB;rw[<-hB] at hba hk0 hDB hu;have Hg:B≠D:=by omega
 clear hd hba;go_enter Tryz.func181,Tryz.ntmps181;go_wp2_with fail;simp only[<-hW,<-hB]
 clear hW hB;refine (Hf D u (-8) _ hd0 hsz (.inl rfl)).mono ?_;rintro e w1 ⟨r,rfl,hz,_,hd1,ho1⟩;have hk1:=ho1.blk hk0 Hg;have ho1:=ho0.trans ho1;clear hk0 ho0 hd0 hsz;obtain⟨rn,ru,rd⟩:=r;unfold Ra.v
 go_upto_region 2 with fail
 have hy:=(aj.new w1 43 #[.bool rn,.string ru,.string rd]).cells;have hk2:=hk1.alloc (.cells #[.bool rn,.string ru,.string rd] 43);have hb2:Below w1.heap.size w1 (w1.alloc (.cells #[.bool rn,.string ru,.string rd] 43)):=(Below.refl _ _).alloc (Nat.le_refl _) _;have hd2:=hd1.below hb2;have ho2:=ho1.trans (aF.of_below hb2);generalize w1.alloc (.cells #[.bool rn,.string ru,.string rd] 43)=w2 at*;generalize w1.heap.size=C at*;have hc:=hk2.cells;have HD2:=zH hd2;have jQ:=zH hk2;have rV:=zH ho2;have HBD:=zH Hg;have HZ:=zH hz;have HU:=zH hu;have Q5:=zH hDB;clear hk1 hd1 ho1 hb2 hk2 hd2 ho2 hz Hg hDB hu;rcases ht with⟨hk,⟨rfl,rfl⟩|⟨rfl,rfl⟩|⟨rfl,rfl⟩⟩|⟨hk,rfl,rfl⟩
 ·go_wp2;refine bodyPost_ret (v:=.slice (some ⟨w2.heap.size,0,none⟩) 1 1) (by simp[results,Tryz.results181,go_sem]) rfl ⟨_,[⟨1,⟨rn,ru,rd⟩,⟨#[]⟩⟩],rfl,⟨TE.lit (by omega) HZ.out rfl,hk⟩,wu _ _ _ rV.out.size,HD2.out.below (zB _ _),rV.out.trans (aF.of_below (zB _ _))⟩
 ·go_wp2;refine bodyPost_ret (v:=.slice (some ⟨w2.heap.size,0,none⟩) 1 1) (by simp[results,Tryz.results181,go_sem]) rfl ⟨_,[⟨2,⟨rn,ru,rd⟩,⟨#[]⟩⟩],rfl,⟨TE.lit (by omega) HZ.out rfl,hk⟩,wu _ _ _ rV.out.size,HD2.out.below (zB _ _),rV.out.trans (aF.of_below (zB _ _))⟩
 ·go_upto_region 8 with fail
  have HW:=zH (wu w2 ⟨3,⟨rn,ru,rd⟩,⟨#[]⟩⟩ w.heap.size rV.out.size);have hb:Below w2.heap.size w2 (w2.alloc (.cells #[.int .i64 3,.bool rn,.string ru,.string rd,.string ⟨#[]⟩] 49)):=(Below.refl _ _).alloc (Nat.le_refl _) _;have hk3:=jQ.out.alloc (.cells #[.int .i64 3,.bool rn,.string ru,.string rd,.string ⟨#[]⟩] 49);have HD3:=zH (HD2.out.below hb);have J9:=zH (rV.out.trans (aF.of_below hb));have HW':Hid ((w2.alloc (.cells #[.int .i64 3,.bool rn,.string ru,.string rd,.string ⟨#[]⟩] 49)).ownsRow w.heap.size 49 5 (.slice (some ⟨w2.heap.size,0,none⟩) 1 1) 1 (eP [⟨3,⟨rn,ru,rd⟩,⟨#[]⟩⟩])):=HW;clear HW hb hc hy;generalize w2.alloc (.cells #[.int .i64 3,.bool rn,.string ru,.string rd,.string ⟨#[]⟩] 49)=w3 at*;generalize w2.heap.size=E at*;have hc:=hk3.cells;clear hk3
  go_upto_region 10 with fail
  refine wp_loop_once ?_;go_wp2;refine bodyPost_ret (v:=.slice (some ⟨E,0,none⟩) 1 1) (by simp[results,Tryz.results181,go_sem]) rfl ⟨_,[⟨3,⟨rn,ru,rd⟩,⟨#[]⟩⟩],rfl,⟨TE.lit (by omega) HZ.out rfl,hk⟩,HW'.out,HD3.out,J9.out⟩
 ·go_upto_region 8 with fail
  have HW:=zH (wu w2 ⟨3,⟨rn,ru,rd⟩,⟨#[]⟩⟩ w.heap.size rV.out.size);have hb:Below w2.heap.size w2 (w2.alloc (.cells #[.int .i64 3,.bool rn,.string ru,.string rd,.string ⟨#[]⟩] 49)):=(Below.refl _ _).alloc (Nat.le_refl _) _;have hk3:=jQ.out.alloc (.cells #[.int .i64 3,.bool rn,.string ru,.string rd,.string ⟨#[]⟩] 49);have HD3:=zH (HD2.out.below hb);have J9:=zH (rV.out.trans (aF.of_below hb));have HW':Hid ((w2.alloc (.cells #[.int .i64 3,.bool rn,.string ru,.string rd,.string ⟨#[]⟩] 49)).ownsRow w.heap.size 49 5 (.slice (some ⟨w2.heap.size,0,none⟩) 1 1) 1 (eP [⟨3,⟨rn,ru,rd⟩,⟨#[]⟩⟩])):=HW;clear HW hb hc hy;generalize w2.alloc (.cells #[.int .i64 3,.bool rn,.string ru,.string rd,.string ⟨#[]⟩] 49)=w3 at*;generalize w2.heap.size=E at*;have hc:=hk3.cells;clear hk3
  go_upto_region 10 with fail
  have h0:DW w D u w3:=⟨HD3.out,J9.out,by rw[<-HB.out];exact Q5.out,by rw[<-HB.out];exact HU.out⟩
  go_loopg [6,7,8] 2 (fun g ov mv dv wr=>∃(j:Nat) (m d:Int) (ns:List Nd),j+g=2/\mv=.int .i64 m/\dv=.int .i64 d/\((j=0/\m=1/\d= -1)∨(j=1/\m=0/\d= -1)∨(j=2/\m=0/\d=0))/\ns.length=2*j+1/\Hid (TE sg ⟨false,1-m,-1-d⟩ ns)/\wr.ownsRow w.heap.size 49 5 ov (2*j+1) (eP ns)/\DW w D u wr)
  case atStart=>exact⟨0,1,-1,[⟨3,⟨rn,ru,rd⟩,⟨#[]⟩⟩],by omega,rfl,rfl,.inl ⟨rfl,rfl,rfl⟩,rfl,TE.lit (by omega) HZ.out rfl,HW'.out,h0⟩
  case round=>
   clear HZ HW' HD3 J9 h0 hc;obtain⟨j,m,d,ns,hj,rfl,rfl,hc,hl,HT,ho,h⟩:=hrel;rcases hc with⟨rfl,rfl,rfl⟩|⟨rfl,rfl,rfl⟩|⟨rfl,rfl,rfl⟩
   ·go_wp2_with fail;refine (h.next 3 (by omega) (by omega)).mono ?_;rintro e w4 ⟨r,hr,rfl,h',hx⟩;replace ho:=h.row ho hx;clear h hx;have hw:IntKind.i64.wrap (1+(r:Int))=1+(r:Int):=IntWalk.i64_in _ (by omega);go_wp2_with fail;refine (lZ (1+(r:Int)) w4 (by omega) (by omega)).mono ?_;rintro e w5 ⟨rfl,hb⟩;replace ho:=own_below ho hb;have h:=h'.below hb
    have HF:Hid (aV (aS (1+(r:Int)))=true):=by
     show _=_;rcases (by omega:r=0∨r=1∨r=2) with rfl|rfl|rfl<;>decide+kernel
    clear hb h' hr hw;generalize aS (1+(r:Int))=va at*;obtain⟨an,au,ad⟩:=va;unfold Ra.v
    have HT2:Hid (TE sg ⟨false,1-0,-1- -1⟩ (ns++[⟨1,⟨an,au,ad⟩,nE⟩,⟨11,zR,nE⟩])):=by
     have h9:=TE.two (n:=⟨11,zR,nE⟩) (t:=⟨false,1-0,-1- -1⟩) HT.out (TE.lit (op:=1) (by omega) HF.out rfl) (vT (by omega)) rfl (lg rfl rfl);rw[show ([ns,[(⟨1,⟨an,au,ad⟩,nE⟩:Nd)]].flatten++[(⟨11,zR,nE⟩:Nd)])=ns++[⟨1,⟨an,au,ad⟩,nE⟩,⟨11,zR,nE⟩] by simp] at h9;exact h9
    clear HT HF;go_wp2_with (at_builtin;go_must (refine zP2 jZ Tryz.underlying40 ho (by omega) h.on.size ?_));intro v' w6 ho hb;replace h:=h.low hb;go_wp2
    go_roundg 1
    case measure=>omega
    case rel=>exact⟨1,0,-1,_,by omega,by go_num,by go_num,by omega,by simp[hl],HT2,by rw[mQ];exact ho,h⟩
   ·go_wp2_with fail;refine (h.next 3 (by omega) (by omega)).mono ?_;rintro e w4 ⟨r,hr,rfl,h',hx⟩;replace ho:=h.row ho hx;clear h hx;have hw:IntKind.i64.wrap (1+(r:Int))=1+(r:Int):=IntWalk.i64_in _ (by omega);go_wp2_with fail;refine (lZ (1+(r:Int)) w4 (by omega) (by omega)).mono ?_;rintro e w5 ⟨rfl,hb⟩;replace ho:=own_below ho hb;have h:=h'.below hb
    have HF:Hid (aV (aS (1+(r:Int)))=true):=by
     show _=_;rcases (by omega:r=0∨r=1∨r=2) with rfl|rfl|rfl<;>decide+kernel
    clear hb h' hr hw;generalize aS (1+(r:Int))=va at*;obtain⟨an,au,ad⟩:=va;unfold Ra.v
    have HT2:Hid (TE sg ⟨false,1-0,-1-0⟩ (ns++[⟨2,⟨an,au,ad⟩,nE⟩,⟨12,zR,nE⟩])):=by
     have h9:=TE.two (n:=⟨12,zR,nE⟩) (t:=⟨false,1-0,-1-0⟩) HT.out (TE.lit (op:=2) (by omega) HF.out rfl) (vT (by omega)) rfl (lg rfl rfl);rw[show ([ns,[(⟨2,⟨an,au,ad⟩,nE⟩:Nd)]].flatten++[(⟨12,zR,nE⟩:Nd)])=ns++[⟨2,⟨an,au,ad⟩,nE⟩,⟨12,zR,nE⟩] by simp] at h9;exact h9
    clear HT HF;go_wp2_with (at_builtin;go_must (refine zP2 jZ Tryz.underlying40 ho (by omega) h.on.size ?_));intro v' w6 ho hb;replace h:=h.low hb;go_wp2
    go_roundg 0
    case measure=>omega
    case rel=>exact⟨2,0,0,_,by omega,by go_num,by go_num,by omega,by simp[hl],HT2,by rw[mQ];exact ho,h⟩
   ·go_wp2;go_ret;exact⟨_,ns,rfl,⟨show TE sg ⟨false,1-0,-1-0⟩ ns from HT.out,by omega⟩,by rw[hl];exact ho,h.ds,h.on⟩
theorem qM {a:Ra} (h:aV a=true):okR a=true/\a.num.size<=50/\a.den.size<=50:=by
 unfold aV at h;simp only[Bool.and_eq_true,decide_eq_true_eq] at h;obtain⟨⟨h1,h2⟩,h3⟩:=h;obtain⟨p1,p2,p3,p4⟩:=jc h1
 have key:∀L n,nO n<=8*L->n<256 ^ L:=fun L n hn=>by
  unfold nO at hn;rw[show (256:Nat)=2 ^ 8 from rfl,<-Nat.pow_mul];split at hn
  ·next h0=>rw[h0];exact Nat.pow_pos (by omega)
  ·next h0=>exact (Nat.log2_lt h0 (k:=8*L)).1 (by omega)
 refine⟨h1,?_,?_⟩
 ·rw[<-abu p3];exact aZ _ 50 (key 50 _ h2)
 ·rw[<-abu p1];exact aZ _ 50 (key 50 _ h3)
theorem Fz {a:Ra} (h:0<eH a):a.num≠⟨#[]⟩:=by
 intro e;unfold eH at h;split at h
 ·next h1=>
  split at h
  ·cases h
  ·next h2=>
   split at h
   ·cases h
   ·next h3=>
    obtain⟨p1,p2,p3,p4⟩:=jc h1;refine h2 ?_;rw[<-p4,e];unfold low aS;have e0:ay ⟨#[]⟩=0:=rfl;rw[e0,Nat.gcd_zero_left,Nat.zero_div,Nat.div_self p2];simp
 ·cases h
theorem ac2 (x:Bool) (y z:ByteArray) (w:World):(Instr.field 43 (.agg #[.bool x,.string y,.string z]) 2).run Tryz.prog w=.ok (.string z) w:=by kernel_rfl
theorem Hr (x:Pv × Hd) (w:World):Calls Tryz.prog 79 #[.agg (aA x).toArray] w fun e w'=>e=.returned (.bool (dZ x.1))/\Below w.heap.size w w':=by
 unfold dZ;have nR:=fun W=>wO x.1.step zR W
 have HE2:=fun W=>wO x.1.cap zR W
 generalize decide (x.1.step=zR)=a at*;generalize decide (x.1.cap=zR)=b at*;obtain⟨⟨nm,⟨tt,tm,td⟩,ch,⟨pI,pJ,pK⟩,⟨pO,pR,cn3⟩,bo⟩,⟨ha,hn,hcc⟩⟩:=x;unfold aA;simp only[Ra.v,zR] at nR HE2⊢;go_enter Tryz.func79,Tryz.ntmps79
 go_upto_region 1 with fail
 generalize hX:w.alloc _=W;obtain⟨hk,hb⟩:=zA hX;have hkc:=hk.cells;clear hX hk;cases a
 all_goals
  go_wp2;go_ret;exact⟨by simp,hb⟩
theorem P7 (x:Pv × Hd) (w:World) (hs:jH x.1.step) (hc:jH x.1.cap):Calls Tryz.prog 80 #[.agg (aA x).toArray] w fun e w'=>e=.returned (.bool (kZ x.1))/\Below w.heap.size w w':=by
 obtain⟨s1,s2⟩:=hs;obtain⟨c1,c2⟩:=hc;have HP:Hid (kZ x.1=(!x.1.ty.truth&&(aV x.1.step&&(aV x.1.cap&&(decide (0<eH x.1.step)&&(decide ((iR x.1.cap x.1.step).1.den=(aS 1).den)&&(decide (0<eH (iR x.1.cap x.1.step).1)&&decide (sJ (iR x.1.cap x.1.step).1 (aS 200)<=0)))))))):=rfl;rw[HP.out];have HF1:=zH (fun W=>uJ x.1.step W (by omega) (by omega));have HF2:=zH (fun W=>uJ x.1.cap W (by omega) (by omega));have Ko:=zH (fun W=>uH x.1.step W (by omega) (by omega));have HZ1:=zH (fun h:aV x.1.step=true=>qM h);have HZ2:=zH (fun h:aV x.1.cap=true=>qM h)
 have HQ:Hid (∀W,aV x.1.step=true->aV x.1.cap=true->0<eH x.1.step->Calls Tryz.prog 120 #[x.1.cap.v,x.1.step.v] W fun e w'=>e=.returned (.tuple #[(iR x.1.cap x.1.step).1.v,.bool true])/\Below W.heap.size W w'):=fun W h1 h2 h3=>by
  obtain⟨p1,p2,p3⟩:=HZ1.out h1;obtain⟨q1,q2,q3⟩:=HZ2.out h2;exact acC x.1.cap x.1.step W q1 p1 (Fz h3) 50 (by omega) q2 q3 p2 p3
 have Qx:Hid (aV x.1.step=true->aV x.1.cap=true->0<eH x.1.step->okR (iR x.1.cap x.1.step).1=true/\(iR x.1.cap x.1.step).1.num.size<=100/\(iR x.1.cap x.1.step).1.den.size<=100):=fun h1 h2 h3=>by
  obtain⟨p1,p2,p3⟩:=HZ1.out h1;obtain⟨q1,q2,q3⟩:=HZ2.out h2;have hz:=Wh x.1.cap x.1.step 50 q2 q3 p2 p3;refine⟨?_,hz.1,hz.2⟩;unfold iR;rw[if_neg (Fz h3)];refine Qv _ _ _ (Nat.mul_pos (jc q1).2.1 ?_);exact IJ (jc p1).2.2.1 (Fz h3)
 have y7:=zH (fun W=>lY 1 W (by omega) (by omega));have rV:=zH (fun W=>lY 200 W (by omega) (by omega));generalize iR x.1.cap x.1.step=q at*;obtain⟨⟨qn,qm,qd⟩,qb⟩:=q;simp only at HQ Qx⊢;generalize aV x.1.step=f1 at*;generalize aV x.1.cap=f2 at*;generalize eH x.1.step=sg at*;clear HP HZ1 HZ2 s1 s2 c1 c2;obtain⟨⟨nm,⟨tt,tm,td⟩,ch,⟨pI,pJ,pK⟩,⟨pO,pR,cn3⟩,bo⟩,⟨ha,hn,hcc⟩⟩:=x;unfold aA;simp only[Ra.v] at HF1 HF2 Ko HQ⊢;go_enter Tryz.func80,Tryz.ntmps80
 go_upto_region 1 with fail
 generalize hX:w.alloc _=W;obtain⟨hk,hb⟩:=zA hX;clear hX;have hc:=fun X (hX:Below W.heap.size W X)=>have q:=(hk.below hX hk.lt).cells;And.intro (q 1) (And.intro (q 6) (And.intro (q 7) (And.intro (q 8) (And.intro (q 9) (And.intro (q 10) (q 11))))))
 simp only[List.getElem?_cons_zero,List.getElem?_cons_succ] at hc;have hq:=hc W (Below.refl _ _);cases tt;rotate_left
 ·go_wp2;go_ret;exact⟨by simp,hb⟩
 go_wp2_with fail;refine (HF1.out W).mono ?_;rintro e w5 ⟨rfl,hb5⟩;have hq:=hc w5 hb5;cases f1
 ·go_wp2;go_ret;exact⟨by simp,ah hb hb5⟩
 go_wp2_with fail;refine (HF2.out w5).mono ?_;rintro e w6 ⟨rfl,hb6⟩;replace hb6:=ah hb5 hb6;have hq:=hc w6 hb6;cases f2
 ·go_wp2;go_ret;exact⟨by simp,ah hb hb6⟩
 go_wp2_with fail;refine (Ko.out w6).mono ?_;rintro e w7 ⟨rfl,hb7⟩;replace hb7:=ah hb6 hb7;have hq:=hc w7 hb7;by_cases hsg:sg<=0
 ·have h1:¬0<sg:=by omega
  go_wp2;go_ret;exact⟨by rw[decide_eq_false (show ¬0<sg by omega)];simp,ah hb hb7⟩
 have hsp:0<sg:=by omega
 obtain⟨z1,z2,z3⟩:=Qx.out trivial trivial hsp;have xK:=HQ.out w7 trivial trivial hsp;have oI:=zH (fun W=>uH ⟨qn,qm,qd⟩ W (Nat.le_trans z2 (by omega)) (Nat.le_trans z3 (by omega)));have HCM:=zH (fun W=>Qu ⟨qn,qm,qd⟩ (aS 200) W z1 (by decide) 100 (by omega) z2 z3 (by decide) (by decide));simp only[Ra.v] at oI HCM;obtain⟨sq,XQ⟩:=zF (eH ⟨qn,qm,qd⟩);obtain⟨cq,hcq⟩:=zF (sJ ⟨qn,qm,qd⟩ (aS 200));rw[XQ] at oI;rw[hcq] at HCM;have XR:=zH XQ;have HCQ:=zH hcq;clear XQ hcq;obtain⟨dq,jY⟩:=zF (qd.toList==(aC 1).toList);have GU:Hid (decide (qd=(aS 1).den)=dq):=by show _=_;rw[<-jY,beq_toList];rfl
 have hfd:=ac2;clear z1 z2 z3 HQ Qx;go_wp2_with fail;refine xK.mono ?_;rintro e w8 ⟨rfl,hb8⟩
 go_upto_region 4 with fail
 generalize hX:w8.alloc _=X;obtain⟨hn,hbn⟩:=zA hX;have hw:=ah hb (ah hb7 (ah hb8 hbn));clear hX xK hq hc hk hb8 hbn hsg;have hc:=fun Y (hY:Below X.heap.size X Y)=>have q:=(hn.below hY hn.lt).cells;And.intro (q 0) (And.intro (q 1) (q 2))
 simp only[List.getElem?_cons_zero,List.getElem?_cons_succ] at hc;refine dN (Below X.heap.size X) 99 (ak _ _ 1) (fun w9 _ hS=>?_)
 iterate 2 refine aW ?_
 refine cO 2 (y7.out w9) ?_;rintro e w9 ⟨rfl,h9⟩;refine⟨.agg #[.bool _,.string _,.string (aC 1)],rfl,ah hS h9,fun hS=>?_⟩
 iterate 3 refine aW ?_
 cases dq
 ·iterate 3 refine Cc ?_
  iterate 2 refine aW ?_
  iterate 4 refine Cc ?_
  iterate 2 refine aW ?_
  refine dH ?_;go_wp2;go_ret;exact⟨by rw[GU.out];simp,ah hw hS⟩
 refine aW ?_;refine cO 7 (oI.out w9) ?_;rintro e w9 ⟨rfl,h9⟩;refine⟨_,rfl,ah hS h9,fun hS=>?_⟩;by_cases XQ:0<sq
 ·iterate 4 refine aW ?_
  refine cO 12 (rV.out w9) ?_;rintro e w9 ⟨rfl,h9⟩;refine⟨_,rfl,ah hS h9,fun hS=>?_⟩;refine cO 13 (HCM.out w9) ?_;rintro e w9 ⟨rfl,h9⟩;refine⟨_,rfl,ah hS h9,fun hS=>?_⟩
  iterate 3 refine aW ?_
  refine dH ?_;go_wp2;go_ret;exact⟨by rw[GU.out,XR.out,HCQ.out,decide_eq_true XQ];(try rw[decide_eq_true hsp]);simp,ah hw hS⟩
 ·have hs1:sq<=0:=by omega
  iterate 3 refine aW ?_
  iterate 4 refine Cc ?_
  iterate 2 refine aW ?_
  refine dH ?_;go_wp2;go_ret;exact⟨by rw[GU.out,XR.out,decide_eq_false (show ¬0<sq by omega)];simp,ah hw hS⟩
theorem I5 (sg:List Sg) (x:Pv × Hd) (A1:Option Addr) (k1 c1:Nat) (w:World) (hL:cZ w) (hk1:k1=sg.length) (hm1:k1<=maxLen) (hr1:Rd w A1 (jf sg)) (hb:aJ w Nd.cells x.1.body x.2) (hs:jH x.1.step) (hc:jH x.1.cap) (hf:∀n∈x.1.body,Fine n):
  Calls Tryz.prog 29 #[.slice A1 k1 c1,.agg (aA x).toArray] w fun e w'=>e=.returned (.int .i64 (jm sg x.1))/\Below w.heap.size w w':=by
 have HT:=zH (fun W (h:Below w.heap.size w W)=>Xt sg x.1.body A1 x.2.a k1 c1 x.2.n x.2.c W (hL.below h) hk1 hm1 (hr1.below h) ⟨(hb.below h).len,(hb.below h).cap,(hb.below h).max,(hb.below h).rd⟩ hf);have CX:=zH (fun W=>Hr x W);have yS:=zH (fun W=>P7 x W hs hc);have HL:Hid (∀W,Below w.heap.size w W->cZ W):=fun W hb=>hL.below hb
 have jr:Hid ((iU sg x.1.body).2≠0->jm sg x.1=(iU sg x.1.body).2):=fun h=>by unfold jm;rw[if_pos h]
 have jX:Hid ((iU sg x.1.body).2=0->decide ((iU sg x.1.body).1=x.1.ty)=false->jm sg x.1=13):=fun h h2=>by unfold jm;rw[if_neg (by rw[h];simp),if_pos (of_decide_eq_false h2)]
 have Kq:Hid ((iU sg x.1.body).2=0->decide ((iU sg x.1.body).1=x.1.ty)=true->jm sg x.1=if (x.1.dS&& !decide ((iU sg x.1.body).1=bT))||(!dZ x.1&& !kZ x.1) then 1 else 0):=fun h h2=>by
  have e:=of_decide_eq_true h2;unfold jm;rw[if_neg (by rw[h];simp),if_neg (by rw[e];simp),e];congr 3;rw[decide_not]
 have Bd:=fun W=>yU (iU sg x.1.body).1 x.1.ty W
 have HNC:=fun W=>yU (iU sg x.1.body).1 bT W
 generalize jm sg x.1=R at*;generalize iU sg x.1.body=te at*;generalize dZ x.1=pl at*;generalize kZ x.1=cp at*;clear hL hk1 hm1 hr1 hb hs hc hf;obtain⟨te,z⟩:=te;simp only at HT jr jX Kq Bd HNC;generalize decide (te=x.1.ty)=q1 at*;generalize decide (te=bT)=q2 at*;obtain⟨et,em,ed⟩:=te;obtain⟨⟨nm,⟨tt,tm,td⟩,ch,⟨pI,pJ,pK⟩,⟨pO,pR,cn3⟩,bo⟩,⟨ha,hn,hcc⟩⟩:=x;unfold aA at CX yS⊢;simp only[Ty.v,bT] at HT Bd HNC CX yS Kq⊢;obtain⟨W,hW⟩:=zE (w.alloc (.cells #[.string nm,.bool tt,.int .i64 tm,.int .i64 td,.slice ha hn hcc,.bool ch,.bool pI,.string pJ,.string pK,.bool pO,.string pR,.string cn3] 45));obtain⟨B,hB⟩:=zE w.heap.size;have HK:Hid (aj W B 45 [.string nm,.bool tt,.int .i64 tm,.int .i64 td,.slice ha hn hcc,.bool ch,.bool pI,.string pJ,.string pK,.bool pO,.string pR,.string cn3]):=by show aj _ _ _ _;rw[hW,hB];exact aj.new w _ _
 have aY:Hid (Below w.heap.size w W):=by show Below _ _ _;rw[hW];exact zB _ _
 have hkc:=HK.out.cells;go_enter Tryz.func29,Tryz.ntmps29
 go_upto_region 1 with fail
 simp only[<-hW,<-hB]
 clear hW hB;go_wp2_with fail;refine (HT.out W aY.out).mono ?_;rintro e w5 ⟨rfl,hb5⟩;have jo:=zH (ah aY.out hb5);have rF:=zH (HK.out.below hb5 HK.out.lt);clear hb5 hkc HT
 go_upto_region 2 with fail
 obtain⟨w6,hw6⟩:∃x,x=w5.alloc (.cells #[.bool et,.int .i64 em,.int .i64 ed] 34):=⟨_,rfl⟩
 obtain⟨N,hN⟩:=zE w5.heap.size;have HKN:Hid (aj w6 N 34 [.bool et,.int .i64 em,.int .i64 ed]):=by show aj _ _ _ _;rw[hw6,hN];exact aj.new _ _ _
 have J5:Hid (aj w6 B 45 [.string nm,.bool tt,.int .i64 tm,.int .i64 td,.slice ha hn hcc,.bool ch,.bool pI,.string pJ,.string pK,.bool pO,.string pR,.string cn3]):=by show aj _ _ _ _;rw[hw6];exact rF.out.alloc _
 have nX:Hid (Below w.heap.size w w6):=by show Below _ _ _;rw[hw6];exact ah jo.out (zB _ _)
 simp only[<-hw6,<-hN]
 clear hw6 hN;have hkn:=HKN.out.cells;have hk6:=J5.out.cells;have g0:=(HL.out _ nX.out).TG 0 _ rfl;have g1:=(HL.out _ nX.out).TG 1 _ rfl;have g2:=(HL.out _ nX.out).TG 2 _ rfl;unfold bT at g0 g1 g2;simp only at g0 g1 g2;by_cases hz:z=0
 ·subst hz;cases q1
  ·obtain rfl:R=13:=jX.out rfl rfl;go_wp2;go_ret;exact⟨rfl,nX.out⟩
  ·have hv3:=Kq.out rfl rfl;clear jr jX Kq;by_cases h1:(ch&& !q2)=true
   ·obtain⟨rfl,h2⟩:=Bool.and_eq_true_iff.1 h1;obtain rfl:q2=false:=by simpa using h2
    obtain rfl:R=1:=hv3;clear h1 h2;go_wp2;go_ret;exact⟨rfl,nX.out⟩
   ·have h1':(ch&& !q2)=false:=by simpa using h1
    rw[h1',Bool.false_or] at hv3;have HV:=zH hv3;clear h1 hv3;have HX:Hid (∀W',Below w.heap.size w W'->True):=fun _ _=>trivial
    go_upto_region 6 with fail
    go_cut [23] from 24 to 30 (fun v wc=>v=.bool false/\wc=w6)
    case first=>
     cases ch
     ·go_wp2
      go_meet
      case rel=>exact⟨rfl,rfl⟩
     ·obtain rfl:q2=true:=by simpa using h1'
      go_wp2
      go_meet
      case rel=>exact⟨rfl,rfl⟩
    case rest=>
     obtain⟨rfl,rfl⟩:=hcut;clear h1';go_wp2_with fail;refine (CX.out _).mono ?_;rintro e w7 ⟨rfl,hb7⟩;have xk:=zH (ah nX.out hb7);have hk7:=(J5.out.below hb7 J5.out.lt).cells;clear hb7;cases pl
     ·go_wp2_with fail;refine (yS.out _).mono ?_;rintro e w8 ⟨rfl,hb8⟩;have XT:=zH (ah xk.out hb8);clear hb8;cases cp
      ·obtain rfl:R=1:=HV.out;go_wp2;go_ret;exact⟨rfl,XT.out⟩
      ·obtain rfl:R=0:=HV.out;go_wp2;go_ret;exact⟨rfl,XT.out⟩
     ·obtain rfl:R=0:=HV.out;go_wp2;go_ret;exact⟨rfl,xk.out⟩
 ·obtain rfl:R=z:=jr.out hz;have hzb:(R !=0)=true:=by simp[hz]
  have hzc:(R==0)=false:=by simp[hz]
  clear jr jX Kq hz;go_wp2;go_ret;exact⟨rfl,nX.out⟩
theorem QZ (n:Int) (w:World) (h0:0<=n) (h1:n<=9223372036854775807):Calls Tryz.prog 17 #[.int .i64 n] w fun e w'=>e=.returned (.agg #[.bool false,.string (aC n.toNat),.string (aC 1)])/\Below w.heap.size w w':=by
 obtain⟨W,hW⟩:=zE (w.alloc (.cells #[.bool false,.string ⟨#[]⟩,.string ⟨#[]⟩] 43));obtain⟨B,hB⟩:=zE w.heap.size;have HK:Hid (aj W B 43 [.bool false,.string ⟨#[]⟩,.string ⟨#[]⟩]):=by show aj _ _ _ _;rw[hW,hB];exact aj.new w _ _
 have aY:Hid (Below w.heap.size w W):=by show Below _ _ _;rw[hW];exact zB _ _
 have iC:=zH (Nat.le_of_eq hB.symm);have HO:=zH (fun W=>qF n W (by omega) h1);have y7:=zH (fun W=>qF 1 W (by omega) (by omega));rw[show (1:Int).toNat=1 from rfl] at y7;have hn:¬n<0:=by omega
 go_enter Tryz.func17,Tryz.ntmps17
 go_upto_region 1 with fail
 simp only[<-hW,<-hB]
 clear hW hB;go_wp2_with fail;refine (HO.out W).mono ?_;rintro e w1 ⟨rfl,hb1⟩;go_wp2_with fail;refine (y7.out w1).mono ?_;rintro e w2 ⟨rfl,hb2⟩;have mM:=ah hb1 hb2;have jQ:=zH (HK.out.below mM HK.out.lt);have HB2:=zH (ah aY.out mM);have hkc:=jQ.out.cells;have pq:=jQ.out.aI;clear hb1 hb2 mM;go_wp2;have Ho:=((jQ.out.set 0 (.bool false)).set 1 (.string (aC n.toNat))).set 2 (.string (aC 1));have hc:=Ho.cells;refine bodyPost_ret (v:=.agg #[.bool false,.string (aC n.toNat),.string (aC 1)]) (by simp[results,Tryz.results17,go_sem,hc]) rfl ⟨rfl,?_⟩;exact ((HB2.out.setCell (p:=⟨B,0,none⟩) iC.out _).setCell (p:=⟨B,1,none⟩) iC.out _).setCell (p:=⟨B,2,none⟩) iC.out _
def isName (q:ByteArray) (x:Pv × Hd):Bool:=decide (x.1.name=q)
theorem UM (x:Pv × Hd) (q:ByteArray) (b:Nat) (t:TypeId) (w:World) (hb:aj w b t [.string q]):Calls Tryz.prog 49 #[.agg (aA x).toArray,.pointer (some ⟨b,0,none⟩)] w fun e w'=>e=.returned (.bool (isName q x))/\Below w.heap.size w w':=by
 obtain⟨⟨nm,⟨tt,tm,td⟩,ch,⟨s1,s2,s3⟩,⟨p1,p2,p3⟩,body⟩,⟨ha,hn,hcc⟩⟩:=x;unfold aA isName;simp only
 obtain⟨W,hW⟩:=zE (w.alloc (.cells #[.string nm,.bool tt,.int .i64 tm,.int .i64 td,.slice ha hn hcc,.bool ch,.bool s1,.string s2,.string s3,.bool p1,.string p2,.string p3] 45));obtain⟨B,hB⟩:=zE w.heap.size;have HK:Hid (aj W B 45 [.string nm,.bool tt,.int .i64 tm,.int .i64 td,.slice ha hn hcc,.bool ch,.bool s1,.string s2,.string s3,.bool p1,.string p2,.string p3]):=by show aj _ _ _ _;rw[hW,hB];exact aj.new w _ _
 have aY:Hid (Below w.heap.size w W):=by show Below _ _ _;rw[hW];exact zB _ _
 have hkc:=HK.out.cells;have hqc:W.cell? ⟨b,0,none⟩=some (.string q):=(hb.below aY.out hb.lt).cells 0
 have HEQ:Hid ((nm.toList==q.toList)=decide (nm=q)):=by
  show _=_;rw[ByteArray.toList_eq,ByteArray.toList_eq]
  cases nm with|mk d=>cases q with|mk d'=>cases d with|mk l=>cases d' with|mk l'=>
   by_cases h:l=l'
   ·subst h;simp
   ·have h2:¬((⟨⟨l⟩⟩:ByteArray)=⟨⟨l'⟩⟩):=fun e=>h (by injection e with e;injection e)
    rw[decide_eq_false h2];simp[h]
 go_enter Tryz.func49,Tryz.ntmps49
 go_upto_region 1 with fail
 simp only[<-hW,<-hB]
 clear hW hB;go_wp2;go_ret;exact⟨by simp[HEQ.out],aY.out⟩
def abN (q:ByteArray) (xs:List (Pv × Hd)) [Inhabited (Pv × Hd)]:Int:=Lib.idxBy (fun _ y=>isName q y) xs default
theorem aar (xs:List (Pv × Hd)) (h:Hd) (q:ByteArray) (b:Nat) (t:TypeId) (w:World) (hb:aj w b t [.string q]) (hr:aJ w aA xs h) (h0:0<xs.length) [aiB:Inhabited (Pv × Hd)]:
  Calls Tryz.prog 48 #[.slice h.a h.n h.c,.func (.func 49) #[] #[.pointer (some ⟨b,0,none⟩)]] w fun e w'=>e=.returned (.int .i64 (abN q xs))/\Below w.heap.size w w':=by
 have hlen:=hr.len;have hmx:=hr.max;have hcp:=hr.cap;obtain⟨g,off,hA,hg,_⟩:=Rd.row aA 12 (fun _=>rfl) (by omega) hr.rd (j:=0) (by omega);have eg:∀args w,(callFunc 49 args).run Tryz.prog w=.ok (.enter 49 args) w:=enters_of Tryz.func49 (by kernel_rfl) rfl;have hrd:=hr.rd;rw[hA] at hrd⊢
 have hh:=AnyQ.slices_IndexFunc Tryz.idxP 12 Tryz.isAgg45 Tryz.sizeOf45 aA (fun _=>rfl) (isName q) 49 #[.pointer (some ⟨b,0,none⟩)] eg g off h.n h.c xs w
  (fun W x hW=>(UM x q b t W (hb.below hW hb.lt)).mono (fun e w' ⟨h1,h2⟩=>⟨h1,ah hW h2⟩)) (by omega) (by unfold maxLen at hmx;omega) hg (fun j hj i v hv=>by
    obtain⟨b',off',hA',hb',hc'⟩:=Rd.row aA 12 (fun _=>rfl) (by omega) hrd hj;injection hA' with hA';injection hA' with h1 h2;subst h1 h2;refine hc' i v ?_;have e:=getElem!_pos xs j hj;rw[e] at hv;exact hv)
 rw[List.take_of_length_le (by omega)] at hh;exact hh
theorem XK (q:ByteArray) (xs:List (Pv × Hd)) (f s p:Hd) (w:World) (hr:aJ w aA xs p) (h0:0<xs.length) [aiB:Inhabited (Pv × Hd)] (z:Int) (hz:abN q xs=z) (hz0:0<=z):
  Calls Tryz.prog 19 #[dR f s p,.string q] w fun e w'=>e=.returned (.tuple #[.int .i64 z,.bool true])/\Below w.heap.size w w':=by
 obtain⟨fa,fn,fc⟩:=f;obtain⟨sa,sn,sc⟩:=s;obtain⟨pa,pn,pc⟩:=p;unfold dR;simp only
 obtain⟨W,hW⟩:=zE ((w.alloc (.cells #[.slice fa fn fc,.slice sa sn sc,.slice pa pn pc] 28)).alloc (.cells #[.string q] 9));obtain⟨B,hB⟩:=zE w.heap.size;have HK:Hid (aj W B 28 [.slice fa fn fc,.slice sa sn sc,.slice pa pn pc]):=by show aj _ _ _ _;rw[hW,hB];exact (aj.new w _ _).alloc _
 have HQ:Hid (aj W (B+1) 9 [.string q]):=by
  show aj _ _ _ _;rw[hW,hB];have h:=aj.new (w.alloc (.cells #[.slice fa fn fc,.slice sa sn sc,.slice pa pn pc] 28)) 9 #[.string q];rw[World.size_alloc] at h;exact h
 have aY:Hid (Below w.heap.size w W):=by show Below _ _ _;rw[hW];exact (zB _ _).alloc (by simp) _
 have HF:=zH (aar xs ⟨pa,pn,pc⟩ q (B+1) 9 W HQ.out (hr.below aY.out) h0);rw[hz] at HF;simp only at HF;have hmf:∀(fn:Fn) (first cap:Array Value) (w:World),(Instr.makeFunc fn first cap).run Tryz.prog w=.ok (.func fn first cap) w:=fun _ _ _ _=>rfl
 have hkc:=HK.out.cells;have hmx:max z 0=z:=by omega
 clear hz hr;go_enter Tryz.func19,Tryz.ntmps19
 go_upto_region 1 with fail
 simp only[<-hW,<-hB]
 clear hW hB;go_wp2_with fail;refine HF.out.mono ?_;rintro e w2 ⟨rfl,hb2⟩;have HB2:=zH (ah aY.out hb2);clear hb2;go_wp2;go_ret2;exact⟨rfl,HB2.out⟩
end Go.Proofs.YtimokmplkpbmdaaGreatDoor
