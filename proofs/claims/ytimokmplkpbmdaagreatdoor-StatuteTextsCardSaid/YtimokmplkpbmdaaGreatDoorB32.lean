/- A part of the proof: Y8 Q0 Qc W4. -/
import Derived.Test.YtimokmplkpbmdaaGreatDoorB30
import Derived.Test.YtimokmplkpbmdaaGreatDoorB31
set_option linter.all false
set_option maxRecDepth 100000
set_option maxHeartbeats 0
namespace Go.Proofs.YtimokmplkpbmdaaGreatDoor
open Go.RowKit
theorem tyGo_of (sg:List Sg) (n:Nd) (r:List Nd) (a:List Nat) (ar:List (List Nat)) (ts:List Ty):tyGo sg (n::r) (a::ar) ts=if (ofN sg n (rowT ts a)).2=0 then tyGo sg r ar (ts++[(ofN sg n (rowT ts a)).1]) else ([],(ofN sg n (rowT ts a)).2):=by
 rw[tyGo];unfold ofN;cases ownT sg n with
 |none=>rfl
 |some own=>cases h:(ruleT n.op own (rowT ts a)).2<;>simp[h]
def tyS (sg:List Sg):List Nd->List Ty->Option (List Ty)
 |[],st=>some st
 |n::r,st=>if (ofN sg n (st.take (shp n.op).ops).reverse).2=0 then tyS sg r ((ofN sg n (st.take (shp n.op).ops).reverse).1::st.drop (shp n.op).ops) else none
theorem tyS_append (sg:List Sg):∀(a b:List Nd) (st:List Ty),tyS sg (a++b) st=(tyS sg a st).bind (tyS sg b)
 |[],b,st=>rfl
 |n::r,b,st=>by
  rw[List.cons_append,tyS,tyS];split
  ·exact tyS_append sg r b _
  ·rfl
structure TE (sg:List Sg) (t:Ty) (e:List Nd):Prop where
 c:∀r d,chk (e++r) d=chk r (d+1)
 s:∀st,tyS sg e st=some (t::st)
theorem tyS_one {sg:List Sg} {n:Nd} {st ts:List Ty} {t:Ty} (hl:ts.length=(shp n.op).ops) (h:ofN sg n ts=(t,0)):tyS sg [n] (ts.reverse++st)=some (t::st):=by
 have e:((ts.reverse++st).take (shp n.op).ops).reverse=ts:=by rw[<-hl,List.take_left' (by simp),List.reverse_reverse]
 have d:(ts.reverse++st).drop (shp n.op).ops=st:=by rw[<-hl];exact List.drop_left' (by simp)
 rw[tyS,e,d,h];rfl
theorem chk_one {n:Nd} (hw:wrongN n=0) (r:List Nd) (d:Nat):chk (n::r) (d+(shp n.op).ops)=chk r (d+1):=by
 rw[chk,if_neg (by simp[hw]),if_neg (by omega)];congr 1;omega
theorem TE.node {sg:List Sg} {n:Nd} {t:Ty}:∀(cs:List (List Nd × Ty)),(∀x∈cs,TE sg x.2 x.1)->(hw:wrongN n=0)->(hl:cs.length=(shp n.op).ops)->ofN sg n (cs.map Prod.snd)=(t,0)->TE sg t ((cs.map Prod.fst).flatten++[n]):=by
 intro cs hc hw hl ho
 have hC:∀(l:List (List Nd × Ty)),(∀x∈l,TE sg x.2 x.1)->∀r d,chk ((l.map Prod.fst).flatten++r) d=chk r (d+l.length):=by
  intro l
  induction l with
  |nil=>intro _ r d;rfl
  |cons x l ih=>
   intro h r d;rw[List.map_cons,List.flatten_cons,List.append_assoc,(h x (by simp)).c,ih (fun y hy=>h y (by simp[hy]))];congr 1;simp;omega
 have hS:∀(l:List (List Nd × Ty)),(∀x∈l,TE sg x.2 x.1)->∀st,tyS sg (l.map Prod.fst).flatten st=some ((l.map Prod.snd).reverse++st):=by
  intro l
  induction l with
  |nil=>intro _ st;rfl
  |cons x l ih=>
   intro h st;rw[List.map_cons,List.flatten_cons,tyS_append,(h x (by simp)).s,Option.bind_some,ih (fun y hy=>h y (by simp[hy]))];simp
 refine⟨fun r d=>?_,fun st=>?_⟩
 ·rw[List.append_assoc,hC cs hc,hl];exact chk_one hw r d
 ·rw[tyS_append,hS cs hc,Option.bind_some];exact tyS_one (by rw[List.length_map,hl]) ho
theorem TE.leaf {sg:List Sg} {n:Nd} {t:Ty} (hw:wrongN n=0) (hl:(shp n.op).ops=0) (ho:ofN sg n []=(t,0)):TE sg t [n]:=TE.node [] (fun _ h=>by cases h) hw hl.symm ho
theorem tyGo_S {sg:List Sg}:∀(e:List Nd) (ts:List Ty) (idx:List Nat) (st':List Ty),(∀x∈idx,x<ts.length)->tyS sg e (idx.map fun k=>ts.getD k tPlain)=some st'->
  ∃ts' idx',tyGo sg e (runA e ts.length idx) ts=(ts',0)/\st'=idx'.map (fun k=>ts'.getD k tPlain)/\(e≠[]->∃r,idx'=(ts'.length-1)::r)/\(e=[]->idx'=idx/\ts'=ts)
 |[],ts,idx,st',_,h=>⟨ts,idx,rfl,(Option.some.inj h).symm,fun h=>absurd rfl h,fun _=>⟨rfl,rfl⟩⟩
 |n::r,ts,idx,st',hx,h=>by
  have er:rowT ts ((idx.take (shp n.op).ops).reverse)=((idx.map fun k=>ts.getD k tPlain).take (shp n.op).ops).reverse:=by simp[rowT,List.map_reverse,List.map_take]
  rw[runA,tyGo_of,er];rw[tyS] at h;split at h
  ·next h0=>
   rw[if_pos h0];generalize (ofN sg n ((idx.map fun k=>ts.getD k tPlain).take (shp n.op).ops).reverse).1=T at h⊢
   have em:((ts.length::idx.drop (shp n.op).ops).map fun k=>(ts++[T]).getD k tPlain)=T::(idx.map fun k=>ts.getD k tPlain).drop (shp n.op).ops:=by
    rw[List.map_cons,<-List.map_drop];congr 1
    ·simp[List.getD_eq_getElem?_getD]
    ·refine List.map_congr_left fun k hk=>?_
     have hk:=hx k (List.mem_of_mem_drop hk);simp only[List.getD_eq_getElem?_getD]
     rw[List.getElem?_append_left hk]
   have hl:(ts++[T]).length=ts.length+1:=by simp
   obtain⟨ts',idx',a1,a2,a3,a4⟩:=tyGo_S r (ts++[T]) (ts.length::idx.drop (shp n.op).ops) st' (fun x h=>by
    rw[hl];rcases List.mem_cons.1 h with rfl|h
    ·omega
    ·have:=hx x (List.mem_of_mem_drop h);omega) (by rw[em];exact h)
   rw[hl] at a1;refine⟨ts',idx',a1,a2,fun _=>?_,fun h=>by cases h⟩;by_cases hr:r=[]
   ·obtain⟨b1,b2⟩:=a4 hr;exact⟨_,by rw[b1,b2,hl,Nat.add_sub_cancel]⟩
   ·exact a3 hr
  ·cases h
theorem TE.ne {sg:List Sg} {t:Ty} {e:List Nd} (h:TE sg t e):e≠[]:=by
 rintro rfl;have:=h.s [];cases this
theorem TE.chk {sg:List Sg} {t:Ty} {e:List Nd} (h:TE sg t e) (h60:e.length<=60):checkE e=0:=by
 have k:=h.c [] 0;rw[List.append_nil] at k;unfold checkE;rw[if_neg (by omega),k];rfl
theorem TE.type {sg:List Sg} {t:Ty} {e:List Nd} (h:TE sg t e) (h60:e.length<=60):typeE sg e=(t,0):=by
 obtain⟨ts',idx',a1,a2,a3,_⟩:=tyGo_S e [] [] [t] (fun x h=>by cases h) (h.s []);obtain⟨r,rfl⟩:=a3 h.ne;have e1:typesE sg e=(ts',0):=by unfold typesE argsE;rw[if_pos (h.chk h60)];exact a1
 have e2:ts'.getD (ts'.length-1) tPlain=t:=by injection a2 with a2 _;exact a2.symm
 unfold typeE;simp only[e1,if_true]
 rw[e2]
def nE:ByteArray:=⟨#[]⟩
theorem wr_op {op:Int} (h:9<=op/\op<=20):wrongN ⟨op,zR,nE⟩=0:=by
 rcases (by omega:op=9∨op=10∨op=11∨op=12∨op=13∨op=14∨op=15∨op=16∨op=17∨op=18∨op=19∨op=20) with rfl|rfl|rfl|rfl|rfl|rfl|rfl|rfl|rfl|rfl|rfl|rfl<;>decide
theorem wr_lit {op:Int} {x:Ra} (h:1<=op/\op<=3) (hx:fitsR x=true):wrongN ⟨op,x,nE⟩=0:=by
 rcases (by omega:op=1∨op=2∨op=3) with rfl|rfl|rfl<;>(unfold wrongN numOk;simp[hx,nE,shp,shs,sh0])
theorem wr_tru {x:Ra} (h:x=ofI 0∨x=ofI 1):wrongN ⟨4,x,nE⟩=0:=by
 rcases h with rfl|rfl<;>decide
theorem wr_stp {op:Int} {x:Ra} (h:21<=op/\op<=23) (hx:fitsR x=true) (hp:0<signR x):wrongN ⟨op,x,nE⟩=0:=by
 rcases (by omega:op=21∨op=22∨op=23) with rfl|rfl|rfl<;>(unfold wrongN numOk;simp[hx,hp,nE,shp,shs,sh0])
theorem wr_nam {op:Int} {s:ByteArray} (h:sigB op=true) (hs:nameOk s=true):wrongN ⟨op,zR,s⟩=0:=by
 unfold sigB at h;rw[Bool.or_eq_true,decide_eq_true_eq,decide_eq_true_eq] at h;unfold nameOk at hs;rcases (by omega:op=5∨op=6∨op=7∨op=8∨op=24) with rfl|rfl|rfl|rfl|rfl<;>(unfold wrongN numOk;simp[hs,shp,shs,sh0])
section
variable {sg:List Sg} {t:Ty} {a b c:List Nd}
theorem of_rule {n:Nd} {l:List Ty} (h:sigB n.op=false) (hr:ruleT n.op tPlain l=(t,true)):ofN sg n l=(t,0):=by
 unfold ofN ownT;simp only[h,Bool.false_eq_true,if_false,hr,if_true]
theorem of_sig {n:Nd} {l:List Ty} {own:Ty} (h:sigB n.op=true) (hs:sigOf sg n=some own) (hr:ruleT n.op own l=(t,true)):ofN sg n l=(t,0):=by
 unfold ofN ownT;simp only[h,if_true,hs,hr]
theorem TE.lit {op:Int} {x:Ra} (h:1<=op/\op<=3) (hx:fitsR x=true) (ht:t=if op=1 then tCash else if op=2 then tDays else tPlain):TE sg t [⟨op,x,nE⟩]:=by
 subst ht;refine TE.leaf (wr_lit h hx) ?_ (of_rule ?_ ?_)
 all_goals rcases (by omega:op=1∨op=2∨op=3) with rfl|rfl|rfl<;>rfl
theorem TE.tru {x:Ra} (h:x=ofI 0∨x=ofI 1):TE sg tTruth [⟨4,x,nE⟩]:=TE.leaf (wr_tru h) rfl (of_rule rfl rfl)
theorem TE.nam {op:Int} {s:ByteArray} (h:5<=op/\op<=8) (hs:nameOk s=true) (hg:sigOf sg ⟨op,zR,s⟩=some t):TE sg t [⟨op,zR,s⟩]:=by
 have hB:sigB op=true:=by unfold sigB;rw[decide_eq_true h,Bool.true_or]
 refine TE.leaf (wr_nam hB hs) ?_ (of_sig hB hg ?_)
 all_goals rcases (by omega:op=5∨op=6∨op=7∨op=8) with rfl|rfl|rfl|rfl<;>rfl
theorem TE.one {n:Nd} {u:Ty} (ha:TE sg u a) (hw:wrongN n=0) (hl:(shp n.op).ops=1) (ho:ofN sg n [u]=(t,0)):TE sg t ([a].flatten++[n]):=
 TE.node [(a,u)] (fun x h=>by obtain rfl:=List.mem_singleton.1 h;exact ha) hw hl.symm ho
theorem TE.two {n:Nd} {u v:Ty} (ha:TE sg u a) (hb:TE sg v b) (hw:wrongN n=0) (hl:(shp n.op).ops=2) (ho:ofN sg n [u,v]=(t,0)):TE sg t ([a,b].flatten++[n]):=
 TE.node [(a,u),(b,v)] (fun x h=>by
  rcases List.mem_cons.1 h with rfl|h
  ·exact ha
  ·obtain rfl:=List.mem_singleton.1 h;exact hb) hw hl.symm ho
theorem TE.three {n:Nd} {u v w:Ty} (ha:TE sg u a) (hb:TE sg v b) (hc:TE sg w c) (hw:wrongN n=0) (hl:(shp n.op).ops=3) (ho:ofN sg n [u,v,w]=(t,0)):TE sg t ([a,b,c].flatten++[n]):=
 TE.node [(a,u),(b,v),(c,w)] (fun x h=>by
  rcases List.mem_cons.1 h with rfl|h
  ·exact ha
  ·rcases List.mem_cons.1 h with rfl|h
   ·exact hb
   ·obtain rfl:=List.mem_singleton.1 h;exact hc) hw hl.symm ho
theorem TE.sum {op:Int} (h:op=9∨op=10∨op=13∨op=14) (ht:t.truth=false) (ha:TE sg t a) (hb:TE sg t b):TE sg t ([a,b].flatten++[⟨op,zR,nE⟩]):=by
 refine TE.two ha hb (wr_op (by omega)) ?_ (of_rule ?_ ?_)
 all_goals rcases h with rfl|rfl|rfl|rfl<;>simp[ruleT,tA,tB,ht,shp,shs,sh0,sigB]
theorem TE.mul {op:Int} (h:op=11∨op=12) (ht:t.truth=false) (hu:unitB t.money t.days=true) (ha:TE sg t a) (hb:TE sg tPlain b):TE sg t ([a,b].flatten++[⟨op,zR,nE⟩]):=by
 obtain⟨tr,m,d⟩:=t;simp only at ht hu;subst ht;refine TE.two ha hb (wr_op (by omega)) ?_ (of_rule ?_ ?_)
 all_goals rcases h with rfl|rfl<;>simp[ruleT,tA,tB,tPlain,hu,shp,shs,sh0,sigB]
theorem TE.cond (ha:TE sg tTruth a) (hb:TE sg t b) (hc:TE sg t c):TE sg t ([a,b,c].flatten++[⟨15,zR,nE⟩]):=by
 refine TE.three ha hb hc (wr_op (by omega)) rfl (of_rule rfl ?_);simp[ruleT,tA,tB,tC]
theorem TE.cmp {op:Int} {u:Ty} (h:op=16∨op=17) (ht:u.truth=false) (ha:TE sg u a) (hb:TE sg u b):TE sg tTruth ([a,b].flatten++[⟨op,zR,nE⟩]):=by
 refine TE.two ha hb (wr_op (by omega)) ?_ (of_rule ?_ ?_)
 all_goals rcases h with rfl|rfl<;>simp[ruleT,tA,tB,ht,shp,shs,sh0,sigB]
theorem TE.and {op:Int} (h:op=18∨op=19) (ha:TE sg tTruth a) (hb:TE sg tTruth b):TE sg tTruth ([a,b].flatten++[⟨op,zR,nE⟩]):=by
 refine TE.two ha hb (wr_op (by omega)) ?_ (of_rule ?_ ?_)
 all_goals rcases h with rfl|rfl<;>rfl
theorem TE.not (ha:TE sg tTruth a):TE sg tTruth ([a].flatten++[⟨20,zR,nE⟩]):=TE.one ha (wr_op (by omega)) rfl (of_rule rfl rfl)
theorem TE.stp {op:Int} {x:Ra} (h:21<=op/\op<=23) (hx:fitsR x=true) (hp:0<signR x) (ht:t.truth=false) (ha:TE sg t a):TE sg t ([a].flatten++[⟨op,x,nE⟩]):=by
 refine TE.one ha (wr_stp h hx hp) ?_ (of_rule ?_ ?_)
 all_goals rcases (by omega:op=21∨op=22∨op=23) with rfl|rfl|rfl<;>simp[ruleT,tA,ht,shp,shs,sh0,sigB]
theorem TE.rate {s:ByteArray} (hs:nameOk s=true) (hg:sigOf sg ⟨24,zR,s⟩=some t) (ha:TE sg t a):TE sg t ([a].flatten++[⟨24,zR,s⟩]):=by
 refine TE.one ha (wr_nam rfl hs) rfl (of_sig rfl hg ?_);simp[ruleT,tA]
end
def TyN (K:Nat) (m d:Int):Prop:=(1<=K/\((m=1/\d=0)∨(m=0/\d=1)∨(m=0/\d=0)))∨(5<=K/\m=1/\d= -1)
def TyK (K:Nat) (t:Bool) (m d:Int):Prop:=(1<=K/\t=true/\m=0/\d=0)∨(t=false/\TyN K m d)
section
variable {K L:Nat} {t:Bool} {m d:Int}
theorem TyK.plain:TyK 1 false 0 0:=.inr ⟨rfl,.inl ⟨Nat.le_refl _,.inr (.inr ⟨rfl,rfl⟩)⟩⟩
theorem TyK.truth:TyK 1 true 0 0:=.inl ⟨Nat.le_refl _,rfl,rfl,rfl⟩
theorem TyK.mono (h:TyK K t m d) (hL:K<=L):TyK L t m d:=
 h.imp (fun h=>⟨Nat.le_trans h.1 hL,h.2⟩) (fun h=>⟨h.1,h.2.imp (fun h=>⟨Nat.le_trans h.1 hL,h.2⟩) (fun h=>⟨Nat.le_trans h.1 hL,h.2⟩)⟩)
theorem TyK.one (h:TyK K t m d):1<=K:=by
 rcases h with h|⟨_,h|h⟩
 ·exact h.1
 ·exact h.1
 ·omega
theorem TyK.num (h:TyK K false m d):TyN K m d:=by
 rcases h with h|h
 ·cases h.2.1
 ·exact h.2
theorem TyK.tru (h:TyK K true m d):m=0/\d=0:=by
 rcases h with h|h
 ·exact h.2.2
 ·cases h.1
theorem TyK.unit (h:TyK K false m d):unitB m d=true:=by
 rcases h.num with⟨_,⟨rfl,rfl⟩|⟨rfl,rfl⟩|⟨rfl,rfl⟩⟩|⟨_,rfl,rfl⟩<;>decide
end
def TK (sg:List Sg) (t:Bool) (m d:Int) (K:Nat) (ns:List Nd):Prop:=TE sg ⟨t,m,d⟩ ns/\ns.length<=K
def NdRet (P:List Nd->Prop) (D u:Nat) (w:World) (e:Ending) (w':World):Prop:=∃v ns,e=.returned v/\P ns/\w'.ownsRow w.heap.size 49 5 v ns.length (nds ns)/\DS w' D u/\Onl D w w'
theorem own_new (w:World) (cs:Array Value) (t:TypeId) (s m B:Nat) (hs:cs.size=m*s) (hm:m<=1000) (h:B<=w.heap.size):(w.alloc (.cells cs t)).ownsRow B t s (.slice (some ⟨w.heap.size,0,none⟩) m m) m cs.toList:=by
 refine⟨by simp[hs],.inr ⟨w.heap.size,m,cs,rfl,h,?_,Nat.le_refl _,by unfold maxLen;omega,hs,by rw[List.take_of_length_le (by simp[hs])]⟩⟩;show (Array.push _ _)[w.heap.size]?=_;simp
theorem own_newX {w W:World} {cs:Array Value} {t:TypeId} (hW:w.alloc (.cells cs t)=W) (s m B:Nat) (hs:cs.size=m*s) (hm:m<=1000) (h:B<=w.heap.size):W.ownsRow B t s (.slice (some ⟨w.heap.size,0,none⟩) m m) m cs.toList:=hW ▸ own_new w cs t s m B hs hm h
theorem onl_row {D B n s:Nat} {e:TypeId} {w w':World} {v:Value} {xs:List Value} (h:w.ownsRow B e s v n xs) (ho:Onl D w w') (hD:D<B):w'.ownsRow B e s v n xs:=by
 refine h.kept ho.grown (.inr (fun hh=>?_));have:=(h.lt _ hh).1;omega
theorem DS.belowU {w w':World} {D u B:Nat} (h:DS w D u) (hb:Below B w w') (hu:u<=B):DS w' D u:=by
 obtain⟨A,n,c,L,k,h,hl,ha⟩:=h;refine⟨A,n,c,L,k,⟨h.blk.below hb (by omega),h.len,h.max,?_,h.rng,h.ne,h.le⟩,hl,ha⟩;rcases h.rd with h0|⟨b',off',e,hb',hc⟩
 ·exact .inl h0
 ·by_cases hL:L=[]
  ·exact .inl (by rw[hL];rfl)
  ·subst e;refine .inr ⟨b',off',rfl,Nat.lt_of_lt_of_le hb' hb.size,fun i hi=>?_⟩;rw[<-hc i hi];exact World.cell?_of_block (hb.block b' (by have:b'<u:=ha hL _ rfl;omega))
structure DW (w:World) (D u:Nat) (W:World):Prop where
 ds:DS W D u
 on:Onl D w W
 hD:D<w.heap.size
 hu:u<=w.heap.size
section
variable {w W X:World} {D u:Nat}
theorem DW.onl (h:DW w D u W) (hd:DS X D u) (ho:Onl D W X):DW w D u X:=⟨hd,h.on.trans ho,h.hD,h.hu⟩
theorem DW.below (h:DW w D u W) (hb:Below W.heap.size W X):DW w D u X:=h.onl (h.ds.below hb) (Onl.of_below hb)
theorem DW.low (h:DW w D u W) (hb:Below w.heap.size W X):DW w D u X:=⟨h.ds.belowU hb h.hu,h.on.more hb,h.hD,h.hu⟩
theorem DW.next (h:DW w D u W) (q:Int) (h1:1<=q) (h2:q<=1000):Calls Tryz.prog 52 #[.pointer (some ⟨D,0,none⟩),.int .i64 q] W fun e X=>∃r:Nat,(r:Int)<q/\e=.returned (.int .i64 r)/\DW w D u X/\Onl D W X:=
 (next_any W D u q h.ds h1 (by omega)).mono fun _ _ ⟨r,hr,he,hd,ho⟩=>⟨r,hr,he,h.onl hd ho,ho⟩
theorem DW.row {v:Value} {n s:Nat} {e:TypeId} {xs:List Value} (h:DW w D u W) (ho:W.ownsRow w.heap.size e s v n xs) (hx:Onl D W X):X.ownsRow w.heap.size e s v n xs:=onl_row ho hx h.hD
end
theorem zP2 {P:Program} {W:World} {news:Array Value} {ops:Array Oper} {rest:List Oper} {o:Oper} {a:Act} {Q:Exit->Act->World->Prop} {s x:Operand} {t e:TypeId} {z v:Value} {base size bytes n:Nat} {xs:List Value} {a':Value->Act}
  (hinfo:(P.info? e).map (fun i=>(i.zero,i.size,i.bytes))=some (some z,size,bytes)) (ht:P.underlying t=some (.slice e)) (hown:W.ownsRow base e size v n xs) (hn:n<=100000) (hbase:base<=W.heap.size)
  (h:∀v' w',w'.ownsRow base e size v' (n+2) (xs++news.toList)->Below base W w'->wpList P ops Q rest (a' v') w')
  (hgd:o.guard=none:=by rfl) (ho:o.op=.call {callee:=.builtin .append,args:=#[s,x],argTypes:=#[t,t]}:=by rfl) (hs:a.eval s=v:=by rfl) (hx:a.eval x=.slice (some ⟨W.heap.size,0,none⟩) 2 2:=by rfl)
  (hl:news.size=2*size:=by rfl) (hzs:z.cells.size=size:=by rfl) (hsz:0<size:=by decide) (hby:bytes<=1000:=by decide) (h1:∀u∈news.toList,u.oneCell'=true:=by (simp<;>(repeat' constructor)))
  (ha:∀v,a.put o.dst v=a' v:=by (intro v;rfl)):wpList P ops Q (o::rest) a (W.alloc (.cells news e)):=
 wpList_push W news hgd s x t ho base e z size bytes 2 ht hinfo hzs hsz v n xs hs hown hx hl h1 (by unfold maxLen;omega) (Nat.le_trans (Nat.mul_le_mul (show n+2<=100002 by omega) hby) (by decide)) hbase (fun v' w' h2 h3=>by rw[ha];exact h v' w' h2 h3)
theorem own_one (w:World) (n:Nd) (base:Nat) (h:base<=w.heap.size):(w.alloc (.cells n.cells.toArray 49)).ownsRow base 49 5 (.slice (some ⟨w.heap.size,0,none⟩) 1 1) [n].length (nds [n]):=by
 refine⟨rfl,.inr ⟨w.heap.size,1,n.cells.toArray,rfl,h,?_,Nat.le_refl _,by decide,rfl,rfl⟩⟩;show (Array.push _ _)[w.heap.size]?=_;simp
theorem wconst_any (sg:List Sg) (K D u:Nat) (m d:Int) (w:World) (hd:DS w D u) (hu:u<=w.heap.size) (ht:TyN K m d):
  Calls Tryz.prog 181 #[.pointer (some ⟨D,0,none⟩),.agg #[.bool false,.int .i64 m,.int .i64 d]] w (NdRet (TK sg false m d K) D u w):=by
 obtain⟨W,hW⟩:=zE (w.alloc (.cells #[.bool false,.int .i64 m,.int .i64 d] 34));have hba:Below w.heap.size w W:=by rw[hW];exact zB _ _
 have hk0:Blk W w.heap.size 34 [.bool false,.int .i64 m,.int .i64 d]:=by rw[hW];exact Blk.new w _ _
 have hDB:=hd.lt;have hd0:=hd.below hba;have ho0:Onl D w W:=Onl.of_below hba;have hsz:u<=W.heap.size:=Nat.le_trans hu hba.size;obtain⟨B,hB⟩:=zE w.heap.size;have HB:=zH hB;rw[<-hB] at hba hk0 hDB hu;have hBD:B≠D:=by omega
 clear hd hba;go_enter Tryz.func181,Tryz.ntmps181;go_wp2_with fail;simp only[<-hW,<-hB]
 clear hW hB;refine (wratio_any D u (-8) _ hd0 hsz (.inl rfl)).mono ?_;rintro e w1 ⟨r,rfl,hz,_,hd1,ho1⟩;have hk1:=ho1.blk hk0 hBD;have ho1:=ho0.trans ho1;clear hk0 ho0 hd0 hsz;obtain⟨rn,ru,rd⟩:=r;unfold Ra.v
 go_upto_region 2 with fail
 have hy:=(Blk.new w1 43 #[.bool rn,.string ru,.string rd]).cells;have hk2:=hk1.alloc (.cells #[.bool rn,.string ru,.string rd] 43);have hb2:Below w1.heap.size w1 (w1.alloc (.cells #[.bool rn,.string ru,.string rd] 43)):=(Below.refl _ _).alloc (Nat.le_refl _) _;have hd2:=hd1.below hb2;have ho2:=ho1.trans (Onl.of_below hb2);generalize w1.alloc (.cells #[.bool rn,.string ru,.string rd] 43)=w2 at*;generalize w1.heap.size=C at*;have hc:=hk2.cells;have HD2:=zH hd2;have HK2:=zH hk2;have HO2:=zH ho2;have HBD:=zH hBD;have HZ:=zH hz;have HU:=zH hu;have HDB:=zH hDB;clear hk1 hd1 ho1 hb2 hk2 hd2 ho2 hz hBD hDB hu;rcases ht with⟨hk,⟨rfl,rfl⟩|⟨rfl,rfl⟩|⟨rfl,rfl⟩⟩|⟨hk,rfl,rfl⟩
 ·go_wp2;refine bodyPost_ret (v:=.slice (some ⟨w2.heap.size,0,none⟩) 1 1) (by simp[results,Tryz.results181,go_sem]) rfl ⟨_,[⟨1,⟨rn,ru,rd⟩,⟨#[]⟩⟩],rfl,⟨TE.lit (by omega) HZ.out rfl,hk⟩,own_one _ _ _ HO2.out.size,HD2.out.below (zB _ _),HO2.out.trans (Onl.of_below (zB _ _))⟩
 ·go_wp2;refine bodyPost_ret (v:=.slice (some ⟨w2.heap.size,0,none⟩) 1 1) (by simp[results,Tryz.results181,go_sem]) rfl ⟨_,[⟨2,⟨rn,ru,rd⟩,⟨#[]⟩⟩],rfl,⟨TE.lit (by omega) HZ.out rfl,hk⟩,own_one _ _ _ HO2.out.size,HD2.out.below (zB _ _),HO2.out.trans (Onl.of_below (zB _ _))⟩
 ·go_upto_region 8 with fail
  have HW:=zH (own_one w2 ⟨3,⟨rn,ru,rd⟩,⟨#[]⟩⟩ w.heap.size HO2.out.size);have hb:Below w2.heap.size w2 (w2.alloc (.cells #[.int .i64 3,.bool rn,.string ru,.string rd,.string ⟨#[]⟩] 49)):=(Below.refl _ _).alloc (Nat.le_refl _) _;have hk3:=HK2.out.alloc (.cells #[.int .i64 3,.bool rn,.string ru,.string rd,.string ⟨#[]⟩] 49);have HD3:=zH (HD2.out.below hb);have HO3:=zH (HO2.out.trans (Onl.of_below hb));have HW':Hid ((w2.alloc (.cells #[.int .i64 3,.bool rn,.string ru,.string rd,.string ⟨#[]⟩] 49)).ownsRow w.heap.size 49 5 (.slice (some ⟨w2.heap.size,0,none⟩) 1 1) 1 (nds [⟨3,⟨rn,ru,rd⟩,⟨#[]⟩⟩])):=HW;clear HW hb hc hy;generalize w2.alloc (.cells #[.int .i64 3,.bool rn,.string ru,.string rd,.string ⟨#[]⟩] 49)=w3 at*;generalize w2.heap.size=E at*;have hc:=hk3.cells;clear hk3
  go_upto_region 10 with fail
  refine wp_loop_once ?_;go_wp2;refine bodyPost_ret (v:=.slice (some ⟨E,0,none⟩) 1 1) (by simp[results,Tryz.results181,go_sem]) rfl ⟨_,[⟨3,⟨rn,ru,rd⟩,⟨#[]⟩⟩],rfl,⟨TE.lit (by omega) HZ.out rfl,hk⟩,HW'.out,HD3.out,HO3.out⟩
 ·go_upto_region 8 with fail
  have HW:=zH (own_one w2 ⟨3,⟨rn,ru,rd⟩,⟨#[]⟩⟩ w.heap.size HO2.out.size);have hb:Below w2.heap.size w2 (w2.alloc (.cells #[.int .i64 3,.bool rn,.string ru,.string rd,.string ⟨#[]⟩] 49)):=(Below.refl _ _).alloc (Nat.le_refl _) _;have hk3:=HK2.out.alloc (.cells #[.int .i64 3,.bool rn,.string ru,.string rd,.string ⟨#[]⟩] 49);have HD3:=zH (HD2.out.below hb);have HO3:=zH (HO2.out.trans (Onl.of_below hb));have HW':Hid ((w2.alloc (.cells #[.int .i64 3,.bool rn,.string ru,.string rd,.string ⟨#[]⟩] 49)).ownsRow w.heap.size 49 5 (.slice (some ⟨w2.heap.size,0,none⟩) 1 1) 1 (nds [⟨3,⟨rn,ru,rd⟩,⟨#[]⟩⟩])):=HW;clear HW hb hc hy;generalize w2.alloc (.cells #[.int .i64 3,.bool rn,.string ru,.string rd,.string ⟨#[]⟩] 49)=w3 at*;generalize w2.heap.size=E at*;have hc:=hk3.cells;clear hk3
  go_upto_region 10 with fail
  have h0:DW w D u w3:=⟨HD3.out,HO3.out,by rw[<-HB.out];exact HDB.out,by rw[<-HB.out];exact HU.out⟩
  go_loopg [6,7,8] 2 (fun g ov mv dv wr=>∃(j:Nat) (m d:Int) (ns:List Nd),j+g=2/\mv=.int .i64 m/\dv=.int .i64 d/\((j=0/\m=1/\d= -1)∨(j=1/\m=0/\d= -1)∨(j=2/\m=0/\d=0))/\ns.length=2*j+1/\Hid (TE sg ⟨false,1-m,-1-d⟩ ns)/\wr.ownsRow w.heap.size 49 5 ov (2*j+1) (nds ns)/\DW w D u wr)
  case atStart=>exact⟨0,1,-1,[⟨3,⟨rn,ru,rd⟩,⟨#[]⟩⟩],by omega,rfl,rfl,.inl ⟨rfl,rfl,rfl⟩,rfl,TE.lit (by omega) HZ.out rfl,HW'.out,h0⟩
  case round=>
   clear HZ HW' HD3 HO3 h0 hc;obtain⟨j,m,d,ns,hj,rfl,rfl,hc,hl,HT,ho,h⟩:=hrel;rcases hc with⟨rfl,rfl,rfl⟩|⟨rfl,rfl,rfl⟩|⟨rfl,rfl,rfl⟩
   ·go_wp2_with fail;refine (h.next 3 (by omega) (by omega)).mono ?_;rintro e w4 ⟨r,hr,rfl,h',hx⟩;replace ho:=h.row ho hx;clear h hx;have hw:IntKind.i64.wrap (1+(r:Int))=1+(r:Int):=IntWalk.i64_in _ (by omega);go_wp2_with fail;refine (sOf_any (1+(r:Int)) w4 (by omega) (by omega)).mono ?_;rintro e w5 ⟨rfl,hb⟩;replace ho:=own_below ho hb;have h:=h'.below hb
    have HF:Hid (fitsR (ofI (1+(r:Int)))=true):=by
     show _=_;rcases (by omega:r=0∨r=1∨r=2) with rfl|rfl|rfl<;>decide+kernel
    clear hb h' hr hw;generalize ofI (1+(r:Int))=va at*;obtain⟨an,au,ad⟩:=va;unfold Ra.v
    have HT2:Hid (TE sg ⟨false,1-0,-1- -1⟩ (ns++[⟨1,⟨an,au,ad⟩,nE⟩,⟨11,zR,nE⟩])):=by
     have h9:=TE.two (n:=⟨11,zR,nE⟩) (t:=⟨false,1-0,-1- -1⟩) HT.out (TE.lit (op:=1) (by omega) HF.out rfl) (wr_op (by omega)) rfl (of_rule rfl rfl);rw[show ([ns,[(⟨1,⟨an,au,ad⟩,nE⟩:Nd)]].flatten++[(⟨11,zR,nE⟩:Nd)])=ns++[⟨1,⟨an,au,ad⟩,nE⟩,⟨11,zR,nE⟩] by simp] at h9;exact h9
    clear HT HF;go_wp2_with (at_builtin;go_must (refine zP2 info_node Tryz.underlying40 ho (by omega) h.on.size ?_));intro v' w6 ho hb;replace h:=h.low hb;go_wp2
    go_roundg 1
    case measure=>omega
    case rel=>exact⟨1,0,-1,_,by omega,by go_num,by go_num,by omega,by simp[hl],HT2,by rw[nds_append];exact ho,h⟩
   ·go_wp2_with fail;refine (h.next 3 (by omega) (by omega)).mono ?_;rintro e w4 ⟨r,hr,rfl,h',hx⟩;replace ho:=h.row ho hx;clear h hx;have hw:IntKind.i64.wrap (1+(r:Int))=1+(r:Int):=IntWalk.i64_in _ (by omega);go_wp2_with fail;refine (sOf_any (1+(r:Int)) w4 (by omega) (by omega)).mono ?_;rintro e w5 ⟨rfl,hb⟩;replace ho:=own_below ho hb;have h:=h'.below hb
    have HF:Hid (fitsR (ofI (1+(r:Int)))=true):=by
     show _=_;rcases (by omega:r=0∨r=1∨r=2) with rfl|rfl|rfl<;>decide+kernel
    clear hb h' hr hw;generalize ofI (1+(r:Int))=va at*;obtain⟨an,au,ad⟩:=va;unfold Ra.v
    have HT2:Hid (TE sg ⟨false,1-0,-1-0⟩ (ns++[⟨2,⟨an,au,ad⟩,nE⟩,⟨12,zR,nE⟩])):=by
     have h9:=TE.two (n:=⟨12,zR,nE⟩) (t:=⟨false,1-0,-1-0⟩) HT.out (TE.lit (op:=2) (by omega) HF.out rfl) (wr_op (by omega)) rfl (of_rule rfl rfl);rw[show ([ns,[(⟨2,⟨an,au,ad⟩,nE⟩:Nd)]].flatten++[(⟨12,zR,nE⟩:Nd)])=ns++[⟨2,⟨an,au,ad⟩,nE⟩,⟨12,zR,nE⟩] by simp] at h9;exact h9
    clear HT HF;go_wp2_with (at_builtin;go_must (refine zP2 info_node Tryz.underlying40 ho (by omega) h.on.size ?_));intro v' w6 ho hb;replace h:=h.low hb;go_wp2
    go_roundg 0
    case measure=>omega
    case rel=>exact⟨2,0,0,_,by omega,by go_num,by go_num,by omega,by simp[hl],HT2,by rw[nds_append];exact ho,h⟩
   ·go_wp2;go_ret;exact⟨_,ns,rfl,⟨show TE sg ⟨false,1-0,-1-0⟩ ns from HT.out,by omega⟩,by rw[hl];exact ho,h.ds,h.on⟩
end Go.Proofs.YtimokmplkpbmdaaGreatDoor
