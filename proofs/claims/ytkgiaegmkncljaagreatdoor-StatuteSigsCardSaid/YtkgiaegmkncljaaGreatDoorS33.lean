/- A part of the proof: Y8 Q0 Qc W4 U7 U8 Y3. -/
import Derived.Deep.RegionHeld3
import Derived.Test.YtkgiaegmkncljaaGreatDoorS01
import Derived.Test.YtkgiaegmkncljaaGreatDoorS19
import Derived.Test.YtkgiaegmkncljaaGreatDoorS30
import Derived.Test.YtkgiaegmkncljaaGreatDoorS31
import Derived.Test.YtkgiaegmkncljaaGreatDoorS32
set_option linter.unusedVariables false
set_option linter.unusedSimpArgs false
set_option maxRecDepth 100000
set_option maxHeartbeats 40000000
namespace Go.Proofs.YtkgiaegmkncljaaGreatDoor
open Go.RowKit
theorem tyGo_of (sg:List Sg) (n:Nd) (r:List Nd) (a:List Nat) (ar:List (List Nat)) (ts:List Ty):tyGo sg (n::r) (a::ar) ts=if (ofN sg n (rowT ts a)).2=0 then tyGo sg r ar (ts++[(ofN sg n (rowT ts a)).1]) else ([],(ofN sg n (rowT ts a)).2):=by
 rw[tyGo];unfold ofN;cases ownT sg n with
 |none=>rfl
 |some own=>cases h:(ruleT n.op own (rowT ts a)).2<;>simp[h]
def tyS (sg:List Sg):List Nd→List Ty→Option (List Ty)
 |[],st=>some st
 |n::r,st=>if (ofN sg n (st.take (shp n.op).ops).reverse).2=0 then tyS sg r ((ofN sg n (st.take (shp n.op).ops).reverse).1::st.drop (shp n.op).ops) else none
theorem tyS_append (sg:List Sg):∀(a b:List Nd) (st:List Ty),tyS sg (a++b) st=(tyS sg a st).bind (tyS sg b)
 |[],b,st=>rfl
 |n::r,b,st=>by
  rw[List.cons_append,tyS,tyS];split
  ·exact tyS_append sg r b _
  ·rfl
structure TE (sg:List Sg) (t:Ty) (e:List Nd):Prop where
 c:∀r d,chk (e++r) d=chk r (d+1)
 s:∀st,tyS sg e st=some (t::st)
theorem tyS_one {sg:List Sg} {n:Nd} {st ts:List Ty} {t:Ty} (hl:ts.length=(shp n.op).ops) (h:ofN sg n ts=(t,0)):tyS sg [n] (ts.reverse++st)=some (t::st):=by
 have e:((ts.reverse++st).take (shp n.op).ops).reverse=ts:=by rw[←hl,List.take_left' (by simp),List.reverse_reverse]
 have d:(ts.reverse++st).drop (shp n.op).ops=st:=by rw[←hl];exact List.drop_left' (by simp)
 rw[tyS,e,d,h];rfl
theorem chk_one {n:Nd} (hw:wrongN n=0) (r:List Nd) (d:Nat):chk (n::r) (d+(shp n.op).ops)=chk r (d+1):=by
 rw[chk,if_neg (by simp[hw]),if_neg (by omega)];congr 1;omega
theorem TE.node {sg:List Sg} {n:Nd} {t:Ty}:∀(cs:List (List Nd × Ty)),(∀x∈cs,TE sg x.2 x.1)→(hw:wrongN n=0)→(hl:cs.length=(shp n.op).ops)→ofN sg n (cs.map Prod.snd)=(t,0)→TE sg t ((cs.map Prod.fst).flatten++[n]):=by
 intro cs hc hw hl ho
 have hC:∀(l:List (List Nd × Ty)),(∀x∈l,TE sg x.2 x.1)→∀r d,chk ((l.map Prod.fst).flatten++r) d=chk r (d+l.length):=by
  intro l
  induction l with
  |nil=>intro _ r d;rfl
  |cons x l ih=>
   intro h r d;rw[List.map_cons,List.flatten_cons,List.append_assoc,(h x (by simp)).c,ih (fun y hy=>h y (by simp[hy]))];congr 1;simp;omega
 have hS:∀(l:List (List Nd × Ty)),(∀x∈l,TE sg x.2 x.1)→∀st,tyS sg (l.map Prod.fst).flatten st=some ((l.map Prod.snd).reverse++st):=by
  intro l
  induction l with
  |nil=>intro _ st;rfl
  |cons x l ih=>
   intro h st;rw[List.map_cons,List.flatten_cons,tyS_append,(h x (by simp)).s,Option.bind_some,ih (fun y hy=>h y (by simp[hy]))];simp
 refine⟨fun r d=>?_,fun st=>?_⟩
 ·rw[List.append_assoc,hC cs hc,hl];exact chk_one hw r d
 ·rw[tyS_append,hS cs hc,Option.bind_some];exact tyS_one (by rw[List.length_map,hl]) ho
theorem TE.leaf {sg:List Sg} {n:Nd} {t:Ty} (hw:wrongN n=0) (hl:(shp n.op).ops=0) (ho:ofN sg n []=(t,0)):TE sg t [n]:=TE.node [] (fun _ h=>by cases h) hw hl.symm ho
theorem tyGo_S {sg:List Sg}:∀(e:List Nd) (ts:List Ty) (idx:List Nat) (st':List Ty),(∀x∈idx,x<ts.length)→tyS sg e (idx.map fun k=>ts.getD k tPlain)=some st'→
  ∃ts' idx',tyGo sg e (runA e ts.length idx) ts=(ts',0)∧st'=idx'.map (fun k=>ts'.getD k tPlain)∧(e≠[]→∃r,idx'=(ts'.length-1)::r)∧(e=[]→idx'=idx∧ts'=ts)
 |[],ts,idx,st',_,h=>⟨ts,idx,rfl,(Option.some.inj h).symm,fun h=>absurd rfl h,fun _=>⟨rfl,rfl⟩⟩
 |n::r,ts,idx,st',hx,h=>by
  have er:rowT ts ((idx.take (shp n.op).ops).reverse)=((idx.map fun k=>ts.getD k tPlain).take (shp n.op).ops).reverse:=by simp[rowT,List.map_reverse,List.map_take]
  rw[runA,tyGo_of,er];rw[tyS] at h;split at h
  ·next h0=>
   rw[if_pos h0];generalize (ofN sg n ((idx.map fun k=>ts.getD k tPlain).take (shp n.op).ops).reverse).1=T at h⊢
   have em:((ts.length::idx.drop (shp n.op).ops).map fun k=>(ts++[T]).getD k tPlain)=T::(idx.map fun k=>ts.getD k tPlain).drop (shp n.op).ops:=by
    rw[List.map_cons,←List.map_drop];congr 1
    ·simp[List.getD_eq_getElem?_getD]
    ·refine List.map_congr_left fun k hk=>?_
     have hk:=hx k (List.mem_of_mem_drop hk);simp only[List.getD_eq_getElem?_getD]
     rw[List.getElem?_append_left hk]
   have hl:(ts++[T]).length=ts.length+1:=by simp
   obtain⟨ts',idx',a1,a2,a3,a4⟩:=tyGo_S r (ts++[T]) (ts.length::idx.drop (shp n.op).ops) st' (fun x h=>by
    rw[hl];rcases List.mem_cons.1 h with rfl|h
    ·omega
    ·have:=hx x (List.mem_of_mem_drop h);omega) (by rw[em];exact h)
   rw[hl] at a1;refine⟨ts',idx',a1,a2,fun _=>?_,fun h=>by cases h⟩;by_cases hr:r=[]
   ·obtain⟨b1,b2⟩:=a4 hr;exact⟨_,by rw[b1,b2,hl,Nat.add_sub_cancel]⟩
   ·exact a3 hr
  ·cases h
theorem TE.ne {sg:List Sg} {t:Ty} {e:List Nd} (h:TE sg t e):e≠[]:=by
 rintro rfl;have:=h.s [];cases this
theorem TE.chk {sg:List Sg} {t:Ty} {e:List Nd} (h:TE sg t e) (h60:e.length≤60):checkE e=0:=by
 have k:=h.c [] 0;rw[List.append_nil] at k;unfold checkE;rw[if_neg (by omega),k];rfl
theorem TE.type {sg:List Sg} {t:Ty} {e:List Nd} (h:TE sg t e) (h60:e.length≤60):typeE sg e=(t,0):=by
 obtain⟨ts',idx',a1,a2,a3,_⟩:=tyGo_S e [] [] [t] (fun x h=>by cases h) (h.s []);obtain⟨r,rfl⟩:=a3 h.ne;have e1:typesE sg e=(ts',0):=by unfold typesE argsE;rw[if_pos (h.chk h60)];exact a1
 have e2:ts'.getD (ts'.length-1) tPlain=t:=by injection a2 with a2 _;exact a2.symm
 unfold typeE;simp only[e1,if_true]
 rw[e2]
def nE:ByteArray:=⟨#[]⟩
theorem wr_op {op:Int} (h:9≤op∧op≤20):wrongN ⟨op,zR,nE⟩=0:=by
 rcases (by omega:op=9∨op=10∨op=11∨op=12∨op=13∨op=14∨op=15∨op=16∨op=17∨op=18∨op=19∨op=20) with rfl|rfl|rfl|rfl|rfl|rfl|rfl|rfl|rfl|rfl|rfl|rfl<;>decide
theorem wr_lit {op:Int} {x:Ra} (h:1≤op∧op≤3) (hx:fitsR x=true):wrongN ⟨op,x,nE⟩=0:=by
 rcases (by omega:op=1∨op=2∨op=3) with rfl|rfl|rfl<;>(unfold wrongN numOk;simp[hx,nE,shp,shs,sh0])
theorem wr_tru {x:Ra} (h:x=ofI 0∨x=ofI 1):wrongN ⟨4,x,nE⟩=0:=by
 rcases h with rfl|rfl<;>decide
theorem wr_stp {op:Int} {x:Ra} (h:21≤op∧op≤23) (hx:fitsR x=true) (hp:0<signR x):wrongN ⟨op,x,nE⟩=0:=by
 rcases (by omega:op=21∨op=22∨op=23) with rfl|rfl|rfl<;>(unfold wrongN numOk;simp[hx,hp,nE,shp,shs,sh0])
theorem wr_nam {op:Int} {s:ByteArray} (h:sigB op=true) (hs:nameOk s=true):wrongN ⟨op,zR,s⟩=0:=by
 unfold sigB at h;rw[Bool.or_eq_true,decide_eq_true_eq,decide_eq_true_eq] at h;unfold nameOk at hs;rcases (by omega:op=5∨op=6∨op=7∨op=8∨op=24) with rfl|rfl|rfl|rfl|rfl<;>(unfold wrongN numOk;simp[hs,shp,shs,sh0])
section
variable {sg:List Sg} {t:Ty} {a b c:List Nd}
theorem of_rule {n:Nd} {l:List Ty} (h:sigB n.op=false) (hr:ruleT n.op tPlain l=(t,true)):ofN sg n l=(t,0):=by
 unfold ofN ownT;simp only[h,Bool.false_eq_true,if_false,hr,if_true]
theorem of_sig {n:Nd} {l:List Ty} {own:Ty} (h:sigB n.op=true) (hs:sigOf sg n=some own) (hr:ruleT n.op own l=(t,true)):ofN sg n l=(t,0):=by
 unfold ofN ownT;simp only[h,if_true,hs,hr]
theorem TE.lit {op:Int} {x:Ra} (h:1≤op∧op≤3) (hx:fitsR x=true) (ht:t=if op=1 then tCash else if op=2 then tDays else tPlain):TE sg t [⟨op,x,nE⟩]:=by
 subst ht;refine TE.leaf (wr_lit h hx) ?_ (of_rule ?_ ?_)
 all_goals rcases (by omega:op=1∨op=2∨op=3) with rfl|rfl|rfl<;>rfl
theorem TE.tru {x:Ra} (h:x=ofI 0∨x=ofI 1):TE sg tTruth [⟨4,x,nE⟩]:=TE.leaf (wr_tru h) rfl (of_rule rfl rfl)
theorem TE.nam {op:Int} {s:ByteArray} (h:5≤op∧op≤8) (hs:nameOk s=true) (hg:sigOf sg ⟨op,zR,s⟩=some t):TE sg t [⟨op,zR,s⟩]:=by
 have hB:sigB op=true:=by unfold sigB;rw[decide_eq_true h,Bool.true_or]
 refine TE.leaf (wr_nam hB hs) ?_ (of_sig hB hg ?_)
 all_goals rcases (by omega:op=5∨op=6∨op=7∨op=8) with rfl|rfl|rfl|rfl<;>rfl
theorem TE.one {n:Nd} {u:Ty} (ha:TE sg u a) (hw:wrongN n=0) (hl:(shp n.op).ops=1) (ho:ofN sg n [u]=(t,0)):TE sg t ([a].flatten++[n]):=
 TE.node [(a,u)] (fun x h=>by obtain rfl:=List.mem_singleton.1 h;exact ha) hw hl.symm ho
theorem TE.two {n:Nd} {u v:Ty} (ha:TE sg u a) (hb:TE sg v b) (hw:wrongN n=0) (hl:(shp n.op).ops=2) (ho:ofN sg n [u,v]=(t,0)):TE sg t ([a,b].flatten++[n]):=
 TE.node [(a,u),(b,v)] (fun x h=>by
  rcases List.mem_cons.1 h with rfl|h
  ·exact ha
  ·obtain rfl:=List.mem_singleton.1 h;exact hb) hw hl.symm ho
theorem TE.three {n:Nd} {u v w:Ty} (ha:TE sg u a) (hb:TE sg v b) (hc:TE sg w c) (hw:wrongN n=0) (hl:(shp n.op).ops=3) (ho:ofN sg n [u,v,w]=(t,0)):TE sg t ([a,b,c].flatten++[n]):=
 TE.node [(a,u),(b,v),(c,w)] (fun x h=>by
  rcases List.mem_cons.1 h with rfl|h
  ·exact ha
  ·rcases List.mem_cons.1 h with rfl|h
   ·exact hb
   ·obtain rfl:=List.mem_singleton.1 h;exact hc) hw hl.symm ho
theorem TE.sum {op:Int} (h:op=9∨op=10∨op=13∨op=14) (ht:t.truth=false) (ha:TE sg t a) (hb:TE sg t b):TE sg t ([a,b].flatten++[⟨op,zR,nE⟩]):=by
 refine TE.two ha hb (wr_op (by omega)) ?_ (of_rule ?_ ?_)
 all_goals rcases h with rfl|rfl|rfl|rfl<;>simp[ruleT,tA,tB,ht,shp,shs,sh0,sigB]
theorem TE.mul {op:Int} (h:op=11∨op=12) (ht:t.truth=false) (hu:unitB t.money t.days=true) (ha:TE sg t a) (hb:TE sg tPlain b):TE sg t ([a,b].flatten++[⟨op,zR,nE⟩]):=by
 obtain⟨tr,m,d⟩:=t;simp only at ht hu;subst ht;refine TE.two ha hb (wr_op (by omega)) ?_ (of_rule ?_ ?_)
 all_goals rcases h with rfl|rfl<;>simp[ruleT,tA,tB,tPlain,hu,shp,shs,sh0,sigB]
theorem TE.cond (ha:TE sg tTruth a) (hb:TE sg t b) (hc:TE sg t c):TE sg t ([a,b,c].flatten++[⟨15,zR,nE⟩]):=by
 refine TE.three ha hb hc (wr_op (by omega)) rfl (of_rule rfl ?_);simp[ruleT,tA,tB,tC]
theorem TE.cmp {op:Int} {u:Ty} (h:op=16∨op=17) (ht:u.truth=false) (ha:TE sg u a) (hb:TE sg u b):TE sg tTruth ([a,b].flatten++[⟨op,zR,nE⟩]):=by
 refine TE.two ha hb (wr_op (by omega)) ?_ (of_rule ?_ ?_)
 all_goals rcases h with rfl|rfl<;>simp[ruleT,tA,tB,ht,shp,shs,sh0,sigB]
theorem TE.and {op:Int} (h:op=18∨op=19) (ha:TE sg tTruth a) (hb:TE sg tTruth b):TE sg tTruth ([a,b].flatten++[⟨op,zR,nE⟩]):=by
 refine TE.two ha hb (wr_op (by omega)) ?_ (of_rule ?_ ?_)
 all_goals rcases h with rfl|rfl<;>rfl
theorem TE.not (ha:TE sg tTruth a):TE sg tTruth ([a].flatten++[⟨20,zR,nE⟩]):=TE.one ha (wr_op (by omega)) rfl (of_rule rfl rfl)
theorem TE.stp {op:Int} {x:Ra} (h:21≤op∧op≤23) (hx:fitsR x=true) (hp:0<signR x) (ht:t.truth=false) (ha:TE sg t a):TE sg t ([a].flatten++[⟨op,x,nE⟩]):=by
 refine TE.one ha (wr_stp h hx hp) ?_ (of_rule ?_ ?_)
 all_goals rcases (by omega:op=21∨op=22∨op=23) with rfl|rfl|rfl<;>simp[ruleT,tA,ht,shp,shs,sh0,sigB]
theorem TE.rate {s:ByteArray} (hs:nameOk s=true) (hg:sigOf sg ⟨24,zR,s⟩=some t) (ha:TE sg t a):TE sg t ([a].flatten++[⟨24,zR,s⟩]):=by
 refine TE.one ha (wr_nam rfl hs) rfl (of_sig rfl hg ?_);simp[ruleT,tA]
end
def TyN (K:Nat) (m d:Int):Prop:=(1≤K∧((m=1∧d=0)∨(m=0∧d=1)∨(m=0∧d=0)))∨(5≤K∧m=1∧d= -1)
def TyK (K:Nat) (t:Bool) (m d:Int):Prop:=(1≤K∧t=true∧m=0∧d=0)∨(t=false∧TyN K m d)
section
variable {K L:Nat} {t:Bool} {m d:Int}
theorem TyK.plain:TyK 1 false 0 0:=.inr ⟨rfl,.inl ⟨Nat.le_refl _,.inr (.inr ⟨rfl,rfl⟩)⟩⟩
theorem TyK.truth:TyK 1 true 0 0:=.inl ⟨Nat.le_refl _,rfl,rfl,rfl⟩
theorem TyK.mono (h:TyK K t m d) (hL:K≤L):TyK L t m d:=
 h.imp (fun h=>⟨Nat.le_trans h.1 hL,h.2⟩) (fun h=>⟨h.1,h.2.imp (fun h=>⟨Nat.le_trans h.1 hL,h.2⟩) (fun h=>⟨Nat.le_trans h.1 hL,h.2⟩)⟩)
theorem TyK.one (h:TyK K t m d):1≤K:=by
 rcases h with h|⟨_,h|h⟩
 ·exact h.1
 ·exact h.1
 ·omega
theorem TyK.num (h:TyK K false m d):TyN K m d:=by
 rcases h with h|h
 ·cases h.2.1
 ·exact h.2
theorem TyK.tru (h:TyK K true m d):m=0∧d=0:=by
 rcases h with h|h
 ·exact h.2.2
 ·cases h.1
theorem TyK.unit (h:TyK K false m d):unitB m d=true:=by
 rcases h.num with⟨_,⟨rfl,rfl⟩|⟨rfl,rfl⟩|⟨rfl,rfl⟩⟩|⟨_,rfl,rfl⟩<;>decide
end
def TK (sg:List Sg) (t:Bool) (m d:Int) (K:Nat) (ns:List Nd):Prop:=TE sg ⟨t,m,d⟩ ns∧ns.length≤K
def NdRet (P:List Nd→Prop) (D u:Nat) (w:World) (e:Ending) (w':World):Prop:=∃v ns,e=.returned v∧P ns∧w'.ownsRow w.heap.size 59 5 v ns.length (nds ns)∧DS w' D u∧Onl D w w'
theorem own_new (w:World) (cs:Array Value) (t:TypeId) (s m B:Nat) (hs:cs.size=m*s) (hm:m≤1000) (h:B≤w.heap.size):(w.alloc (.cells cs t)).ownsRow B t s (.slice (some ⟨w.heap.size,0,none⟩) m m) m cs.toList:=by
 refine⟨by simp[hs],.inr ⟨w.heap.size,m,cs,rfl,h,?_,Nat.le_refl _,by unfold maxLen;omega,hs,by rw[List.take_of_length_le (by simp[hs])]⟩⟩;show (Array.push _ _)[w.heap.size]?=_;simp
theorem own_newX {w W:World} {cs:Array Value} {t:TypeId} (hW:w.alloc (.cells cs t)=W) (s m B:Nat) (hs:cs.size=m*s) (hm:m≤1000) (h:B≤w.heap.size):W.ownsRow B t s (.slice (some ⟨w.heap.size,0,none⟩) m m) m cs.toList:=hW ▸ own_new w cs t s m B hs hm h
theorem onl_row {D B n s:Nat} {e:TypeId} {w w':World} {v:Value} {xs:List Value} (h:w.ownsRow B e s v n xs) (ho:Onl D w w') (hD:D<B):w'.ownsRow B e s v n xs:=by
 refine h.kept ho.grown (.inr (fun hh=>?_));have:=(h.lt _ hh).1;omega
theorem DS.belowU {w w':World} {D u B:Nat} (h:DS w D u) (hb:Below B w w') (hu:u≤B):DS w' D u:=by
 obtain⟨A,n,c,L,k,h,hl,ha⟩:=h;refine⟨A,n,c,L,k,⟨h.blk.below hb (by omega),h.len,h.max,?_,h.rng,h.ne,h.le⟩,hl,ha⟩;rcases h.rd with h0|⟨b',off',e,hb',hc⟩
 ·exact .inl h0
 ·by_cases hL:L=[]
  ·exact .inl (by rw[hL];rfl)
  ·subst e;refine .inr ⟨b',off',rfl,Nat.lt_of_lt_of_le hb' hb.size,fun i hi=>?_⟩;rw[←hc i hi];exact World.cell?_of_block (hb.block b' (by have:b'<u:=ha hL _ rfl;omega))
structure DW (w:World) (D u:Nat) (W:World):Prop where
 ds:DS W D u
 on:Onl D w W
 hD:D<w.heap.size
 hu:u≤w.heap.size
section
variable {w W X:World} {D u:Nat}
theorem DW.onl (h:DW w D u W) (hd:DS X D u) (ho:Onl D W X):DW w D u X:=⟨hd,h.on.trans ho,h.hD,h.hu⟩
theorem DW.below (h:DW w D u W) (hb:Below W.heap.size W X):DW w D u X:=h.onl (h.ds.below hb) (Onl.of_below hb)
theorem DW.low (h:DW w D u W) (hb:Below w.heap.size W X):DW w D u X:=⟨h.ds.belowU hb h.hu,h.on.more hb,h.hD,h.hu⟩
theorem DW.next (h:DW w D u W) (q:Int) (h1:1≤q) (h2:q≤1000):Calls Tryz.prog 71 #[.pointer (some ⟨D,0,none⟩),.int .i64 q] W fun e X=>∃r:Nat,(r:Int)<q∧e=.returned (.int .i64 r)∧DW w D u X∧Onl D W X:=
 (next_any W D u q h.ds h1 (by omega)).mono fun _ _ ⟨r,hr,he,hd,ho⟩=>⟨r,hr,he,h.onl hd ho,ho⟩
theorem DW.row {v:Value} {n s:Nat} {e:TypeId} {xs:List Value} (h:DW w D u W) (ho:W.ownsRow w.heap.size e s v n xs) (hx:Onl D W X):X.ownsRow w.heap.size e s v n xs:=onl_row ho hx h.hD
end
theorem zP2 {P:Program} {W:World} {news:Array Value} {ops:Array Oper} {rest:List Oper} {o:Oper} {a:Act} {Q:Exit→Act→World→Prop} {s x:Operand} {t e:TypeId} {z v:Value} {base size bytes n:Nat} {xs:List Value} {a':Value→Act}
  (hinfo:(P.info? e).map (fun i=>(i.zero,i.size,i.bytes))=some (some z,size,bytes)) (ht:P.underlying t=some (.slice e)) (hown:W.ownsRow base e size v n xs) (hn:n≤100000) (hbase:base≤W.heap.size)
  (h:∀v' w',w'.ownsRow base e size v' (n+2) (xs++news.toList)→Below base W w'→wpList P ops Q rest (a' v') w')
  (hgd:o.guard=none:=by rfl) (ho:o.op=.call {callee:=.builtin .append,args:=#[s,x],argTypes:=#[t,t]}:=by rfl) (hs:a.eval s=v:=by rfl) (hx:a.eval x=.slice (some ⟨W.heap.size,0,none⟩) 2 2:=by rfl)
  (hl:news.size=2*size:=by rfl) (hzs:z.cells.size=size:=by rfl) (hsz:0<size:=by decide) (hby:bytes≤1000:=by decide) (h1:∀u∈news.toList,u.oneCell'=true:=by (simp<;>(repeat' constructor)))
  (ha:∀v,a.put o.dst v=a' v:=by (intro v;rfl)):wpList P ops Q (o::rest) a (W.alloc (.cells news e)):=
 wpList_push W news hgd s x t ho base e z size bytes 2 ht hinfo hzs hsz v n xs hs hown hx hl h1 (by unfold maxLen;omega) (Nat.le_trans (Nat.mul_le_mul (show n+2≤100002 by omega) hby) (by decide)) hbase (fun v' w' h2 h3=>by rw[ha];exact h v' w' h2 h3)
theorem own_one (w:World) (n:Nd) (base:Nat) (h:base≤w.heap.size):(w.alloc (.cells n.cells.toArray 59)).ownsRow base 59 5 (.slice (some ⟨w.heap.size,0,none⟩) 1 1) [n].length (nds [n]):=by
 refine⟨rfl,.inr ⟨w.heap.size,1,n.cells.toArray,rfl,h,?_,Nat.le_refl _,by decide,rfl,rfl⟩⟩;show (Array.push _ _)[w.heap.size]?=_;simp
theorem wconst_any (sg:List Sg) (K D u:Nat) (m d:Int) (w:World) (hd:DS w D u) (hu:u≤w.heap.size) (ht:TyN K m d):
  Calls Tryz.prog 153 #[.pointer (some ⟨D,0,none⟩),.agg #[.bool false,.int .i64 m,.int .i64 d]] w (NdRet (TK sg false m d K) D u w):=by
 obtain⟨W,hW⟩:=zE (w.alloc (.cells #[.bool false,.int .i64 m,.int .i64 d] 37));have hba:Below w.heap.size w W:=by rw[hW];exact zB _ _
 have hk0:Blk W w.heap.size 37 [.bool false,.int .i64 m,.int .i64 d]:=by rw[hW];exact Blk.new w _ _
 have hDB:=hd.lt;have hd0:=hd.below hba;have ho0:Onl D w W:=Onl.of_below hba;have hsz:u≤W.heap.size:=Nat.le_trans hu hba.size;obtain⟨B,hB⟩:=zE w.heap.size;have HB:=zH hB;rw[←hB] at hba hk0 hDB hu;have hBD:B≠D:=by omega
 clear hd hba;go_enter Tryz.func153,Tryz.ntmps153;go_wp2_with fail;simp only[←hW,←hB]
 clear hW hB;refine (wratio_any D u (-8) _ hd0 hsz (.inl rfl)).mono ?_;rintro e w1 ⟨r,rfl,hz,_,hd1,ho1⟩;have hk1:=ho1.blk hk0 hBD;have ho1:=ho0.trans ho1;clear hk0 ho0 hd0 hsz;obtain⟨rn,ru,rd⟩:=r;unfold Ra.v
 go_upto_region 2 with fail
 have hy:=(Blk.new w1 44 #[.bool rn,.string ru,.string rd]).cells;have hk2:=hk1.alloc (.cells #[.bool rn,.string ru,.string rd] 44);have hb2:Below w1.heap.size w1 (w1.alloc (.cells #[.bool rn,.string ru,.string rd] 44)):=(Below.refl _ _).alloc (Nat.le_refl _) _;have hd2:=hd1.below hb2;have ho2:=ho1.trans (Onl.of_below hb2);generalize w1.alloc (.cells #[.bool rn,.string ru,.string rd] 44)=w2 at*;generalize w1.heap.size=C at*;have hc:=hk2.cells;have HD2:=zH hd2;have HK2:=zH hk2;have HO2:=zH ho2;have HBD:=zH hBD;have HZ:=zH hz;have HU:=zH hu;have HDB:=zH hDB;clear hk1 hd1 ho1 hb2 hk2 hd2 ho2 hz hBD hDB hu;rcases ht with⟨hk,⟨rfl,rfl⟩|⟨rfl,rfl⟩|⟨rfl,rfl⟩⟩|⟨hk,rfl,rfl⟩
 ·go_wp2;refine bodyPost_ret (v:=.slice (some ⟨w2.heap.size,0,none⟩) 1 1) (by simp[results,Tryz.results153,go_sem]) rfl ⟨_,[⟨1,⟨rn,ru,rd⟩,⟨#[]⟩⟩],rfl,⟨TE.lit (by omega) HZ.out rfl,hk⟩,own_one _ _ _ HO2.out.size,HD2.out.below (zB _ _),HO2.out.trans (Onl.of_below (zB _ _))⟩
 ·go_wp2;refine bodyPost_ret (v:=.slice (some ⟨w2.heap.size,0,none⟩) 1 1) (by simp[results,Tryz.results153,go_sem]) rfl ⟨_,[⟨2,⟨rn,ru,rd⟩,⟨#[]⟩⟩],rfl,⟨TE.lit (by omega) HZ.out rfl,hk⟩,own_one _ _ _ HO2.out.size,HD2.out.below (zB _ _),HO2.out.trans (Onl.of_below (zB _ _))⟩
 ·go_upto_region 8 with fail
  have HW:=zH (own_one w2 ⟨3,⟨rn,ru,rd⟩,⟨#[]⟩⟩ w.heap.size HO2.out.size);have hb:Below w2.heap.size w2 (w2.alloc (.cells #[.int .i64 3,.bool rn,.string ru,.string rd,.string ⟨#[]⟩] 59)):=(Below.refl _ _).alloc (Nat.le_refl _) _;have hk3:=HK2.out.alloc (.cells #[.int .i64 3,.bool rn,.string ru,.string rd,.string ⟨#[]⟩] 59);have HD3:=zH (HD2.out.below hb);have HO3:=zH (HO2.out.trans (Onl.of_below hb));have HW':Hid ((w2.alloc (.cells #[.int .i64 3,.bool rn,.string ru,.string rd,.string ⟨#[]⟩] 59)).ownsRow w.heap.size 59 5 (.slice (some ⟨w2.heap.size,0,none⟩) 1 1) 1 (nds [⟨3,⟨rn,ru,rd⟩,⟨#[]⟩⟩])):=HW;clear HW hb hc hy;generalize w2.alloc (.cells #[.int .i64 3,.bool rn,.string ru,.string rd,.string ⟨#[]⟩] 59)=w3 at*;generalize w2.heap.size=E at*;have hc:=hk3.cells;clear hk3
  go_upto_region 10 with fail
  refine wp_loop_once ?_;go_wp2;refine bodyPost_ret (v:=.slice (some ⟨E,0,none⟩) 1 1) (by simp[results,Tryz.results153,go_sem]) rfl ⟨_,[⟨3,⟨rn,ru,rd⟩,⟨#[]⟩⟩],rfl,⟨TE.lit (by omega) HZ.out rfl,hk⟩,HW'.out,HD3.out,HO3.out⟩
 ·go_upto_region 8 with fail
  have HW:=zH (own_one w2 ⟨3,⟨rn,ru,rd⟩,⟨#[]⟩⟩ w.heap.size HO2.out.size);have hb:Below w2.heap.size w2 (w2.alloc (.cells #[.int .i64 3,.bool rn,.string ru,.string rd,.string ⟨#[]⟩] 59)):=(Below.refl _ _).alloc (Nat.le_refl _) _;have hk3:=HK2.out.alloc (.cells #[.int .i64 3,.bool rn,.string ru,.string rd,.string ⟨#[]⟩] 59);have HD3:=zH (HD2.out.below hb);have HO3:=zH (HO2.out.trans (Onl.of_below hb));have HW':Hid ((w2.alloc (.cells #[.int .i64 3,.bool rn,.string ru,.string rd,.string ⟨#[]⟩] 59)).ownsRow w.heap.size 59 5 (.slice (some ⟨w2.heap.size,0,none⟩) 1 1) 1 (nds [⟨3,⟨rn,ru,rd⟩,⟨#[]⟩⟩])):=HW;clear HW hb hc hy;generalize w2.alloc (.cells #[.int .i64 3,.bool rn,.string ru,.string rd,.string ⟨#[]⟩] 59)=w3 at*;generalize w2.heap.size=E at*;have hc:=hk3.cells;clear hk3
  go_upto_region 10 with fail
  have h0:DW w D u w3:=⟨HD3.out,HO3.out,by rw[←HB.out];exact HDB.out,by rw[←HB.out];exact HU.out⟩
  go_loopg [6,7,8] 2 (fun g ov mv dv wr=>∃(j:Nat) (m d:Int) (ns:List Nd),j+g=2∧mv=.int .i64 m∧dv=.int .i64 d∧((j=0∧m=1∧d= -1)∨(j=1∧m=0∧d= -1)∨(j=2∧m=0∧d=0))∧ns.length=2*j+1∧Hid (TE sg ⟨false,1-m,-1-d⟩ ns)∧wr.ownsRow w.heap.size 59 5 ov (2*j+1) (nds ns)∧DW w D u wr)
  case atStart=>exact⟨0,1,-1,[⟨3,⟨rn,ru,rd⟩,⟨#[]⟩⟩],by omega,rfl,rfl,.inl ⟨rfl,rfl,rfl⟩,rfl,TE.lit (by omega) HZ.out rfl,HW'.out,h0⟩
  case round=>
   clear HZ HW' HD3 HO3 h0 hc;obtain⟨j,m,d,ns,hj,rfl,rfl,hc,hl,HT,ho,h⟩:=hrel;rcases hc with⟨rfl,rfl,rfl⟩|⟨rfl,rfl,rfl⟩|⟨rfl,rfl,rfl⟩
   ·go_wp2_with fail;refine (h.next 3 (by omega) (by omega)).mono ?_;rintro e w4 ⟨r,hr,rfl,h',hx⟩;replace ho:=h.row ho hx;clear h hx;have hw:IntKind.i64.wrap (1+(r:Int))=1+(r:Int):=IntWalk.i64_in _ (by omega);go_wp2_with fail;refine (sOf_any (1+(r:Int)) w4 (by omega) (by omega)).mono ?_;rintro e w5 ⟨rfl,hb⟩;replace ho:=own_below ho hb;have h:=h'.below hb
    have HF:Hid (fitsR (ofI (1+(r:Int)))=true):=by
     show _=_;rcases (by omega:r=0∨r=1∨r=2) with rfl|rfl|rfl<;>decide+kernel
    clear hb h' hr hw;generalize ofI (1+(r:Int))=va at*;obtain⟨an,au,ad⟩:=va;unfold Ra.v
    have HT2:Hid (TE sg ⟨false,1-0,-1- -1⟩ (ns++[⟨1,⟨an,au,ad⟩,nE⟩,⟨11,zR,nE⟩])):=by
     have h9:=TE.two (n:=⟨11,zR,nE⟩) (t:=⟨false,1-0,-1- -1⟩) HT.out (TE.lit (op:=1) (by omega) HF.out rfl) (wr_op (by omega)) rfl (of_rule rfl rfl);rw[show ([ns,[(⟨1,⟨an,au,ad⟩,nE⟩:Nd)]].flatten++[(⟨11,zR,nE⟩:Nd)])=ns++[⟨1,⟨an,au,ad⟩,nE⟩,⟨11,zR,nE⟩] by simp] at h9;exact h9
    clear HT HF;go_wp2_with (at_builtin;go_must (refine zP2 info_node Tryz.underlying41 ho (by omega) h.on.size ?_));intro v' w6 ho hb;replace h:=h.low hb;go_wp2
    go_roundg 1
    case measure=>omega
    case rel=>exact⟨1,0,-1,_,by omega,by go_num,by go_num,by omega,by simp[hl],HT2,by rw[nds_append];exact ho,h⟩
   ·go_wp2_with fail;refine (h.next 3 (by omega) (by omega)).mono ?_;rintro e w4 ⟨r,hr,rfl,h',hx⟩;replace ho:=h.row ho hx;clear h hx;have hw:IntKind.i64.wrap (1+(r:Int))=1+(r:Int):=IntWalk.i64_in _ (by omega);go_wp2_with fail;refine (sOf_any (1+(r:Int)) w4 (by omega) (by omega)).mono ?_;rintro e w5 ⟨rfl,hb⟩;replace ho:=own_below ho hb;have h:=h'.below hb
    have HF:Hid (fitsR (ofI (1+(r:Int)))=true):=by
     show _=_;rcases (by omega:r=0∨r=1∨r=2) with rfl|rfl|rfl<;>decide+kernel
    clear hb h' hr hw;generalize ofI (1+(r:Int))=va at*;obtain⟨an,au,ad⟩:=va;unfold Ra.v
    have HT2:Hid (TE sg ⟨false,1-0,-1-0⟩ (ns++[⟨2,⟨an,au,ad⟩,nE⟩,⟨12,zR,nE⟩])):=by
     have h9:=TE.two (n:=⟨12,zR,nE⟩) (t:=⟨false,1-0,-1-0⟩) HT.out (TE.lit (op:=2) (by omega) HF.out rfl) (wr_op (by omega)) rfl (of_rule rfl rfl);rw[show ([ns,[(⟨2,⟨an,au,ad⟩,nE⟩:Nd)]].flatten++[(⟨12,zR,nE⟩:Nd)])=ns++[⟨2,⟨an,au,ad⟩,nE⟩,⟨12,zR,nE⟩] by simp] at h9;exact h9
    clear HT HF;go_wp2_with (at_builtin;go_must (refine zP2 info_node Tryz.underlying41 ho (by omega) h.on.size ?_));intro v' w6 ho hb;replace h:=h.low hb;go_wp2
    go_roundg 0
    case measure=>omega
    case rel=>exact⟨2,0,0,_,by omega,by go_num,by go_num,by omega,by simp[hl],HT2,by rw[nds_append];exact ho,h⟩
   ·go_wp2;go_ret;exact⟨_,ns,rfl,⟨show TE sg ⟨false,1-0,-1-0⟩ ns from HT.out,by omega⟩,by rw[hl];exact ho,h.ds,h.on⟩
theorem fits_size {a:Ra} (h:fitsR a=true):okR a=true∧a.num.size≤50∧a.den.size≤50:=by
 unfold fitsR at h;simp only[Bool.and_eq_true,decide_eq_true_eq] at h;obtain⟨⟨h1,h2⟩,h3⟩:=h;obtain⟨p1,p2,p3,p4⟩:=okR_prts h1
 have key:∀L n,bitsN n≤8*L→n<256 ^ L:=fun L n hn=>by
  unfold bitsN at hn;rw[show (256:Nat)=2 ^ 8 from rfl,←Nat.pow_mul];split at hn
  ·next h0=>rw[h0];exact Nat.pow_pos (by omega)
  ·next h0=>exact (Nat.log2_lt h0 (k:=8*L)).1 (by omega)
 refine⟨h1,?_,?_⟩
 ·rw[←nb_ok p3];exact nbs_size_le _ 50 (key 50 _ h2)
 ·rw[←nb_ok p1];exact nbs_size_le _ 50 (key 50 _ h3)
theorem sign_pos {a:Ra} (h:0<signR a):a.num≠⟨#[]⟩:=by
 intro e;unfold signR at h;split at h
 ·next h1=>
  split at h
  ·cases h
  ·next h2=>
   split at h
   ·cases h
   ·next h3=>
    obtain⟨p1,p2,p3,p4⟩:=okR_prts h1;refine h2 ?_;rw[←p4,e];unfold low ofI;have e0:vbs ⟨#[]⟩=0:=rfl;rw[e0,Nat.gcd_zero_left,Nat.zero_div,Nat.div_self p2];simp
 ·cases h
theorem fld_den (x:Bool) (y z:ByteArray) (w:World):(Instr.field 44 (.agg #[.bool x,.string y,.string z]) 2).run Tryz.prog w=.ok (.string z) w:=by kernel_rfl
theorem uPlain_any (x:Pv × Hd) (w:World):Calls Tryz.prog 99 #[.agg (pvCells x).toArray] w fun e w'=>e=.returned (.bool (plainP x.1))∧Below w.heap.size w w':=by
 have HP:Hid (plainP x.1=(decide (x.1.step=zR)&&decide (x.1.cap=zR))):=rfl;rw[HP.out];have HE1:=fun W=>eql_ra x.1.step zR W
 have HE2:=fun W=>eql_ra x.1.cap zR W
 generalize decide (x.1.step=zR)=a at*;generalize decide (x.1.cap=zR)=b at*;clear HP;obtain⟨⟨nm,⟨tt,tm,td⟩,ch,⟨sn1,sn2,sn3⟩,⟨cn1,cn2,cn3⟩,bo⟩,⟨ha,hn,hcc⟩⟩:=x;unfold pvCells;simp only[Ra.v,zR] at HE1 HE2⊢;obtain⟨W,hW⟩:=zE (w.alloc (.cells #[.string nm,.bool tt,.int .i64 tm,.int .i64 td,.slice ha hn hcc,.bool ch,.bool sn1,.string sn2,.string sn3,.bool cn1,.string cn2,.string cn3] 46));obtain⟨B,hB⟩:=zE w.heap.size;have HK:Hid (Blk W B 46 [.string nm,.bool tt,.int .i64 tm,.int .i64 td,.slice ha hn hcc,.bool ch,.bool sn1,.string sn2,.string sn3,.bool cn1,.string cn2,.string cn3]):=by show Blk _ _ _ _;rw[hW,hB];exact Blk.new w _ _
 have HBA:Hid (Below w.heap.size w W):=by show Below _ _ _;rw[hW];exact zB _ _
 have hkc:=HK.out.cells;cases a
 ·skip
  go_enter Tryz.func99,Tryz.ntmps99
  go_upto_region 1 with fail
  simp only[←hW,←hB]
  clear hW hB;go_wp2;go_ret;exact⟨by simp,HBA.out⟩
 ·skip
  go_enter Tryz.func99,Tryz.ntmps99
  go_upto_region 1 with fail
  simp only[←hW,←hB]
  clear hW hB;go_wp2;go_ret;exact⟨by simp,HBA.out⟩
theorem uCapped_any (x:Pv × Hd) (w:World) (hs:FineR x.1.step) (hc:FineR x.1.cap):Calls Tryz.prog 100 #[.agg (pvCells x).toArray] w fun e w'=>e=.returned (.bool (cappedP x.1))∧Below w.heap.size w w':=by
 obtain⟨s1,s2⟩:=hs;obtain⟨c1,c2⟩:=hc;have HP:Hid (cappedP x.1=(!x.1.ty.truth&&(fitsR x.1.step&&(fitsR x.1.cap&&(decide (0<signR x.1.step)&&(decide ((quoR x.1.cap x.1.step).1.den=(ofI 1).den)&&(decide (0<signR (quoR x.1.cap x.1.step).1)&&decide (cmpR (quoR x.1.cap x.1.step).1 (ofI 200)≤0)))))))):=rfl;rw[HP.out];have HF1:=zH (fun W=>mFits_any x.1.step W (by omega) (by omega));have HF2:=zH (fun W=>mFits_any x.1.cap W (by omega) (by omega));have HS1:=zH (fun W=>qSign_any x.1.step W (by omega) (by omega));have HZ1:=zH (fun h:fitsR x.1.step=true=>fits_size h);have HZ2:=zH (fun h:fitsR x.1.cap=true=>fits_size h)
 have HQ:Hid (∀W,fitsR x.1.step=true→fitsR x.1.cap=true→0<signR x.1.step→Calls Tryz.prog 163 #[x.1.cap.v,x.1.step.v] W fun e w'=>e=.returned (.tuple #[(quoR x.1.cap x.1.step).1.v,.bool true])∧Below W.heap.size W w'):=fun W h1 h2 h3=>by
  obtain⟨p1,p2,p3⟩:=HZ1.out h1;obtain⟨q1,q2,q3⟩:=HZ2.out h2;exact qQuo_ok x.1.cap x.1.step W q1 p1 (sign_pos h3) 50 (by omega) q2 q3 p2 p3
 have HQZ:Hid (fitsR x.1.step=true→fitsR x.1.cap=true→0<signR x.1.step→okR (quoR x.1.cap x.1.step).1=true∧(quoR x.1.cap x.1.step).1.num.size≤100∧(quoR x.1.cap x.1.step).1.den.size≤100):=fun h1 h2 h3=>by
  obtain⟨p1,p2,p3⟩:=HZ1.out h1;obtain⟨q1,q2,q3⟩:=HZ2.out h2;have hz:=quoR_size x.1.cap x.1.step 50 q2 q3 p2 p3;refine⟨?_,hz.1,hz.2⟩;unfold quoR;rw[if_neg (sign_pos h3)];refine low_okR _ _ _ (Nat.mul_pos (okR_prts q1).2.1 ?_);exact vbs_pos (okR_prts p1).2.2.1 (sign_pos h3)
 have HO1:=zH (fun W=>qOf_any 1 W (by omega) (by omega));have HO2:=zH (fun W=>qOf_any 200 W (by omega) (by omega));generalize quoR x.1.cap x.1.step=q at*;obtain⟨⟨qn,qm,qd⟩,qb⟩:=q;simp only at HQ HQZ⊢;generalize fitsR x.1.step=f1 at*;generalize fitsR x.1.cap=f2 at*;generalize signR x.1.step=sg at*;clear HP HZ1 HZ2 s1 s2 c1 c2;obtain⟨⟨nm,⟨tt,tm,td⟩,ch,⟨sn1,sn2,sn3⟩,⟨cn1,cn2,cn3⟩,bo⟩,⟨ha,hn,hcc⟩⟩:=x;unfold pvCells;simp only[Ra.v] at HF1 HF2 HS1 HQ⊢;obtain⟨W,hW⟩:=zE (w.alloc (.cells #[.string nm,.bool tt,.int .i64 tm,.int .i64 td,.slice ha hn hcc,.bool ch,.bool sn1,.string sn2,.string sn3,.bool cn1,.string cn2,.string cn3] 46));obtain⟨B,hB⟩:=zE w.heap.size;have HK:Hid (Blk W B 46 [.string nm,.bool tt,.int .i64 tm,.int .i64 td,.slice ha hn hcc,.bool ch,.bool sn1,.string sn2,.string sn3,.bool cn1,.string cn2,.string cn3]):=by show Blk _ _ _ _;rw[hW,hB];exact Blk.new w _ _
 have HBA:Hid (Below w.heap.size w W):=by show Below _ _ _;rw[hW];exact zB _ _
 have hkc:=HK.out.cells;cases tt
 ·cases f1
  ·skip
   go_enter Tryz.func100,Tryz.ntmps100
   go_upto_region 1 with fail
   simp only[←hW,←hB]
   clear hW hB;go_wp2_with fail;refine (HF1.out W).mono ?_;rintro e w5 ⟨rfl,hb5⟩;have HB5:=zH (bstep HBA.out hb5);clear hb5;go_wp2;go_ret;exact⟨by simp,HB5.out⟩
  cases f2
  ·skip
   go_enter Tryz.func100,Tryz.ntmps100
   go_upto_region 1 with fail
   simp only[←hW,←hB]
   clear hW hB;go_wp2_with fail;refine (HF1.out W).mono ?_;rintro e w5 ⟨rfl,hb5⟩;have HB5:=zH (bstep HBA.out hb5);have HK5:=zH (HK.out.below hb5 HK.out.lt);have hk5:=HK5.out.cells;clear hb5;go_wp2_with fail;refine (HF2.out w5).mono ?_;rintro e w6 ⟨rfl,hb6⟩;have HB6:=zH (bstep HB5.out hb6);clear hb6;go_wp2;go_ret;exact⟨by simp,HB6.out⟩
  by_cases hsg:0<sg
  ·have hsn:decide (sg≤0)=false:=decide_eq_false (by omega);have hdp:decide (0<sg)=true:=decide_eq_true hsg;rw[hdp];obtain⟨z1,z2,z3⟩:=HQZ.out rfl rfl hsg;have HQ2:=zH (fun W=>HQ.out W rfl rfl hsg);have HSG:=zH (fun W=>qSign_any ⟨qn,qm,qd⟩ W (Nat.le_trans z2 (by omega)) (Nat.le_trans z3 (by omega)));have HCM:=zH (fun W=>qCmp_ok ⟨qn,qm,qd⟩ (ofI 200) W z1 (by decide) 100 (by omega) z2 z3 (by decide) (by decide));simp only[Ra.v] at HSG HCM;generalize signR ⟨qn,qm,qd⟩=sq at*;generalize cmpR ⟨qn,qm,qd⟩ (ofI 200)=cq at*;obtain⟨dq,hdq⟩:=zF ((qd.toList==(nbs 1).toList));have hdd:decide (qd=(ofI 1).den)=dq:=by rw[←hdq,beq_toList];rfl
   rw[hdd];clear hdd;have hfd:=fld_den;clear hsg z1 z2 z3 HQ HQZ hdp;go_enter Tryz.func100,Tryz.ntmps100
   go_upto_region 1 with fail
   simp only[←hW,←hB]
   clear hW hB;go_wp2_with fail;refine (HF1.out W).mono ?_;rintro e w5 ⟨rfl,hb5⟩;have HB5:=zH (bstep HBA.out hb5);have HK5:=zH (HK.out.below hb5 HK.out.lt);have hk5:=HK5.out.cells;clear hb5;go_wp2_with fail;refine (HF2.out w5).mono ?_;rintro e w6 ⟨rfl,hb6⟩;have HB6:=zH (bstep HB5.out hb6);have HK6:=zH (HK5.out.below hb6 HK5.out.lt);have hk6:=HK6.out.cells;clear hb6;go_wp2_with fail;refine (HS1.out w6).mono ?_;rintro e w8 ⟨rfl,hb8⟩;have HB8:=zH (bstep HB6.out hb8);have HK8:=zH (HK6.out.below hb8 HK6.out.lt);have hk8:=HK8.out.cells;clear hb8;go_wp2_with fail;refine (HQ2.out w8).mono ?_;rintro e w9 ⟨rfl,hb9⟩;have HB9:=zH (bstep HB8.out hb9);clear hb9
   go_upto_region 4 with fail
   obtain⟨w7,hw7⟩:∃x,x=w9.alloc (.cells #[.bool qn,.string qm,.string qd] 44):=⟨_,rfl⟩
   obtain⟨N,hN⟩:=zE w9.heap.size;have HKN:Hid (Blk w7 N 44 [.bool qn,.string qm,.string qd]):=by show Blk _ _ _ _;rw[hw7,hN];exact Blk.new _ _ _
   have HB7:Hid (Below w.heap.size w w7):=by show Below _ _ _;rw[hw7];exact bstep HB9.out (zB _ _)
   simp only[←hw7,←hN]
   clear hw7 hN hkc hk5 hk6 hk8
   have HSS:Hid (∀W,Below w7.heap.size w7 W→Below w7.heap.size w7 W∧W.cell? ⟨N,0,none⟩=some (.bool qn)∧W.cell? ⟨N,1,none⟩=some (.string qm)∧W.cell? ⟨N,2,none⟩=some (.string qd)):=fun W hb=>
    ⟨hb,(hb.cell HKN.out.lt).trans (HKN.out.cells 0),(hb.cell HKN.out.lt).trans (HKN.out.cells 1),(hb.cell HKN.out.lt).trans (HKN.out.cells 2)⟩
   cases dq
   ·skip
    refine wp_region_noPanic ?_;refine wp_region_held_drew (S:=(fun w'=>Below w7.heap.size w7 w'∧w'.cell? ⟨N,0,none⟩=some (.bool qn)∧w'.cell? ⟨N,1,none⟩=some (.string qm)∧w'.cell? ⟨N,2,none⟩=some (.string qd))) (by kernel_rfl) (HSS.out _ (drewN_below w7.heap.size w7 1)) (fun hHeld=>?_);refine tkZ 0 ?_;refine tkZ 1 ?_;refine tkR 2 fun K hK=>?_
    go_simp;have hbS:=hHeld.1;refine (HO1.out _).mono ?_;rintro e w10 ⟨rfl,hb10⟩;simp only[Ra.v,ofI]
    have HBT:=zH (bstep hbS hb10);go_wp2_with fail;refine tkK hK (HSS.out _ HBT.out) fun hHeld=>?_
    clear hK K;refine tkZ 3 ?_;refine tkY 4 (.bool false) rfl ?_ ?_
    ·intro w hSw;(try dsimp only at hSw);go_simp
     all_goals with_reducible rfl
    try simp only[Act.put,tk1,tk2,tk3,tk4,tk5,tk6]
    refine tkZ 5 ?_;refine tkN 6 rfl ?_
    try simp only[Act.put,tk1,tk2,tk3,tk4,tk5,tk6]
    refine tkN 7 rfl ?_
    try simp only[Act.put,tk1,tk2,tk3,tk4,tk5,tk6]
    refine tkN 8 rfl ?_
    try simp only[Act.put,tk1,tk2,tk3,tk4,tk5,tk6]
    refine tkZ 9 ?_;refine tkZ 10 ?_;refine tkN 11 rfl ?_
    try simp only[Act.put,tk1,tk2,tk3,tk4,tk5,tk6]
    refine tkN 12 rfl ?_
    try simp only[Act.put,tk1,tk2,tk3,tk4,tk5,tk6]
    refine tkN 13 rfl ?_
    try simp only[Act.put,tk1,tk2,tk3,tk4,tk5,tk6]
    refine tkN 14 rfl ?_
    try simp only[Act.put,tk1,tk2,tk3,tk4,tk5,tk6]
    refine tkZ 15 ?_;refine tkZ 16 ?_;refine wpAnyH_done (by kernel_rfl) ?_ _;refine NoPanic.normal ?_;go_wp2;go_ret;exact⟨by simp,bstep HB7.out HBT.out⟩
   by_cases hsq:0<sq
   ·have hsqd:decide (0<sq)=true:=decide_eq_true hsq;by_cases hcq:cq≤0
    ·have hcqd:decide (cq≤0)=true:=decide_eq_true hcq;refine wp_region_noPanic ?_;refine wp_region_held_drew (S:=(fun w'=>Below w7.heap.size w7 w'∧w'.cell? ⟨N,0,none⟩=some (.bool qn)∧w'.cell? ⟨N,1,none⟩=some (.string qm)∧w'.cell? ⟨N,2,none⟩=some (.string qd))) (by kernel_rfl) (HSS.out _ (drewN_below w7.heap.size w7 1)) (fun hHeld=>?_);refine tkZ 0 ?_;refine tkZ 1 ?_;refine tkR 2 fun K hK=>?_
     go_simp;have hbS:=hHeld.1;refine (HO1.out _).mono ?_;rintro e w10 ⟨rfl,hb10⟩;simp only[Ra.v,ofI]
     have HBT:=zH (bstep hbS hb10);go_wp2_with fail;refine tkK hK (HSS.out _ HBT.out) fun hHeld=>?_
     clear hK K;refine tkZ 3 ?_;refine tkY 4 (.bool true) rfl ?_ ?_
     ·intro w hSw;(try dsimp only at hSw);go_simp
      all_goals with_reducible rfl
     try simp only[Act.put,tk1,tk2,tk3,tk4,tk5,tk6]
     refine tkZ 5 ?_;refine tkZ 6 ?_;refine tkR 7 fun K hK=>?_
     go_simp;have hbS:=hHeld.1;refine (HSG.out _).mono ?_;rintro e w10 ⟨rfl,hb10⟩;simp only[Ra.v,ofI]
     have HBT:=zH (bstep hbS hb10);go_wp2_with fail;refine tkK hK (HSS.out _ HBT.out) fun hHeld=>?_
     clear hK K;refine tkZ 8 ?_;refine tkZ 9 ?_;refine tkZ 10 ?_;refine tkZ 11 ?_;refine tkR 12 fun K hK=>?_
     go_simp;have hbS:=hHeld.1;refine (HO2.out _).mono ?_;rintro e w10 ⟨rfl,hb10⟩;simp only[Ra.v,ofI]
     have HBT:=zH (bstep hbS hb10);go_wp2_with fail;refine tkK hK (HSS.out _ HBT.out) fun hHeld=>?_
     clear hK K;refine tkR 13 fun K hK=>?_
     go_simp;have hbS:=hHeld.1;refine (HCM.out _).mono ?_;rintro e w10 ⟨rfl,hb10⟩;simp only[Ra.v,ofI]
     have HBT:=zH (bstep hbS hb10);go_wp2_with fail;refine tkK hK (HSS.out _ HBT.out) fun hHeld=>?_
     clear hK K;refine tkZ 14 ?_;refine tkZ 15 ?_;refine tkZ 16 ?_;refine wpAnyH_done (by kernel_rfl) ?_ _;refine NoPanic.normal ?_;go_wp2;go_ret;exact⟨by simp[hsqd,hcqd],bstep HB7.out HBT.out⟩
    ·have hcqd:decide (cq≤0)=false:=decide_eq_false hcq;refine wp_region_noPanic ?_;refine wp_region_held_drew (S:=(fun w'=>Below w7.heap.size w7 w'∧w'.cell? ⟨N,0,none⟩=some (.bool qn)∧w'.cell? ⟨N,1,none⟩=some (.string qm)∧w'.cell? ⟨N,2,none⟩=some (.string qd))) (by kernel_rfl) (HSS.out _ (drewN_below w7.heap.size w7 1)) (fun hHeld=>?_);refine tkZ 0 ?_;refine tkZ 1 ?_;refine tkR 2 fun K hK=>?_
     go_simp;have hbS:=hHeld.1;refine (HO1.out _).mono ?_;rintro e w10 ⟨rfl,hb10⟩;simp only[Ra.v,ofI]
     have HBT:=zH (bstep hbS hb10);go_wp2_with fail;refine tkK hK (HSS.out _ HBT.out) fun hHeld=>?_
     clear hK K;refine tkZ 3 ?_;refine tkY 4 (.bool true) rfl ?_ ?_
     ·intro w hSw;(try dsimp only at hSw);go_simp
      all_goals with_reducible rfl
     try simp only[Act.put,tk1,tk2,tk3,tk4,tk5,tk6]
     refine tkZ 5 ?_;refine tkZ 6 ?_;refine tkR 7 fun K hK=>?_
     go_simp;have hbS:=hHeld.1;refine (HSG.out _).mono ?_;rintro e w10 ⟨rfl,hb10⟩;simp only[Ra.v,ofI]
     have HBT:=zH (bstep hbS hb10);go_wp2_with fail;refine tkK hK (HSS.out _ HBT.out) fun hHeld=>?_
     clear hK K;refine tkZ 8 ?_;refine tkZ 9 ?_;refine tkZ 10 ?_;refine tkZ 11 ?_;refine tkR 12 fun K hK=>?_
     go_simp;have hbS:=hHeld.1;refine (HO2.out _).mono ?_;rintro e w10 ⟨rfl,hb10⟩;simp only[Ra.v,ofI]
     have HBT:=zH (bstep hbS hb10);go_wp2_with fail;refine tkK hK (HSS.out _ HBT.out) fun hHeld=>?_
     clear hK K;refine tkR 13 fun K hK=>?_
     go_simp;have hbS:=hHeld.1;refine (HCM.out _).mono ?_;rintro e w10 ⟨rfl,hb10⟩;simp only[Ra.v,ofI]
     have HBT:=zH (bstep hbS hb10);go_wp2_with fail;refine tkK hK (HSS.out _ HBT.out) fun hHeld=>?_
     clear hK K;refine tkZ 14 ?_;refine tkZ 15 ?_;refine tkZ 16 ?_;refine wpAnyH_done (by kernel_rfl) ?_ _;refine NoPanic.normal ?_;go_wp2;go_ret;exact⟨by simp[hsqd,hcqd],bstep HB7.out HBT.out⟩
   ·have hsqd:decide (0<sq)=false:=decide_eq_false hsq;refine wp_region_noPanic ?_;refine wp_region_held_drew (S:=(fun w'=>Below w7.heap.size w7 w'∧w'.cell? ⟨N,0,none⟩=some (.bool qn)∧w'.cell? ⟨N,1,none⟩=some (.string qm)∧w'.cell? ⟨N,2,none⟩=some (.string qd))) (by kernel_rfl) (HSS.out _ (drewN_below w7.heap.size w7 1)) (fun hHeld=>?_);refine tkZ 0 ?_;refine tkZ 1 ?_;refine tkR 2 fun K hK=>?_
    go_simp;have hbS:=hHeld.1;refine (HO1.out _).mono ?_;rintro e w10 ⟨rfl,hb10⟩;simp only[Ra.v,ofI]
    have HBT:=zH (bstep hbS hb10);go_wp2_with fail;refine tkK hK (HSS.out _ HBT.out) fun hHeld=>?_
    clear hK K;refine tkZ 3 ?_;refine tkY 4 (.bool true) rfl ?_ ?_
    ·intro w hSw;(try dsimp only at hSw);go_simp
     all_goals with_reducible rfl
    try simp only[Act.put,tk1,tk2,tk3,tk4,tk5,tk6]
    refine tkZ 5 ?_;refine tkZ 6 ?_;refine tkR 7 fun K hK=>?_
    go_simp;have hbS:=hHeld.1;refine (HSG.out _).mono ?_;rintro e w10 ⟨rfl,hb10⟩;simp only[Ra.v,ofI]
    have HBT:=zH (bstep hbS hb10);go_wp2_with fail;refine tkK hK (HSS.out _ HBT.out) fun hHeld=>?_
    clear hK K;refine tkZ 8 ?_;refine tkZ 9 ?_;refine tkZ 10 ?_;refine tkN 11 rfl ?_
    try simp only[Act.put,tk1,tk2,tk3,tk4,tk5,tk6]
    refine tkN 12 rfl ?_
    try simp only[Act.put,tk1,tk2,tk3,tk4,tk5,tk6]
    refine tkN 13 rfl ?_
    try simp only[Act.put,tk1,tk2,tk3,tk4,tk5,tk6]
    refine tkN 14 rfl ?_
    try simp only[Act.put,tk1,tk2,tk3,tk4,tk5,tk6]
    refine tkZ 15 ?_;refine tkZ 16 ?_;refine wpAnyH_done (by kernel_rfl) ?_ _;refine NoPanic.normal ?_;go_wp2;go_ret;exact⟨by simp[hsqd],bstep HB7.out HBT.out⟩
  ·have hsn:decide (sg≤0)=true:=decide_eq_true (by omega);have hdp:decide (0<sg)=false:=decide_eq_false hsg;rw[hdp];go_enter Tryz.func100,Tryz.ntmps100
   go_upto_region 1 with fail
   simp only[←hW,←hB]
   clear hW hB;go_wp2_with fail;refine (HF1.out W).mono ?_;rintro e w5 ⟨rfl,hb5⟩;have HB5:=zH (bstep HBA.out hb5);have HK5:=zH (HK.out.below hb5 HK.out.lt);have hk5:=HK5.out.cells;clear hb5;go_wp2_with fail;refine (HF2.out w5).mono ?_;rintro e w6 ⟨rfl,hb6⟩;have HB6:=zH (bstep HB5.out hb6);have HK6:=zH (HK5.out.below hb6 HK5.out.lt);have hk6:=HK6.out.cells;clear hb6;go_wp2_with fail;refine (HS1.out w6).mono ?_;rintro e w8 ⟨rfl,hb8⟩;have HB8:=zH (bstep HB6.out hb8);clear hb8;go_wp2;go_ret;exact⟨by simp,HB8.out⟩
 ·skip
  go_enter Tryz.func100,Tryz.ntmps100
  go_upto_region 1 with fail
  simp only[←hW,←hB]
  clear hW hB;go_wp2;go_ret;exact⟨by simp,HBA.out⟩
theorem uProvision_any (sg:List Sg) (x:Pv × Hd) (A1:Option Addr) (k1 c1:Nat) (w:World) (hL:LaidK w) (hk1:k1=sg.length) (hm1:k1≤maxLen) (hr1:Rd w A1 (sgs sg)) (hb:RowAt w Nd.cells x.1.body x.2) (hs:FineR x.1.step) (hc:FineR x.1.cap) (hf:∀n∈x.1.body,Fine n):
  Calls Tryz.prog 41 #[.slice A1 k1 c1,.agg (pvCells x).toArray] w fun e w'=>e=.returned (.int .i64 (provE sg x.1))∧Below w.heap.size w w':=by
 have HT:=zH (fun W (h:Below w.heap.size w W)=>kType_any sg x.1.body A1 x.2.a k1 c1 x.2.n x.2.c W (hL.below h) hk1 hm1 (hr1.below h) ⟨(hb.below h).len,(hb.below h).cap,(hb.below h).max,(hb.below h).rd⟩ hf);have HPL:=zH (fun W=>uPlain_any x W);have HCP:=zH (fun W=>uCapped_any x W hs hc);have HL:Hid (∀W,Below w.heap.size w W→LaidK W):=fun W hb=>hL.below hb
 have HV1:Hid ((typeE sg x.1.body).2≠0→provE sg x.1=(typeE sg x.1.body).2):=fun h=>by unfold provE;rw[if_pos h]
 have HV2:Hid ((typeE sg x.1.body).2=0→decide ((typeE sg x.1.body).1=x.1.ty)=false→provE sg x.1=13):=fun h h2=>by unfold provE;rw[if_neg (by rw[h];simp),if_pos (of_decide_eq_false h2)]
 have HV3:Hid ((typeE sg x.1.body).2=0→decide ((typeE sg x.1.body).1=x.1.ty)=true→provE sg x.1=if (x.1.charge&& !decide ((typeE sg x.1.body).1=tCash))||(!plainP x.1&& !cappedP x.1) then 1 else 0):=fun h h2=>by
  have e:=of_decide_eq_true h2;unfold provE;rw[if_neg (by rw[h];simp),if_neg (by rw[e];simp),e];congr 3;rw[decide_not]
 have HNE:=fun W=>neq_ty (typeE sg x.1.body).1 x.1.ty W
 have HNC:=fun W=>neq_ty (typeE sg x.1.body).1 tCash W
 generalize provE sg x.1=R at*;generalize typeE sg x.1.body=te at*;generalize plainP x.1=pl at*;generalize cappedP x.1=cp at*;clear hL hk1 hm1 hr1 hb hs hc hf;obtain⟨te,z⟩:=te;simp only at HT HV1 HV2 HV3 HNE HNC;generalize decide (te=x.1.ty)=q1 at*;generalize decide (te=tCash)=q2 at*;obtain⟨et,em,ed⟩:=te;obtain⟨⟨nm,⟨tt,tm,td⟩,ch,⟨sn1,sn2,sn3⟩,⟨cn1,cn2,cn3⟩,bo⟩,⟨ha,hn,hcc⟩⟩:=x;unfold pvCells at HPL HCP⊢;simp only[Ty.v,tCash] at HT HNE HNC HPL HCP HV3⊢;obtain⟨W,hW⟩:=zE (w.alloc (.cells #[.string nm,.bool tt,.int .i64 tm,.int .i64 td,.slice ha hn hcc,.bool ch,.bool sn1,.string sn2,.string sn3,.bool cn1,.string cn2,.string cn3] 46));obtain⟨B,hB⟩:=zE w.heap.size;have HK:Hid (Blk W B 46 [.string nm,.bool tt,.int .i64 tm,.int .i64 td,.slice ha hn hcc,.bool ch,.bool sn1,.string sn2,.string sn3,.bool cn1,.string cn2,.string cn3]):=by show Blk _ _ _ _;rw[hW,hB];exact Blk.new w _ _
 have HBA:Hid (Below w.heap.size w W):=by show Below _ _ _;rw[hW];exact zB _ _
 have hkc:=HK.out.cells;go_enter Tryz.func41,Tryz.ntmps41
 go_upto_region 1 with fail
 simp only[←hW,←hB]
 clear hW hB;go_wp2_with fail;refine (HT.out W HBA.out).mono ?_;rintro e w5 ⟨rfl,hb5⟩;have HB5:=zH (bstep HBA.out hb5);have HK5:=zH (HK.out.below hb5 HK.out.lt);clear hb5 hkc HT
 go_upto_region 2 with fail
 obtain⟨w6,hw6⟩:∃x,x=w5.alloc (.cells #[.bool et,.int .i64 em,.int .i64 ed] 37):=⟨_,rfl⟩
 obtain⟨N,hN⟩:=zE w5.heap.size;have HKN:Hid (Blk w6 N 37 [.bool et,.int .i64 em,.int .i64 ed]):=by show Blk _ _ _ _;rw[hw6,hN];exact Blk.new _ _ _
 have HK6:Hid (Blk w6 B 46 [.string nm,.bool tt,.int .i64 tm,.int .i64 td,.slice ha hn hcc,.bool ch,.bool sn1,.string sn2,.string sn3,.bool cn1,.string cn2,.string cn3]):=by show Blk _ _ _ _;rw[hw6];exact HK5.out.alloc _
 have HB6:Hid (Below w.heap.size w w6):=by show Below _ _ _;rw[hw6];exact bstep HB5.out (zB _ _)
 simp only[←hw6,←hN]
 clear hw6 hN;have hkn:=HKN.out.cells;have hk6:=HK6.out.cells;have g0:=(HL.out _ HB6.out).scash 0 _ rfl;have g1:=(HL.out _ HB6.out).scash 1 _ rfl;have g2:=(HL.out _ HB6.out).scash 2 _ rfl;unfold tCash at g0 g1 g2;simp only at g0 g1 g2;by_cases hz:z=0
 ·subst hz;cases q1
  ·obtain rfl:R=13:=HV2.out rfl rfl;go_wp2;go_ret;exact⟨rfl,HB6.out⟩
  ·have hv3:=HV3.out rfl rfl;clear HV1 HV2 HV3;by_cases h1:(ch&& !q2)=true
   ·obtain⟨rfl,h2⟩:=Bool.and_eq_true_iff.1 h1;obtain rfl:q2=false:=by simpa using h2
    obtain rfl:R=1:=hv3;clear h1 h2;go_wp2;go_ret;exact⟨rfl,HB6.out⟩
   ·have h1':(ch&& !q2)=false:=by simpa using h1
    rw[h1',Bool.false_or] at hv3;have HV:=zH hv3;clear h1 hv3;have HX:Hid (∀W',Below w.heap.size w W'→True):=fun _ _=>trivial
    go_upto_region 6 with fail
    go_cut [23] from 24 to 30 (fun v wc=>v=.bool false∧wc=w6)
    case first=>
     cases ch
     ·go_wp2
      go_meet
      case rel=>exact⟨rfl,rfl⟩
     ·obtain rfl:q2=true:=by simpa using h1'
      go_wp2
      go_meet
      case rel=>exact⟨rfl,rfl⟩
    case rest=>
     obtain⟨rfl,rfl⟩:=hcut;clear h1';go_wp2_with fail;refine (HPL.out _).mono ?_;rintro e w7 ⟨rfl,hb7⟩;have HB7:=zH (bstep HB6.out hb7);have hk7:=(HK6.out.below hb7 HK6.out.lt).cells;clear hb7;cases pl
     ·go_wp2_with fail;refine (HCP.out _).mono ?_;rintro e w8 ⟨rfl,hb8⟩;have HB8:=zH (bstep HB7.out hb8);clear hb8;cases cp
      ·obtain rfl:R=1:=HV.out;go_wp2;go_ret;exact⟨rfl,HB8.out⟩
      ·obtain rfl:R=0:=HV.out;go_wp2;go_ret;exact⟨rfl,HB8.out⟩
     ·obtain rfl:R=0:=HV.out;go_wp2;go_ret;exact⟨rfl,HB7.out⟩
 ·obtain rfl:R=z:=HV1.out hz;have hzb:(R !=0)=true:=by simp[hz]
  have hzc:(R==0)=false:=by simp[hz]
  clear HV1 HV2 HV3 hz;go_wp2;go_ret;exact⟨rfl,HB6.out⟩
theorem xnumber_any (m d:Int) (w:World):Calls Tryz.prog 37 #[.agg #[.int .i64 m,.int .i64 d]] w fun e w'=>e=.returned (.agg #[.bool false,.int .i64 m,.int .i64 d])∧Below w.heap.size w w':=by
 go_enter Tryz.func37,Tryz.ntmps37;go_wp2;exact bodyPost_ret (v:=.agg #[.bool false,.int .i64 m,.int .i64 d]) (by simp[results,Tryz.results37,go_sem]) rfl ⟨rfl,(zB _ _).alloc (by simp) _⟩
def SgIs (sg:List Sg) (w:World) (e:Ending) (w':World):Prop:=∃v,e=.returned v∧w'.ownsRow w.heap.size 83 5 v sg.length (sgs sg)∧Below w.heap.size w w'
def restP (ps:List (Pv × Hd)) (q:Nat):List Sg:=match q with
 |0=>ps.map (fun x=>pSig 6 x.1)++(ps.map (fun x=>pSig 7 x.1)++ps.map (fun x=>pSig 8 x.1))
 |1=>ps.map (fun x=>pSig 7 x.1)++ps.map (fun x=>pSig 8 x.1)
 |2=>ps.map (fun x=>pSig 8 x.1)
 |_=>[]
theorem restP_succ (ps:List (Pv × Hd)) {q:Nat} (h:q<3):restP ps q=ps.map (fun x=>pSig (6+(q:Int)) x.1)++restP ps (q+1):=by
 rcases (by omega:q=0∨q=1∨q=2) with rfl|rfl|rfl
 ·rfl
 ·rfl
 ·simp[restP]
structure SX (W wr:World) (v:Value) (m:Nat) (ns:List Sg):Prop where
 o:wr.ownsRow W.heap.size 83 5 v ns.length (sgs ns)
 l:ns.length≤m
 b:Below W.heap.size W wr
theorem SX.push {W w1 w':World} {v v':Value} {m m':Nat} {ns:List Sg} (h:SX W w1 v m ns) (g:Sg) (ho:w'.ownsRow W.heap.size 83 5 v' (ns.length+1) (sgs ns++g.cells)) (hb:Below W.heap.size W w') (hm:m+1=m'):SX W w' v' m' (ns++[g]):=
 ⟨by rw[sgs_append,List.length_append];exact ho,by have:=h.l;rw[List.length_append,List.length_singleton];omega,hb⟩
theorem SX.below {W w1 w':World} {v:Value} {m:Nat} {ns:List Sg} (h:SX W w1 v m ns) (hb:Below w1.heap.size w1 w'):SX W w' v m ns:=⟨own_below h.o hb,h.l,bstep h.b hb⟩
theorem xSigs_any (fs:List Dc) (ss:List (Sc × Hd)) (ps:List (Pv × Hd)) (f s p:Hd) (w:World) (hf:RowAt w Dc.cells fs f) (hs:RowAt w scCells ss s) (hp:RowAt w pvCells ps p) (f1:fs.length≤100) (s1:ss.length≤100) (p1:ps.length≤100):
  Calls Tryz.prog 16 #[lawV f s p] w (SgIs (fs.map fSig++(restP ps 0++ss.map fun x=>sSig x.1)) w):=by
 have hal:(fs.map fSig++(restP ps 0++ss.map fun x=>sSig x.1)).length≤1000:=by simp[restP];omega
 obtain⟨al,HAL⟩:=zE (fs.map fSig++(restP ps 0++ss.map fun x=>sSig x.1));rw[←HAL] at hal⊢;replace HAL:=zH HAL;obtain⟨fa,fn,fc⟩:=f;obtain⟨sa,sn,sc⟩:=s;obtain⟨pa,pn,pc⟩:=p;rw[←hf.len] at f1;rw[←hs.len] at s1;rw[←hp.len] at p1;simp only at f1 s1 p1;unfold lawV;go_enter Tryz.func16,Tryz.ntmps16
 go_upto_region 1 with fail
 generalize hW:w.alloc _=W;obtain⟨hk,hb0⟩:=zA hW;replace hf:=hf.below hb0;replace hs:=hs.below hb0;replace hp:=hp.below hb0;have hL:∀X,Below W.heap.size W X→X.cell? ⟨w.heap.size,0,none⟩=some (.slice fa fn fc)∧X.cell? ⟨w.heap.size,1,none⟩=some (.slice sa sn sc)∧X.cell? ⟨w.heap.size,2,none⟩=some (.slice pa pn pc):=fun X h=>⟨(hk.below h hk.lt).cells 0,(hk.below h hk.lt).cells 1,(hk.below h hk.lt).cells 2⟩
 clear hW hk;generalize hB:w.heap.size=B at hL⊢;have hb2:=Below.refl W.heap.size W;go_wp2
 go_loopg [3,4] fn (fun g ov iv wr=>∃(j:Nat) (ns:List Sg),j+g=fn∧iv=.int .i64 j∧Hid (ns++((fs.drop j).map fSig++(restP ps 0++ss.map fun x=>sSig x.1))=al)∧SX W wr ov j ns)
 case atStart=>exact⟨0,[],by omega,rfl,HAL.out.symm,World.ownsRow_nil _ _ _ _,Nat.le_refl _,hb2⟩
 case round=>
  obtain⟨j,ns,hj,rfl,HE,h⟩:=hrel;have hb:=h.b;by_cases hlt:j<fn
  ·obtain⟨b,off,nm,t,m,d,rfl,_,hx,hx2,hc⟩:=dc_at hf hlt;replace HE:Hid (ns++[fSig ⟨nm,⟨t,m,d⟩⟩]++((fs.drop (j+1)).map fSig++(restP ps 0++ss.map fun x=>sSig x.1))=al):=by have h:=HE.out;rw[List.drop_eq_getElem_cons hx,hx2] at h;show _=_;rw[←h];simp
   clear hx2
   go_upto_region 5 with fail
   refine reS (Below W.heap.size W) 99 hb.drew (fun w1 h1 hS=>?_);replace h:=h.below h1
   iterate 14 refine reA ?_
   refine reV 14 (fun _=>hS.alloc hS.size _) (fun _=>?_);refine reP 15 info_sig Tryz.underlying32 h.o (by have:=h.l;omega) h.b.size (fun v' w9 ho _ _ hb9=>⟨h.b.trans hb9,fun hS=>?_⟩);refine reA ?_;refine reE ?_;go_wp2
   go_roundg (fn-(j+1))
   case measure=>omega
   case rel=>exact⟨j+1,_,by omega,by go_num,HE.out,h.push ⟨5,nm,⟨t,m,d⟩⟩ ho hS rfl⟩
  ·replace HE:Hid (ns++(restP ps 0++ss.map fun x=>sSig x.1)=al):=by have h:=HE.out;rw[List.drop_eq_nil_of_le (by have:=hf.len;simp only at this;omega)] at h;exact h
   go_wp2
   go_loopg [3,5] 3 (fun g ov iv wr=>∃(q:Nat) (ns:List Sg),q+g=3∧iv=.int .i64 (6+q)∧Hid (ns++(restP ps q++ss.map fun x=>sSig x.1)=al)∧SX W wr ov (100+100*q) ns)
   case atStart=>exact⟨0,ns,by omega,rfl,HE.out,h.o,by have:=h.l;omega,h.b⟩
   case round=>
    clear h HE;obtain⟨q,ns,hq,rfl,HE,h⟩:=hrel;have hb:=h.b;by_cases hlq:q<3
    ·have hq8:(6:Int)+(q:Int)≤8:=by omega
     have HR:=zH (restP_succ ps hlq);go_wp2
     go_loopg [3,6] pn (fun g ov iv wr=>∃(j:Nat) (ns:List Sg),j+g=pn∧iv=.int .i64 j∧Hid (ns++((ps.drop j).map (fun x=>pSig (6+(q:Int)) x.1)++(restP ps (q+1)++ss.map fun x=>sSig x.1))=al)∧SX W wr ov (100+100*q+j) ns)
     case atStart=>exact⟨0,ns,by omega,rfl,by have h:=HE.out;rw[HR.out,List.append_assoc] at h;exact h,h⟩
     case round=>
      clear h hb HE;obtain⟨j,ns,hj,rfl,HE,h⟩:=hrel;have hb:=h.b;by_cases hlt:j<pn
      ·obtain⟨b,off,p,rfl,_,hx,hx2,hc⟩:=pv_at hp hlt;replace HE:Hid (ns++[pSig (6+(q:Int)) p.1]++((ps.drop (j+1)).map (fun x=>pSig (6+(q:Int)) x.1)++(restP ps (q+1)++ss.map fun x=>sSig x.1))=al):=by have h:=HE.out;rw[List.drop_eq_getElem_cons hx,hx2] at h;show _=_;rw[←h];simp
       clear hx2
       go_upto_region 12 with fail
       refine reS (Below W.heap.size W) 99 hb.drew (fun w1 h1 hS=>?_);replace h:=h.below h1
       iterate 15 refine reA ?_
       refine reV 15 (fun _=>hS.alloc hS.size _) (fun _=>?_);refine reP 16 info_sig Tryz.underlying32 h.o (by have:=h.l;omega) h.b.size (fun v' w9 ho _ _ hb9=>⟨h.b.trans hb9,fun hS=>?_⟩);refine reA ?_;refine reE ?_;go_wp2
       go_roundg (pn-(j+1))
       case measure=>omega
       case rel=>exact⟨j+1,_,by omega,by go_num,HE.out,h.push ⟨6+(q:Int),p.1.name,p.1.ty⟩ ho hS rfl⟩
      ·have hw6:IntKind.i64.wrap (6+(q:Int)+1)=6+(q:Int)+1:=IntWalk.i64_in _ (by omega);go_wp2
       go_roundg (3-(q+1))
       case measure=>omega
       case rel=>exact⟨q+1,ns,by omega,by push_cast;rw[Int.add_assoc],by have h:=HE.out;rw[List.drop_eq_nil_of_le (by have:=hp.len;simp only at this;omega)] at h;exact h,h.o,by have:=h.l;omega,h.b⟩
    ·have hq8:¬(6:Int)+(q:Int)≤8:=by omega
     have HE:Hid (ns++(ss.map fun x=>sSig x.1)=al):=by have h:=HE.out;rw[show q=3 by omega] at h;exact h
     go_wp2
     go_loopg [3,7] sn (fun g ov iv wr=>∃(j:Nat) (ns:List Sg),j+g=sn∧iv=.int .i64 j∧Hid (ns++((ss.drop j).map fun x=>sSig x.1)=al)∧SX W wr ov (400+j) ns)
     case atStart=>exact⟨0,ns,by omega,rfl,HE.out,h.o,by have:=h.l;omega,h.b⟩
     case round=>
      clear h hb HE;obtain⟨j,ns,hj,rfl,HE,h⟩:=hrel;have hb:=h.b;by_cases hlt:j<sn
      ·obtain⟨b,off,nm,m,d,bs,hd,rfl,_,hx,hx2,hc⟩:=sc_at hs hlt;replace HE:Hid (ns++[⟨24,nm,⟨false,m,d⟩⟩]++((ss.drop (j+1)).map fun x=>sSig x.1)=al):=by have h:=HE.out;rw[List.drop_eq_getElem_cons hx,hx2] at h;show _=_;rw[←h];simp[sSig]
       clear hx2
       go_upto_region 16 with fail
       refine reS (Below W.heap.size W) 99 hb.drew (fun w1 h1 hS=>?_);replace h:=h.below h1
       iterate 13 refine reA ?_
       refine reC 13 (xnumber_any m d w1) ?_;rintro e w2 ⟨rfl,h2⟩;replace h:=h.below h2;refine⟨_,rfl,h.b,fun hS=>?_⟩
       iterate 1 refine reA ?_
       refine reV 15 (fun _=>hS.alloc hS.size _) (fun _=>?_);refine reP 16 info_sig Tryz.underlying32 h.o (by have:=h.l;omega) h.b.size (fun v' w9 ho _ _ hb9=>⟨h.b.trans hb9,fun hS=>?_⟩);refine reA ?_;refine reE ?_;go_wp2
       go_roundg (sn-(j+1))
       case measure=>omega
       case rel=>exact⟨j+1,_,by omega,by go_num,HE.out,h.push ⟨24,nm,⟨false,m,d⟩⟩ ho hS rfl⟩
      ·go_wp2;go_ret;have HE:=HE.out;rw[List.drop_eq_nil_of_le (by have:=hs.len;simp only at this;omega),List.map_nil,List.append_nil] at HE;subst HE;exact⟨_,rfl,own_lower h.o hb0.size,bstep hb0 h.b⟩
end Go.Proofs.YtkgiaegmkncljaaGreatDoor
