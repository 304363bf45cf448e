/- A part of the proof: Qf Wr Ti. -/
import Derived.Test.YtimokmplkpbmdaaGreatDoorB35
import Derived.Test.YtimokmplkpbmdaaGreatDoorL02
set_option linter.all false
set_option maxRecDepth 100000
set_option maxHeartbeats 0
namespace Go.Proofs.YtimokmplkpbmdaaGreatDoor
open Go.RowKit
theorem first_one:∀{l:List Int} {c:Int},c≠0->(∀x∈l,x=0∨x=c)->c∈l->firstE l=c
 |[],_,_,_,h=>by cases h
 |z::r,c,h0,h,hm=>by
  rw[firstE_cons];by_cases hz:z=0
  ·rw[if_pos hz];rcases List.mem_cons.1 hm with e|hm
   ·exact absurd (e.trans hz) h0
   ·exact first_one h0 (fun x hx=>h x (by simp[hx])) hm
  ·rw[if_neg hz];exact (h z (by simp)).resolve_left hz
theorem tyGo_no {sg:List Sg} {n:Nd} {b:List Nd} (h:ownT sg n=none):∀(e:List Nd) (ts:List Ty) (idx:List Nat),(∀x∈idx,x<ts.length)->tyS sg e (idx.map fun k=>ts.getD k tPlain)≠none->
  tyGo sg (e++n::b) (runA (e++n::b) ts.length idx) ts=([],12)
 |[],ts,idx,_,_=>by
  rw[List.nil_append,runA,tyGo,h]
 |m::r,ts,idx,hx,hs=>by
  have er:rowT ts ((idx.take (shp m.op).ops).reverse)=((idx.map fun k=>ts.getD k tPlain).take (shp m.op).ops).reverse:=by simp[rowT,List.map_reverse,List.map_take]
  rw[List.cons_append,runA,tyGo_of,er];rw[tyS] at hs;split at hs
  ·next h0=>
   rw[if_pos h0];generalize (ofN sg m ((idx.map fun k=>ts.getD k tPlain).take (shp m.op).ops).reverse).1=T at hs⊢
   have em:((ts.length::idx.drop (shp m.op).ops).map fun k=>(ts++[T]).getD k tPlain)=T::(idx.map fun k=>ts.getD k tPlain).drop (shp m.op).ops:=by
    rw[List.map_cons,<-List.map_drop];congr 1
    ·simp[List.getD_eq_getElem?_getD]
    ·refine List.map_congr_left fun k hk=>?_
     have hk:=hx k (List.mem_of_mem_drop hk);simp only[List.getD_eq_getElem?_getD]
     rw[List.getElem?_append_left hk]
   have hl:(ts++[T]).length=ts.length+1:=by simp
   have k:=tyGo_no (b:=b) h r (ts++[T]) (ts.length::idx.drop (shp m.op).ops) (fun x h=>by
    rw[hl];rcases List.mem_cons.1 h with rfl|h
    ·omega
    ·have:=hx x (List.mem_of_mem_drop h);omega) (by rw[em];exact hs)
   rw[hl] at k;exact k
  ·exact absurd rfl hs
structure Gone (nm:ByteArray) (sg sg':List Sg):Prop where
 eq:∀n:Nd,n.name≠nm->sigOf sg' n=sigOf sg n
 no:∀n:Nd,n.name=nm->sigOf sg' n=none
def usesB (nm:ByteArray) (e:List Nd):Bool:=e.any fun n=>sigB n.op&&decide (n.name=nm)
theorem ofN_gone {nm:ByteArray} {sg sg':List Sg} (h:Gone nm sg sg') {n:Nd} (hn:(sigB n.op&&decide (n.name=nm))=false) (l:List Ty):ofN sg' n l=ofN sg n l:=by
 unfold ofN ownT;cases hb:sigB n.op with
 |false=>rfl
 |true=>
  rw[hb,Bool.true_and,decide_eq_false_iff_not] at hn;rw[h.eq n hn]
theorem tyS_gone {nm:ByteArray} {sg sg':List Sg} (h:Gone nm sg sg'):∀(e:List Nd),usesB nm e=false->∀st,tyS sg' e st=tyS sg e st
 |[],_,st=>rfl
 |n::r,hu,st=>by
  unfold usesB at hu;rw[List.any_cons,Bool.or_eq_false_iff] at hu;rw[tyS,tyS,ofN_gone h hu.1];split
  ·exact tyS_gone h r hu.2 _
  ·rfl
theorem uses_split {nm:ByteArray}:∀{e:List Nd},usesB nm e=true->∃a n b,e=a++n::b/\usesB nm a=false/\sigB n.op=true/\n.name=nm
 |[],h=>by cases h
 |n::r,h=>by
  unfold usesB at h;rw[List.any_cons] at h;cases hn:(sigB n.op&&decide (n.name=nm)) with
  |true=>
   rw[Bool.and_eq_true,decide_eq_true_eq] at hn;exact⟨[],n,r,rfl,rfl,hn.1,hn.2⟩
  |false=>
   rw[hn,Bool.false_or] at h;obtain⟨a,m,b,e,h1,h2,h3⟩:=uses_split (e:=r) h;refine⟨n::a,m,b,by rw[e];rfl,?_,h2,h3⟩;unfold usesB at h1⊢;rw[List.any_cons,hn,h1];rfl
theorem TE.gone {nm:ByteArray} {sg sg':List Sg} (h:Gone nm sg sg') {t:Ty} {e:List Nd} (he:TE sg t e) (hu:usesB nm e=false):TE sg' t e:=⟨he.c,fun st=>(tyS_gone h e hu st).trans (he.s st)⟩
theorem type_gone {nm:ByteArray} {sg sg':List Sg} (h:Gone nm sg sg') {t:Ty} {e:List Nd} (he:TE sg t e) (h60:e.length<=60) (hu:usesB nm e=true):(typeE sg' e).2=12:=by
 obtain⟨a,n,b,rfl,h1,h2,h3⟩:=uses_split hu;have hs:=he.s [];rw[tyS_append] at hs
 have k:=tyGo_no (sg:=sg') (n:=n) (b:=b) (by unfold ownT;rw[if_pos h2];exact h.no n h3) a [] [] (fun x hx=>by cases hx) (by
  show tyS sg' a []≠none;rw[tyS_gone h a h1];intro e;rw[e] at hs;cases hs)
 have e1:typesE sg' (a++n::b)=([],12):=by unfold typesE argsE;rw[if_pos (he.chk h60)];exact k
 unfold typeE;simp[e1]
theorem prov_gone {nm:ByteArray} {sg sg':List Sg} (h:Gone nm sg sg') {p:Pv} (hp:PvG sg p):provE sg' p=if usesB nm p.body then 12 else 0:=by
 cases hu:usesB nm p.body with
 |false=>rw[if_neg (by decide)];exact PvG.zero ⟨hp.b.gone h hu,hp.n,hp.c,hp.s⟩
 |true=>
  rw[if_pos rfl];have k:=type_gone h hp.b hp.n hu;unfold provE;rw[k];rfl
section
variable {W X:World} {B:Nat} {l:Lw} {ss:List (Sc × Hd)} {ps:List (Pv × Hd)} {f s p:Hd}
variable {g n c:Nat}
theorem LO.get (h:LO W B l ss ps f s p) {k:Nat} (hk:k<ps.length):ps[k].1=l.provs[k]'(by rw[<-h.len];exact hk):=by
 have e:=congrArg (fun x=>x[k]?) h.pl;simp only[List.getElem?_map,List.getElem?_eq_getElem hk,Option.map_some] at e;rw[List.getElem?_eq_getElem (by rw[<-h.len];exact hk)] at e;exact Option.some.inj e
variable {w:World} {C:Nat}
theorem GS.setF (h:GS w W B C l ss ps f s p) (z:Hd) (xs:List Dc) (ho:W.ownsRow B 36 4 (.slice z.a z.n z.c) xs.length (xs.flatMap Dc.cells)):GS w (W.setCell ⟨C,0,none⟩ (.slice z.a z.n z.c)) B C ⟨xs,l.schs,l.provs⟩ ss ps z s p:=
 ⟨h.b.set 0 _,⟨own_setT h.b ho (by decide) 0 _,own_setT h.b h.o.s (by decide) 0 _,own_setT h.b h.o.p (by decide) 0 _,h.o.sl,h.o.pl,fun x hx=>own_setT h.b (h.o.qs x hx) (by decide) 0 _,fun x hx=>own_setT h.b (h.o.qp x hx) (by decide) 0 _⟩,h.on.setCell (p:=⟨C,0,none⟩) (Nat.le_trans h.hB h.hC) _,h.hB,h.hC⟩
theorem GS.setP (h:GS w W B C l ss ps f s p) (z:Hd) (xs:List (Pv × Hd)) (hx:∀x∈xs,x∈ps) (ho:W.ownsRow B 45 12 (.slice z.a z.n z.c) xs.length (xs.flatMap pvCells)):GS w (W.setCell ⟨C,2,none⟩ (.slice z.a z.n z.c)) B C ⟨l.facts,l.schs,xs.map Prod.fst⟩ ss xs f s z:=
 ⟨h.b.set 2 _,⟨own_setT h.b h.o.f (by decide) 2 _,own_setT h.b h.o.s (by decide) 2 _,own_setT h.b ho (by decide) 2 _,h.o.sl,rfl,fun x hx=>own_setT h.b (h.o.qs x hx) (by decide) 2 _,fun x hx'=>own_setT h.b (h.o.qp x (hx x hx')) (by decide) 2 _⟩,h.on.setCell (p:=⟨C,2,none⟩) (Nat.le_trans h.hB h.hC) _,h.hB,h.hC⟩
theorem IR.lower {u v:Nat} {r:List Int × Hd} (h:IR W u r) (hv:u<=v):IR W v r:=⟨h.len,h.cap,h.max,h.rd,h.rng,fun hn ad e=>Nat.lt_of_lt_of_le (h.lt hn ad e) hv⟩
end
section
variable {P:Program}
theorem step_append_rd (w:World) {ops:Array Oper} {o:Oper} {a:Act} {K:Act->World->Prop} {Q:Exit->Act->World->Prop} {E:Prop} (hgd:o.guard=none) (s x:Operand) (t:TypeId)
  (ho:o.op=.call {callee:=.builtin .append,args:=#[s,x],argTypes:=#[t,t]})
  (base:Nat) (e:TypeId) (z:Value) (size bytes:Nat) (ht:P.underlying t=some (.slice e)) (hinfo:(P.info? e).map (fun i=>(i.zero,i.size,i.bytes))=some (some z,size,bytes)) (hzs:z.cells.size=size) (hsz:0<size)
  (v:Value) (n:Nat) (xs:List Value) (hs:a.eval s=v) (hown:w.ownsRow base e size v n xs)
  (A:Option Addr) (m c:Nat) (news:List Value) (hx:a.eval x=.slice A m c) (hr:Rd w A news) (hl:news.length=m*size) (h1:∀u∈news,u.oneCell'=true)
  (h63:n+m<=maxLen) (hbytes:(n+m)*bytes<=140737488355328) (hbase:base<=w.heap.size)
  (h:∀v' w',w'.ownsRow base e size v' (n+m) (xs++news)->Below base w w'->K (a.put o.dst v') w'):
  if Region.wanted o (yielded ops a.tmps)=true then Oper.wp P o a w K Q else E:=by
 have hw:Region.wanted o (yielded ops a.tmps)=true:=by simp[Region.wanted,hgd]
 rw[if_pos hw];obtain⟨i,hi,hzz⟩:=Option.map_eq_some_iff.1 hinfo;simp only[Prod.mk.injEq] at hzz;obtain⟨hz,hs1,hb⟩:=hzz
 have hk:∀v' w',w'.ownsRow base e size v' (n+m) (xs++news)->w.grownBy w' v.ownBlock->(v'=.slice none 0 0↔v=.slice none 0 0/\m=0)->K (a.put o.dst v') w':=
  fun v' w' h2 h3 _=>h v' w' h2 ((Below.refl _ _).grown h3 hbase (fun k hk=>(hown.lt k hk).1))
 rcases hr with rfl|⟨b,off,rfl,_,hc⟩
 ·obtain rfl:m=0:=by
   rcases Nat.eq_zero_or_pos m with h0|h0
   ·exact h0
   ·have:=Nat.mul_pos h0 hsz;simp at hl;omega
  cases A with
  |none=>
   have hrun:=run_append_own_empty (P:=P) (w:=w) base t o.type e i size ht hi v n xs hown c;unfold Oper.wp;simp[execOp,ho,resolve,invoke,builtin,hs,hx,hrun,Result.andThen];exact h v w (by simpa using hown) (Below.refl _ _)
  |some ad=>
   exact wp_append_own (w:=w) s x t ho base e i z size bytes ht hi hz hs1 hb hzs hsz v n xs hs hown ad 0 c [] hx hl (by intro j u hj;simp at hj) h1 h63 hbytes hbase hk
 ·refine wp_append_own (w:=w) s x t ho base e i z size bytes ht hi hz hs1 hb hzs hsz v n xs hs hown ⟨b,off,none⟩ m c news hx hl ?_ h1 h63 hbytes hbase hk;intro j u hj;have hj':=(List.getElem?_eq_some_iff.1 hj)
  rw[show Addr.add ⟨b,off,none⟩ j=⟨b,off+j,none⟩ from by unfold Addr.add;split<;>simp_all,hc j hj'.1,<-hj'.2]
theorem rePd {md:Region.Mode} {S:World->Prop} {x0 f:Nat} {l:Array Bool} (i:Nat) {W:World} {news:List Value} {ops:Array Oper} {o:Oper} {a:Act} {Q:Exit->Act->World->Prop} {s x:Operand} {t e:TypeId} {z v:Value} {base size bytes n m c:Nat} {A:Option Addr} {xs:List Value} {a':Value->Act}
  (hinfo:(P.info? e).map (fun i=>(i.zero,i.size,i.bytes))=some (some z,size,bytes)) (ht:P.underlying t=some (.slice e)) (hown:W.ownsRow base e size v n xs) (hR:Rd W A news) (hl:news.length=m*size) (h1:∀u∈news,u.oneCell'=true) (hn:n+m<=100000) (hbase:base<=W.heap.size)
  (h:∀v' w',w'.ownsRow base e size v' (n+m) (xs++news)->Below base W w'->S w'/\(S w'->wpAnyE P md ops Q S x0 f (l.setIfInBounds i true) (a' v') w'))
  (hi:ops[i]?=some o:=by rfl) (hr:Region.ready md ops l=[i]:=by kernel_rfl)
  (hgd:o.guard=none:=by rfl) (ho:o.op=.call {callee:=.builtin .append,args:=#[s,x],argTypes:=#[t,t]}:=by rfl) (hs:a.eval s=v:=by rfl) (hx:a.eval x=.slice A m c:=by rfl)
  (hzs:z.cells.size=size:=by rfl) (hsz:0<size:=by decide) (hby:bytes<=1000:=by decide)
  (ha:∀v,a.put o.dst v=a' v:=by (intro v;(try simp only[Act.put,tk1,tk2,tk3,tk4,tk5,tk6]);rfl)):wpAnyE P md ops Q S x0 (f+1) l a W:=by
 refine reR i (fun K hK=>?_) hi hr;refine step_append_rd W hgd s x t ho base e z size bytes ht hinfo hzs hsz v n xs hs hown A m c news hx hR hl h1 (by unfold maxLen;omega) (Nat.le_trans (Nat.mul_le_mul (show n+m<=100000 by omega) hby) (by decide)) hbase (fun v' w' h2 h3=>?_);obtain⟨h5,h6⟩:=h v' w' h2 h3;exact hK.out _ _ (fun _=>h5) (fun s=>by rw[ha];exact h6 h5)
end
end Go.Proofs.YtimokmplkpbmdaaGreatDoor
