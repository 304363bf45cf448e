/- Part: FE FG FH. -/
import Derived.Deep.AppendLies
import Derived.Test.YtjpbmbgincdjaaaGreatDoorK02
set_option linter.all false
set_option maxRecDepth 100000
set_option maxHeartbeats 0
set_option linter.unusedVariables false
namespace Go.Proofs.YtjpbmbgincdjaaaGreatDoor
open Go.RowKit List World
section
variable {Ld:bU} {X:Cx Ld} {N:Nat} {m:Mm} {a:Act} {w:World} {ρ:Nat->Value} {L:Nat->Option Nat}
theorem kJ.obj {j d:Nat} {ob:Ob} {x:bF} {v:Value} {o0:Obj} {lim:Option Nat} (h:kJ X N m a w ρ L) (hj:m (.o j)=none) (h9:j≠900) (hd:d<N) (hv:∀b,gJ v=some b->b=w.heap.size)
  (hO:∀ρ' m' L',ρ' j=v->L' w.heap.size=lim->Ext ρ m L w ρ' m' L' (w.alloc o0)->OR ρ' m' L' (w.alloc o0) X.base X.iL j ob)
  (hx:∀ρ' m' L',ρ' j=v->m' (.o j)=some (.o ob)->SR ρ' m' L' (w.alloc o0) x v):RS X N (upd m [(.s d,.s x),(.o j,.o ob)]) (a.put (some d) v) (w.alloc o0):=by
 have hb:Below w.heap.size w (w.alloc o0):=(Below.refl _ _).alloc (Nat.le_refl _) _;have hsz:(w.alloc o0).heap.size=w.heap.size+1:=by simp
 have mo:∀i,upd m [(.s d,.s x),(.o j,.o ob)] (.o i)=if i=j then some (.o ob) else m (.o i):=by
  intro i;by_cases hi:i=j<;>simp[upd,bK,get_nil,hi]
 have ms:∀t,upd m [(.s d,.s x),(.o j,.o ob)] (.s t)=if t=d then some (.s x) else m (.s t):=by
  intro t;by_cases ht:t=d<;>simp[upd,bK,get_nil,ht]
 generalize upd m [(.s d,.s x),(.o j,.o ob)]=m' at*;have hmj:m' (.o j)=some (.o ob):=by rw[mo,if_pos rfl]
 have hoth:∀i ob',m (.o i)=some (.o ob')->i≠j:=fun i ob' hi e=>by rw[e,hj] at hi;cases hi
 have E:Ext ρ m L w (fun i=>if i=j then v else ρ i) m' (fun b=>if b=w.heap.size then lim else L b) (w.alloc o0):=by
  refine⟨⟨hb.size,fun b i hlt ha=>⟨fun f hf=>?_,hb.cell hlt⟩⟩,fun i ob' hi=>⟨ob',by rw[mo,if_neg (hoth i ob' hi)];exact hi,Ob.le_refl ρ i ob' (if_neg (hoth i ob' hi))⟩⟩;have hf:(if b=w.heap.size then lim else L b)=some f:=hf;rw[if_neg (by omega)] at hf;exact ha f hf
 refine⟨fun i=>if i=j then v else ρ i,fun b=>if b=w.heap.size then lim else L b,⟨fun i ob' hi=>?_,fun i i' pF kS b h1 h2 e1 e2=>?_,fun b hB=>?_,fun ob' ho'=>?_⟩,by simp[Act.put,h.sz],h.df,fun t y hy=>?_,h.bl.trans (.of (hb.mono h.lb)),fun b hB=>?_,by rw[hsz];have:=h.lb;omega⟩
 ·by_cases hij:i=j
  ·subst hij;rw[mo,if_pos rfl] at hi;cases hi;exact hO _ _ _ (if_pos rfl) (if_pos rfl) E
  ·rw[mo,if_neg hij] at hi;refine (h.hs.ob i ob' hi).keep E (if_neg hij) fun b hv'=>?_
   have hlt:=(h.hs.own hi hv').2;exact⟨hb.block b hlt,if_neg (by omega)⟩
 ·by_cases hij:i=j<;>by_cases hij':i'=j
  ·rw[hij,hij']
  ·rw[mo,if_neg hij'] at h2;simp only[if_pos hij] at e1;simp only[if_neg hij'] at e2;have:=(h.hs.own h2 e2).2;have:=hv b e1;omega
  ·rw[mo,if_neg hij] at h1;simp only[if_neg hij] at e1;simp only[if_pos hij'] at e2;have:=(h.hs.own h1 e1).2;have:=hv b e2;omega
  ·rw[mo,if_neg hij] at h1;rw[mo,if_neg hij'] at h2;simp only[if_neg hij] at e1;simp only[if_neg hij'] at e2;exact h.hs.inj i i' pF kS b h1 h2 e1 e2
 ·rw[hsz] at hB;show (if b=w.heap.size then lim else L b)=none;rw[if_neg (by omega)];exact h.hs.new b (by omega)
 ·rw[mo,if_neg (Ne.symm h9)] at ho';obtain⟨b,fP,hb'⟩:=h.hs.bo ob' ho';exact⟨b,(if_neg (Ne.symm h9)).trans fP,hb'⟩
 ·by_cases htd:t=d
  ·subst htd;rw[ms,if_pos rfl] at hy;cases hy;exact⟨v,by simp[Act.put,h.sz,hd],hx _ _ _ (if_pos rfl) hmj⟩
  ·rw[ms,if_neg htd] at hy;obtain⟨u,hu,hs⟩:=h.sl t y hy;exact⟨u,by simp[Act.put,Ne.symm htd,hu],hs.ext E⟩
 ·show (if b=w.heap.size then lim else L b)=_;have:=h.lb;rw[if_neg (by omega)];exact h.ll b hB
end
inductive uT (M:List (Ky × En)):bF->List bF->Prop
 |ag (l:List PV):uT M (.v (.ag l)) (l.map .v)
 |sc {v:Value} (h:v.oneCell'=true):uT M (.v (.sc v)) [.v (.sc v)]
 |sl (q:Nat) (xs:List PV):uT M (.v (.sl q xs)) [.v (.sl q xs)]
 |pr (p:PV):uT M (.v (.pr p)) [.v (.pr p)]
 |pt (j off:Nat):uT M (.pt j off) [.pt j off]
 |fn (f:Nat) (js:List Nat):uT M (.fn f js) [.fn f js]
 |ow {j n e q:Nat} {xs:List PV} (h:get (.o j) M=some (.o (.row e q xs))) (hn:n=xs.length):uT M (.ow j n) [.ow j n]
 |ox {j n k v e q:Nat} {xs:List PV} (h:get (.o j) M=some (.o (.aW v e q xs))) (hn:n=xs.length) (hk:k=v):uT M (.ox j n k) [.ox j n k]
 |sg (cs:List SC):uT M (.sg cs) (cs.map SC.s)
theorem uT.real {M:List (Ky × En)} {m:Mm} {ρ:Nat->Value} {L:Nat->Option Nat} {w:World} {base:Nat} {iL:Nat->Prop} {x:bF} {cs:List bF} {u:Value} (hc:uT M x cs) (h:HS ρ m L w base iL) (hs:SR ρ m L w x u) (hk:∀j∈x.refs,m (.o j)=get (.o j) M):
  ∃us:List Value,u.cells=us.toArray/\cs.length=us.length/\(∀u∈us,u.oneCell'=true)/\∀(i:Nat) x u,cs[i]?=some x->us[i]?=some u->SR ρ m L w x u:=by
 have one:∀{y:bF},SR ρ m L w y u->u.oneCell'=true->∃us:List Value,u.cells=us.toArray/\[y].length=us.length/\(∀u∈us,u.oneCell'=true)/\∀(i:Nat) x u,[y][i]?=some x->us[i]?=some u->SR ρ m L w x u:=by
  intro y hy h1;refine⟨[u],(by cases u<;>first|rfl|cases h1),rfl,fun v hv=>(by rw[mem_singleton.1 hv];exact h1),fun i x v hx hv=>?_⟩;cases i with
  |zero=>cases hx;cases hv;exact hy
  |succ i=>cases hx
 cases hc with
 |ag l=>
  obtain⟨us,h1,h2,h3,h4⟩:=RP.vP hs;refine⟨us,by rw[h1];rfl,by rw[length_map,h2],h3,fun i x u hx hu=>?_⟩;rw[getElem?_map] at hx;cases hp:l[i]? with
  |none=>rw[hp] at hx;cases hx
  |some p=>rw[hp] at hx;cases hx;exact h4 i p u hp hu
 |sc h1=>exact one hs (by rw[RP.lS hs];exact h1)
 |sl q xs=>obtain⟨A,c,us,e,_⟩:=RP.qP hs;exact one hs (by rw[e];rfl)
 |pr p=>obtain⟨us,b,off,e,_⟩:=RP.tY hs;exact one hs (by rw[e];rfl)
 |pt j off=>obtain⟨_,b,_,e⟩:=hs;exact one (y:=.pt j off) ⟨by assumption,b,by assumption,e⟩ (by rw[e];rfl)
 |fn f js=>obtain⟨us,e,h2⟩:=hs;exact one (y:=.fn f js) ⟨us,e,h2⟩ (by rw[e];rfl)
 |@ow j n e q xs hg hn=>
  have hs':=hs;obtain⟨e',q',xs',h1,h2,h3⟩:=hs;have hm:m (.o j)=some (.o (.row e q xs)):=(hk j (by simp[bF.refs])).trans hg;rw[hm] at h1;cases h1;obtain⟨us,h4,_⟩:=h.ob j _ hm;obtain⟨A,c,h5,_⟩:=dK h4;exact one hs' (by rw[h3 hn,h5];rfl)
 |@ox j n k v e q xs hg hn hv=>
  have hs':=hs;obtain⟨v',e',q',xs',h1,h2,h3⟩:=hs;have hm:m (.o j)=some (.o (.aW v e q xs)):=(hk j (by simp[bF.refs])).trans hg;rw[hm] at h1;cases h1;obtain⟨us,h4,_⟩:=h.ob j _ hm;obtain⟨A,c,h5,_⟩:=dK h4;exact one hs' (by rw[(h3 hv).2 hn,h5];rfl)
 |sg cs=>
  obtain⟨us,h1,h2,h3,h4⟩:=hs;refine⟨us,by rw[h1];rfl,by rw[length_map,h2],h3,fun i x u hx hu=>?_⟩;rw[getElem?_map] at hx;cases hp:cs[i]? with
  |none=>rw[hp] at hx;cases hx
  |some c=>rw[hp] at hx;cases hx;exact SC.sr.1 (h4 i c u hp hu)
section
variable {P:Program} {Ld:bU} {X:Cx Ld} {N:Nat} {ops:Array Oper} {dr:Bool} {fin:List (Ky × En)->Prop} {o:Oper} {rest:List Oper} {acc:List (List Ky × List Ky)} {M:List (Ky × En)} {d:Nat} {ty:TypeId} {pos:String} {aO:Array Edge} {g:Option (Nat × Bool)} {x y:Operand} {sx sy:bF}
theorem afC {t:TypeId} {cs:List bF} (j:Nat) (hx:ev M x=some sx) (hc:uT M sx cs) (hj:get (.o j) M=none) (h9:j≠900):Ru ⟨some d,.box t x,ty,pos,aO,g⟩ P X N ops M (ok x++.o j::sx.refs.map .o) [.s d,.o j] ((.s d,.s (.pt j 0))::(.o j,.o (.blk cs))::M):=
 ⟨fun hD hw _ _ _ _ next=>
 have hN:d<N:=Nat.le_of_ble_eq_true hD;og (ok x++.o j::sx.refs.map .o) [(.s d,.s (.pt j 0)),(.o j,.o (.blk cs))] (fun m a w ρ L K Q hR hk hK=>by
  obtain⟨us,h1,h2,h3,h4⟩:=hc.real hR.hs (bI hR hx fun k h=>hk k (mem_append_left _ h)) fun i hi=>hk (.o i) (mem_append_right _ (mem_cons_of_mem _ (mem_map.2 ⟨i,hi,rfl⟩)))
  have hmj:m (.o j)=none:=(hk (.o j) (by simp)).trans hj
  have hrun:(execOp a.eval ⟨some d,.box t x,ty,pos,aO,g⟩).run P w=.ok (.value (.pointer (some ⟨w.heap.size,0,none⟩))) (w.alloc (.cells us.toArray t)):=by
   simp[execOp,Instr.box,newVar,newRow,h1]
  unfold Oper.wp;rw[hrun,Oper.upon_value];refine hK _ _ (hR.obj (lim:=some 0) hmj h9 hN (fun b hb=>by cases hb;rfl) (fun ρ' m' L' e1 e2 E=>?_) fun ρ' m' L' e1 e2=>⟨⟨_,e2,rfl⟩,_,e1,rfl⟩);exact⟨w.heap.size,t,us,e1,.inl hR.lb,aj.new w t us.toArray,h2,h3,fun i x u hx hu=>(h4 i x u hx hu).ext E,e2⟩) hw next⟩
def zcs (z:Value):List bF:=match z with
 |.agg cs=>cs.toList.map fun v=>.v (.sc v)
 |v=>[.v (.sc v)]
theorem aij {t:TypeId} {z:Value} {cs:List bF} (j:Nat) (hz:∀w,(zeroValue t).run P w=.ok z w) (hc:zcs z=cs) (h1:z.cells.toList.all Value.oneCell'=true) (hj:get (.o j) M=none) (h9:j≠900):Ru ⟨some d,.alloc t,ty,pos,aO,g⟩ P X N ops M ([.o j]) [.s d,.o j] ((.s d,.s (.pt j 0))::(.o j,.o (.blk cs))::M):=
 ⟨fun hD hw _ _ _ _ next=>
 have hN:d<N:=Nat.le_of_ble_eq_true hD;og [.o j] [(.s d,.s (.pt j 0)),(.o j,.o (.blk cs))] (fun m a w ρ L K Q hR hk hK=>by
  have hmj:m (.o j)=none:=(hk (.o j) (by simp)).trans hj
  have hrun:(execOp a.eval ⟨some d,.alloc t,ty,pos,aO,g⟩).run P w=.ok (.value (.pointer (some ⟨w.heap.size,0,none⟩))) (w.alloc (.cells z.cells t)):=by
   simp[execOp,Instr.alloc,newVar,newRow,hz]
  unfold Oper.wp;rw[hrun,Oper.upon_value];have hcs:cs=z.cells.toList.map fun v=>.v (.sc v):=by rw[<-hc];cases z<;>rfl
  refine hK _ _ (hR.obj (lim:=some 0) hmj h9 hN (fun b hb=>by cases hb;rfl) (fun ρ' m' L' e1 e2 E=>?_) fun ρ' m' L' e1 e2=>⟨⟨_,e2,rfl⟩,_,e1,rfl⟩);refine⟨w.heap.size,t,z.cells.toList,e1,.inl hR.lb,aj.new w t z.cells,by rw[hcs];simp,fun u hu=>all_eq_true.1 h1 u hu,fun i x u hx hu=>?_,e2⟩;rw[hcs,getElem?_map,hu] at hx;cases hx;exact .sc u) hw next⟩
theorem aik {t:TypeId} {j off:Nat} {cs vs cs':List bF} (hx:ev M x=some (.pt j off)) (ho:get (.o j) M=some (.o (.blk cs))) (hy:ev M y=some sy) (hc:uT M sy vs) (hn:∀w,(Go.sizeOf t).run P w=.ok vs.length w) (hl:off+vs.length<=cs.length) (hcs:cs.take off++vs++cs.drop (off+vs.length)=cs'):Ru ⟨none,.store t x y,ty,pos,aO,g⟩ P X N ops M (ok x++(ok y++.o j::sy.refs.map .o)) [.o j] ((.o j,.o (.blk cs'))::M):=
 ⟨fun hD hw _ _ _ _ next=>
 og (ok x++(ok y++.o j::sy.refs.map .o)) [(.o j,.o (.blk cs'))] (fun m a w ρ L K Q hR hk hK=>by
  obtain⟨b,h1,h2⟩:=Xk hR hx fun k h=>hk k (mem_append_left _ h)
  have hk':∀k∈ok y++.o j::sy.refs.map .o,m k=get k M:=fun k h=>hk k (mem_append_right _ h)
  obtain⟨us,g1,g2,g3,g4⟩:=hc.real hR.hs (bI hR hy fun k h=>hk' k (mem_append_left _ h)) fun i hi=>hk' (.o i) (mem_append_right _ (mem_cons_of_mem _ (mem_map.2 ⟨i,hi,rfl⟩)))
  have hm:m (.o j)=some (.o (.blk cs)):=(hk' (.o j) (by simp)).trans ho;obtain⟨b',e,ws,k1,k2,k3,k4,k5,k6,k7⟩:=hR.hs.ob j _ hm;rw[h1] at k1;cases k1;have hst:=run_storeCells_at (P:=P) b off e us 0 ws.toArray w k3 (by simp;omega) g3;simp only[Nat.add_zero] at hst;have hgs:(a.eval y).cells.size=vs.length:=by rw[g1];simp[g2]
  have hrun:(execOp a.eval ⟨none,.store t x y,ty,pos,aO,g⟩).run P w=.ok .skip (w.setRow b (ws.take off++us++ws.drop (off+us.length)).toArray):=by
   simp[execOp,Instr.storeAt,Instr.sureAddr,h2,storeVar,hn,g1,g2,hst,Result.andThen]
  unfold Oper.wp;rw[hrun,Oper.upon_skip];have hB:∀k,k≠b->(w.setRow b (ws.take off++us++ws.drop (off+us.length)).toArray).heap[k]?=w.heap[k]?:=fun k hk=>setRow_other w b k _ hk
  have hW:=setRow_heap w b ws.toArray (ws.take off++us++ws.drop (off+us.length)).toArray e (0,0) k3;have hS:(w.setRow b (ws.take off++us++ws.drop (off+us.length)).toArray).heap.size=w.heap.size:=by simp[World.setRow]
  have hos:(w.setRow b (ws.take off++us++ws.drop (off+us.length)).toArray).os=w.os/\(w.setRow b (ws.take off++us++ws.drop (off+us.length)).toArray).tape=w.tape/\(w.setRow b (ws.take off++us++ws.drop (off+us.length)).toArray).output=w.output:=⟨rfl,rfl,rfl⟩
  generalize w.setRow b (ws.take off++us++ws.drop (off+us.length)).toArray=w' at*
  have mo:∀i,upd m [(.o j,.o (.blk cs'))] (.o i)=if i=j then some (.o (.blk cs')) else m (.o i):=by
   intro i;by_cases hi:i=j<;>simp[upd,bK,get_nil,hi]
  have ms:∀t,upd m [(.o j,.o (.blk cs'))] (.s t)=m (.s t):=fun t=>by simp[upd,bK,get_nil]
  generalize upd m [(.o j,.o (.blk cs'))]=m' at*
  have E:Ext ρ m L w ρ m' L w':=by
   refine⟨⟨by omega,fun k i hlt ha=>⟨ha,?_⟩⟩,fun i ob hi=>?_⟩
   ·have hne:k≠b:=by rintro rfl;have:=ha 0 k7;omega
    exact cell?_of_block (w:=w) (hB k hne)
   ·by_cases hij:i=j
    ·subst hij;rw[hm] at hi;cases hi;exact⟨_,by rw[mo,if_pos rfl],rfl,rfl⟩
    ·exact⟨ob,by rw[mo,if_neg hij];exact hi,Ob.le_refl ρ i ob rfl⟩
  refine hK _ _ ⟨ρ,L,⟨fun i ob hi=>?_,fun i i' pF kS b' h1 h2 e1 e2=>?_,fun k hk=>hR.hs.new k (by omega),fun ob' ho'=>?_⟩,hR.sz,hR.df,fun t y hy=>?_,?_,hR.ll,by have:=hR.lb;omega⟩
  ·by_cases hij:i=j
   ·subst hij;rw[mo,if_pos rfl] at hi;cases hi;have hk4:(ws.take off).length=off:=by rw[length_take];omega
    refine⟨b,e,ws.take off++us++ws.drop (off+us.length),h1,k2,hW,by rw[<-hcs];simp[k4,g2],fun u hu=>?_,fun i' x u hx hu=>?_,k7⟩
    ·rcases mem_append.1 hu with hu|hu
     ·rcases mem_append.1 hu with hu|hu
      ·exact k5 u (mem_of_mem_take hu)
      ·exact g3 u hu
     ·exact k5 u (mem_of_mem_drop hu)
    ·rw[<-hcs] at hx;have hc4:(cs.take off).length=off:=by rw[length_take];omega
     rcases Nat.lt_or_ge i' off with hlt|hge
     ·rw[append_assoc,getElem?_append_left (by omega),getElem?_take_of_lt hlt] at hx hu;exact (k6 i' x u hx hu).ext E
     ·rcases Nat.lt_or_ge i' (off+us.length) with hlt2|afE
      ·rw[append_assoc,getElem?_append_right (by omega),getElem?_append_left (by omega)] at hx hu;rw[hc4] at hx;rw[hk4] at hu;exact (g4 _ x u hx hu).ext E
      ·rw[getElem?_append_right (by simp;omega),getElem?_drop] at hx hu;simp only[length_append,hc4,hk4] at hx hu;rw[g2] at hx;exact (k6 _ x u hx hu).ext E
   ·rw[mo,if_neg hij] at hi;refine (hR.hs.ob i ob hi).keep E rfl fun k hv=>⟨hB k ?_,rfl⟩
    rintro rfl;exact hij (hR.hs.inj i j ob _ k hi hm hv (by rw[h1];rfl))
  ·have back:∀{i ob},m' (.o i)=some (.o ob)->∃ob',m (.o i)=some (.o ob'):=fun {i ob} hi=>by
    by_cases hij:i=j
    ·rw[hij];exact⟨_,hm⟩
    ·rw[mo,if_neg hij] at hi;exact⟨_,hi⟩
   obtain⟨_,h1'⟩:=back h1;obtain⟨_,h2'⟩:=back h2;exact hR.hs.inj i i' _ _ b' h1' h2' e1 e2
  ·by_cases h9:(900:Nat)=j
   ·subst h9;exact hR.hs.bo _ hm
   ·rw[mo,if_neg h9] at ho';exact hR.hs.bo _ ho'
  ·rw[ms] at hy;obtain⟨u,hu,hs⟩:=hR.sl t y hy;exact⟨u,hu,hs.ext E⟩
  ·refine hR.bl.trans ⟨hos.1,hos.2.1,hos.2.2,by omega,fun k hk hn=>hB k ?_⟩;rintro rfl;rcases k2 with k2|k2
   ·omega
   ·exact hn k2) hw next⟩
end
end Go.Proofs.YtjpbmbgincdjaaaGreatDoor
set_option linter.unusedVariables false
namespace Go.Proofs.YtjpbmbgincdjaaaGreatDoor
open Go.RowKit List
theorem foldl_set (us:List Value):∀(off k:Nat) (cs:List Value),off+k+us.length<=cs.length->(us.zipIdx k).foldl (fun (cs:Array Value) (x:Value × Nat)=>cs.setIfInBounds (off+x.2) x.1) cs.toArray=(cs.take (off+k)++us++cs.drop (off+k+us.length)).toArray:=by
 induction us with
 |nil=>intro off k cs h;simp
 |cons u us ih=>
  intro off k cs h;have:=ih off (k+1) (cs.set (off+k) u) (by simp at h⊢;omega);rw[zipIdx_cons,foldl_cons];simp only[setIfInBounds_toArray]
  rw[this];have h1:off+k<cs.length:=by simp at h;omega
  congr 1;have e1:off+(k+1)=off+k+1:=by omega
  have e2:off+k+(u::us).length=off+k+1+us.length:=by simp;omega
  rw[e1,e2,take_set,drop_set,if_pos (by omega),take_succ_eq_append_getElem h1]
  have e3:(cs.take (off+k)++[cs[off+k]]).set (off+k) u=cs.take (off+k)++[u]:=by
   rw[set_append_right _ _ (by rw[length_take];omega),show off+k-(cs.take (off+k)).length=0 by rw[length_take];omega];rfl
  rw[e3];simp
theorem AZ {place:Nat->Option (Nat × Nat)} {i off sz:Nat} {v:Value} {us cs:List Value} {rest:List (Nat × Value)} (hp:place i=some (off,sz)) (hv:v.cells=us.toArray) (hl:us.length=sz) (ho:off+sz<=cs.length):
  Instr.fill place cs.toArray ((i,v)::rest)=Instr.fill place (cs.take off++us++cs.drop (off+sz)).toArray rest:=by
 subst hl;rw[Instr.fill];simp only[hp,hv]
 have h:=foldl_set us off 0 cs (by omega);rw[if_neg (by simp;omega)];simp only[Nat.add_zero] at h;rw[<-h,<-Array.foldl_toList];simp
inductive Af:PV->List PV->Prop
 |ag (l:List PV):Af (.ag l) l
 |sc {v:Value} (h:v.oneCell'=true):Af (.sc v) [.sc v]
 |sl (q:Nat) (xs:List PV):Af (.sl q xs) [.sl q xs]
 |pr (p:PV):Af (.pr p) [.pr p]
theorem Af.cs {p:PV} {l:List PV} (h:Af p l):p.cs=l:=by cases h<;>rfl
theorem Af.real {L:Nat->Option Nat} {w:World} {p:PV} {l:List PV} {u:Value} (h:Af p l) (hp:RP L w p u):∃us:List Value,u.cells=us.toArray/\l.length=us.length/\(∀u∈us,u.oneCell'=true)/\∀(i:Nat) p u,l[i]?=some p->us[i]?=some u->RP L w p u:=by
 have one:∀{y:PV},RP L w y u->u.oneCell'=true->∃us:List Value,u.cells=us.toArray/\[y].length=us.length/\(∀u∈us,u.oneCell'=true)/\∀(i:Nat) p u,[y][i]?=some p->us[i]?=some u->RP L w p u:=by
  intro y hy h1;refine⟨[u],(by cases u<;>first|rfl|cases h1),rfl,fun v hv=>(by rw[mem_singleton.1 hv];exact h1),fun i x v hx hv=>?_⟩;cases i with
  |zero=>cases hx;cases hv;exact hy
  |succ i=>cases hx
 cases h with
 |ag l=>obtain⟨us,h1,h2,h3,h4⟩:=RP.vP hp;exact⟨us,by rw[h1];rfl,h2,h3,h4⟩
 |sc h1=>exact one hp (by rw[RP.lS hp];exact h1)
 |sl q xs=>obtain⟨A,c,us,e,_⟩:=RP.qP hp;exact one hp (by rw[e];rfl)
 |pr p=>obtain⟨us,b,off,e,_⟩:=RP.tY hp;exact one hp (by rw[e];rfl)
inductive JE (M:List (Ky × En)) (pl:Nat->Option (Nat × Nat)):List PV->List (Nat × Operand)->List Ky->List PV->Prop
 |nil (cs:List PV):JE M pl cs [] [] cs
 |cons {cs l cs' out:List PV} {i off:Nat} {x:Operand} {sx:bF} {p:PV} {r:List (Nat × Operand)} {ks:List Ky} (hx:ev M x=some sx) (hd:oh M sx p) (hp:Af p l) (hpl:pl i=some (off,l.length)) (ho:off+l.length<=cs.length) (hc:cs.take off++l++cs.drop (off+l.length)=cs') (h:JE M pl cs' r ks out):JE M pl cs ((i,x)::r) (ok x++sx.refs.map .o++ks) out
theorem JE.real {Ld:bU} {X:Cx Ld} {N:Nat} {m:Mm} {a:Act} {w:World} {ρ:Nat->Value} {L:Nat->Option Nat} {M:List (Ky × En)} {pl:Nat->Option (Nat × Nat)} {cs out:List PV} {r:List (Nat × Operand)} {ks:List Ky} (h:JE M pl cs r ks out) (hR:kJ X N m a w ρ L) (hk:∀k∈ks,m k=get k M):
  ∀us:List Value,cs.length=us.length->(∀u∈us,u.oneCell'=true)->(∀(i:Nat) p u,cs[i]?=some p->us[i]?=some u->RP L w p u)->
   ∃vs:List Value,Instr.fill pl us.toArray (r.map fun x=>(x.1,a.eval x.2))=some vs.toArray/\out.length=vs.length/\(∀u∈vs,u.oneCell'=true)/\∀(i:Nat) p u,out[i]?=some p->vs[i]?=some u->RP L w p u:=by
 induction h with
 |nil cs=>exact fun us h1 h2 h3=>⟨us,rfl,h1,h2,h3⟩
 |@cons cs l cs' out i off x sx p r ks hx hd hp hpl ho hc _ ih=>
  intro us h1 h2 h3;have UY:=hd.real hR.hs (bI hR hx fun k hk'=>hk k (by simp[hk'])) fun j hj=>hk (.o j) (by simp[hj])
  obtain⟨ws,g1,g2,g3,g4⟩:=hp.real UY;have hst:=AZ (place:=pl) (rest:=r.map fun x=>(x.1,a.eval x.2)) hpl g1 g2.symm (cs:=us) (by omega);rw[map_cons,hst];have e1:(cs.take off).length=off:=by rw[length_take];omega
  have e2:(us.take off).length=off:=by rw[length_take];omega
  refine ih (fun k hk'=>hk k (by simp[hk'])) _ (by rw[<-hc];simp[h1,g2]) (fun u hu=>?_) fun i' p' u hp' hu=>?_
  ·rcases mem_append.1 hu with hu|hu
   ·rcases mem_append.1 hu with hu|hu
    ·exact h2 u (mem_of_mem_take hu)
    ·exact g3 u hu
   ·exact h2 u (mem_of_mem_drop hu)
  ·rw[<-hc] at hp';rcases Nat.lt_or_ge i' off with hlt|hge
   ·rw[append_assoc,getElem?_append_left (by omega),getElem?_take_of_lt hlt] at hp' hu;exact h3 i' p' u hp' hu
   ·rcases Nat.lt_or_ge i' (off+l.length) with hlt2|afE
    ·rw[append_assoc,getElem?_append_right (by omega),getElem?_append_left (by omega)] at hp' hu;rw[e1] at hp';rw[e2] at hu;exact g4 _ p' u hp' hu
    ·rw[getElem?_append_right (by simp;omega),getElem?_drop] at hp' hu;simp only[length_append,e1,e2,<-g2] at hp' hu;exact h3 _ p' u hp' hu
def Rn (pl:Nat->Option (Nat × Nat)) (z:Value) (msg:String) (parts:Array (Nat × Value)):Sem Value:=match Instr.fill pl z.cells parts.toList with
 |some cells=>pure (.agg cells)
 |_=>stuck msg
section
variable {P:Program} {Ld:bU} {X:Cx Ld} {N:Nat} {ops:Array Oper} {dr:Bool} {fin:List (Ky × En)->Prop} {o:Oper} {rest:List Oper} {acc:List (List Ky × List Ky)} {M:List (Ky × En)} {d:Nat} {ty:TypeId} {pos:String} {aO:Array Edge} {g:Option (Nat × Bool)} {x y:Operand} {sx sy:bF}
theorem ail {t:TypeId} {parts:List (Nat × Operand)} {pl:Nat->Option (Nat × Nat)} {zs:Array Value} {msg:String} {out:List PV} {ks:List Ky} (hb:∀(ps:Array (Nat × Value)) w,(Instr.build t ps).run P w=(Rn pl (.agg zs) msg ps).run P w) (h1:zs.toList.all Value.oneCell'=true) (hf:JE M pl (zs.toList.map .sc) parts ks out):Yd ⟨some d,.build t parts.toArray,ty,pos,aO,g⟩ P X N ops M ks (.v (.ag out)):=
 dL ks _ (fun m a w ρ L hR hk=>by
  obtain⟨vs,e1,e2,e3,e4⟩:=hf.real hR hk zs.toList (by simp) (fun u hu=>all_eq_true.1 h1 u hu) fun i p u hp hu=>by
   rw[getElem?_map,hu] at hp;cases hp;exact .sc u
  refine⟨.agg vs.toArray,w,?_,Below.refl _ _,.ag e2 e3 e4⟩;have e5:Instr.fill pl zs (parts.map fun x=>(x.1,a.eval x.2))=some vs.toArray:=by simpa using e1
  simp[execOp,hb,Rn,Value.cells,e5,Result.andThen])
inductive uf (M:List (Ky × En)) (q:Nat):List (Nat × Operand)->Nat->List Ky->List PV->Prop
 |nil (k:Nat):uf M q [] k [] []
 |cons {k:Nat} {x:Operand} {sx:bF} {p:PV} {l:List PV} {r:List (Nat × Operand)} {ks:List Ky} {ps:List PV} (hx:ev M x=some sx) (hd:oh M sx p) (hp:Af p l) (hl:l.length=q) (h:uf M q r (k+1) ks ps):uf M q ((k,x)::r) k (ok x++sx.refs.map .o++ks) (p::ps)
theorem uf.wid {M:List (Ky × En)} {q k:Nat} {r:List (Nat × Operand)} {ks:List Ky} {ps:List PV} (h:uf M q r k ks ps):∀p∈ps,p.cs.length=q:=by
 induction h with
 |nil k=>intro p hp;cases hp
 |cons hx hd hp hl _ ih=>
  intro p' hp';rcases mem_cons.1 hp' with rfl|hp'
  ·rw[hp.cs,hl]
  ·exact ih p' hp'
theorem uf.real {Ld:bU} {X:Cx Ld} {N:Nat} {m:Mm} {a:Act} {w:World} {ρ:Nat->Value} {L:Nat->Option Nat} {M:List (Ky × En)} {q k:Nat} {r:List (Nat × Operand)} {ks:List Ky} {ps:List PV} (h:uf M q r k ks ps) (hR:kJ X N m a w ρ L) (hk:∀k∈ks,m k=get k M):
  ∀done junk:List Value,done.length=k*q->junk.length=ps.length*q->∃us:List Value,Instr.fill (fun i=>some (i*q,q)) (done++junk).toArray (r.map fun x=>(x.1,a.eval x.2))=some (done++us).toArray/\(ps.flatMap PV.cs).length=us.length/\(∀u∈us,u.oneCell'=true)/\∀(i:Nat) p u,(ps.flatMap PV.cs)[i]?=some p->us[i]?=some u->RP L w p u:=by
 induction h with
 |nil k=>
  intro done junk h1 h2;have:junk=[]:=eq_nil_of_length_eq_zero (by simpa using h2);subst this;exact⟨[],rfl,rfl,fun u hu=>(by cases hu),fun i p u hp=>(by cases hp)⟩
 |@cons k x sx p l r ks ps hx hd hp hl _ ih=>
  intro done junk h1 h2;have UY:=hd.real hR.hs (bI hR hx fun k hk'=>hk k (by simp[hk'])) fun j hj=>hk (.o j) (by simp[hj])
  obtain⟨ws,g1,g2,g3,g4⟩:=hp.real UY;have h2':junk.length=ps.length*q+q:=by rw[h2,length_cons,Nat.add_mul,Nat.one_mul]
  have hst:=AZ (place:=fun i=>some (i*q,q)) (i:=k) (rest:=r.map fun x=>(x.1,a.eval x.2)) rfl g1 (by omega) (cs:=done++junk) (by rw[length_append];omega)
  have e0:(done++junk).take (k*q)++ws++(done++junk).drop (k*q+q)=(done++ws)++junk.drop q:=by
   rw[<-h1,take_left,drop_append,drop_of_length_le (by omega),nil_append,show done.length+q-done.length=q by omega]
  rw[map_cons,hst,e0];obtain⟨us,f1,f2,f3,f4⟩:=ih (fun k hk'=>hk k (by simp[hk'])) (done++ws) (junk.drop q) (by rw[length_append,h1,Nat.add_mul];omega) (by rw[length_drop];omega);refine⟨ws++us,by rw[f1,append_assoc],by rw[flatMap_cons,length_append,f2,hp.cs,g2,length_append],fun u hu=>(mem_append.1 hu).elim (g3 u) (f3 u),fun i p' u hp' hu=>?_⟩;rw[flatMap_cons,hp.cs] at hp';rcases Nat.lt_or_ge i l.length with hlt|hge
  ·rw[getElem?_append_left (by omega)] at hp' hu;exact g4 i p' u hp' hu
  ·rw[getElem?_append_right (by omega)] at hp' hu;rw[<-g2] at hu;exact f4 _ p' u hp' hu
theorem ain {t e:TypeId} {n q:Nat} {z:Value} {parts:List (Nat × Operand)} {ps:List PV} {ks:List Ky} (ht:P.underlying t=some (.slice e)) (hq:∀w,(Go.sizeOf e).run P w=.ok q w) (hz:∀w,(zeroValue e).run P w=.ok z w) (hp:uf M q parts 0 ks ps) (hn:ps.length=n) (hq0:0<n*q/\n*q<=10000000):Yd ⟨some d,.buildSlice t n parts.toArray,ty,pos,aO,g⟩ P X N ops M ks (.v (.sl q ps)):=
 dL ks _ (fun m a w ρ L hR hk=>by
  subst hn;have hcells:∃junk:List Value,((Array.range (ps.length*q)).map (z.cells[· % z.cells.size]!))=junk.toArray/\junk.length=ps.length*q:=⟨((Array.range (ps.length*q)).map (z.cells[· % z.cells.size]!)).toList,rfl,by simp⟩
  obtain⟨junk,j1,j2⟩:=hcells;obtain⟨us,e1,e2,e3,e4⟩:=hp.real hR hk [] junk (by simp) j2;simp only[nil_append] at e1
  have hrun:(execOp a.eval ⟨some d,.buildSlice t ps.length parts.toArray,ty,pos,aO,g⟩).run P w=.ok (.value (.slice (some ⟨w.heap.size,0,none⟩) ps.length ps.length)) (w.alloc (.cells us.toArray e)):=by
   have Nk:¬(2 ^ 24<ps.length*q):=by omega
   have h00:¬(ps.length*q=0):=by omega
   simp only[execOp,Instr.buildSlice,underlying,Sem.run_bind,run_program,Result.andThen_ok,ht,Sem.run_pure,hq,gt_iff_lt,if_neg Nk,if_neg h00,hz]
   simp only[map_toArray,j1,e1]
   rfl
  have hB:Below w.heap.size w (w.alloc (.cells us.toArray e)):=(Below.refl _ _).alloc (Nat.le_refl _) _;have hBk:=aj.new w e us.toArray
  have hqp:0<q:=by
   rcases Nat.eq_zero_or_pos q with h|h
   ·subst h;omega
   ·exact h
  have hle:ps.length<=ps.length*q:=Nat.le_mul_of_pos_right _ hqp;refine⟨_,_,hrun,hB,RP.sl hp.wid (Nat.le_refl _) (by unfold maxLen;omega) e2 e3 (fun i p u hp hu=>(e4 i p u hp hu).grow (Grow.below hB)) ?_⟩;refine .inr ⟨w.heap.size,0,rfl,by simp,fun i hi=>⟨?_,fun f hf=>?_⟩⟩
  ·have:=hBk.cell (i:=i) hi;rw[Nat.zero_add];exact this
  ·rw[hR.hs.new _ (Nat.le_refl _)] at hf;cases hf)
end
end Go.Proofs.YtjpbmbgincdjaaaGreatDoor
set_option linter.unusedVariables false
namespace Go.Proofs.YtjpbmbgincdjaaaGreatDoor
open Go.RowKit List World
theorem yu {q:Nat}:∀{xs:List PV} {k:Nat} {p:PV},(∀x∈xs,x.cs.length=q)->xs[k]?=some p->((xs.flatMap PV.cs).drop (k*q)).take q=p.cs/\k*q+q<=(xs.flatMap PV.cs).length
 |x::xs,0,p,hq,h=>by
  cases h;have:=hq x (by simp);rw[Nat.zero_mul,drop_zero,flatMap_cons,take_append_of_le_length (by omega),take_of_length_le (by omega),length_append];exact⟨rfl,by omega⟩
 |x::xs,k+1,p,hq,h=>by
  have h0:=hq x (by simp);obtain⟨h1,h2⟩:=yu (fun y hy=>hq y (mem_cons_of_mem _ hy)) (show xs[k]?=some p from h);rw[flatMap_cons,length_append,Nat.add_mul,Nat.one_mul];refine⟨?_,by omega⟩;rw[drop_append,drop_of_length_le (by omega),nil_append,show k*q+q-x.cs.length=k*q by omega];exact h1
theorem add_lit (b off n:Nat):Addr.add ⟨b,off,none⟩ n=⟨b,off+n,none⟩:=by unfold Addr.add;split<;>simp_all
section
variable {P:Program} {Ld:bU} {X:Cx Ld} {N:Nat} {ops:Array Oper} {dr:Bool} {fin:List (Ky × En)->Prop} {o:Oper} {rest:List Oper} {acc:List (List Ky × List Ky)} {M:List (Ky × En)} {d:Nat} {ty:TypeId} {pos:String} {aO:Array Edge} {g:Option (Nat × Bool)} {x y:Operand} {sx sy:bF}
theorem Nl {e:Operand->Value} {w:World} {t el:TypeId} {q n c:Nat} {A:Addr} {kd:IntKind} {i:Int} (ht:P.underlying t=some (.slice el)) (hq:∀w,(Go.sizeOf el).run P w=.ok q w) (hx:e x=.slice (some A) n c) (hy:e y=.int kd i) (h0:0<=i) (h1:i<n) (hop:o.op=.indexAddr t x y):
  (execOp e o).run P w=.ok (.value (.pointer (some (A.add (i.toNat*q))))) w:=by
 simp[execOp,hop,Instr.indexAt,hx,hy,asIntOf,underlying,ht,hq,h0,h1,Result.andThen]
theorem aio {kd:IntKind} {i:Int} {q:Nat} {xs:List PV} {p:PV} {t el:TypeId} (hx:ev M x=some (.v (.sl q xs))) (hy:ev M y=some (.v (.sc (.int kd i)))) (h0:0<=i) (hp:xs[i.toNat]?=some p) (ht:P.underlying t=some (.slice el)) (hq:∀w,(Go.sizeOf el).run P w=.ok q w) (hq0:0<q):Yd ⟨some d,.indexAddr t x y,ty,pos,aO,g⟩ P X N ops M (ok x++ok y) (.v (.pr p)):=
 dL (ok x++ok y) _ (fun m a w ρ L hR hk=>by
  obtain⟨A,c,us,h1,h2,h3,h4,h5,h6,h7,h8⟩:=RP.qP (bI hR hx fun k h=>hk k (mem_append_left _ h));have XH:=evs hR hy fun k h=>hk k (mem_append_right _ h)
  obtain⟨f1,f2⟩:=yu h8 hp;have hil:=(List.getElem?_eq_some_iff.1 hp).1;rcases h7 with h7|⟨b,off,rfl,hb,h7⟩
  ·subst h7;rw[h4] at f2;simp at f2;omega
  ·have hpl:p.cs.length=q:=h8 p (mem_of_getElem? hp);have hL:Lays L w (some ⟨b,off+i.toNat*q,none⟩) ((us.drop (i.toNat*q)).take q):=Lays.part (.inr ⟨b,off,rfl,hb,h7⟩) _ _;refine⟨_,w,Nl ht hq h1 XH h0 (by omega) rfl,Below.refl _ _,?_⟩;rw[add_lit];refine RP.pr (us:=(us.drop (i.toNat*q)).take q) (by rw[hpl,length_take,length_drop];omega) (fun u hu=>h5 u (mem_of_mem_drop (mem_of_mem_take hu))) (fun i' p' u hp' hu=>?_) hb hL;rw[<-f1] at hp';have hi':i'<q:=by have:=(List.getElem?_eq_some_iff.1 hp').1;rw[length_take] at this;omega
   rw[getElem?_take_of_lt hi',getElem?_drop] at hp' hu;exact h6 _ p' u hp' hu)
theorem afF {kd:IntKind} {i:Int} {q j n e:Nat} {xs:List PV} {p:PV} {t el:TypeId} (hx:ev M x=some (.ow j n)) (ho:get (.o j) M=some (.o (.row e q xs))) (hn:n=xs.length) (hy:ev M y=some (.v (.sc (.int kd i)))) (h0:0<=i) (hp:xs[i.toNat]?=some p) (ht:P.underlying t=some (.slice el)) (hq:∀w,(Go.sizeOf el).run P w=.ok q w) (hq0:0<q):Yd ⟨some d,.indexAddr t x y,ty,pos,aO,g⟩ P X N ops M (ok x++(.o j::ok y)) (.v (.pr p)):=
 dL (ok x++(.o j::ok y)) _ (fun m a w ρ L hR hk=>by
  have hr:RP L w (.sl q xs) (a.eval x):=(oh.ow (M:=M) ho hn).real hR.hs (bI hR hx fun k h=>hk k (mem_append_left _ h)) fun i hi=>hk (.o i) (by simp[bF.refs] at hi;simp[hi])
  obtain⟨A,c,us,h1,h2,h3,h4,h5,h6,h7,h8⟩:=RP.qP hr;have XH:=evs hR hy fun k h=>hk k (mem_append_right _ (mem_cons_of_mem _ h))
  obtain⟨f1,f2⟩:=yu h8 hp;have hil:=(List.getElem?_eq_some_iff.1 hp).1;rcases h7 with h7|⟨b,off,rfl,hb,h7⟩
  ·subst h7;rw[h4] at f2;simp at f2;omega
  ·have hpl:p.cs.length=q:=h8 p (mem_of_getElem? hp);have hL:Lays L w (some ⟨b,off+i.toNat*q,none⟩) ((us.drop (i.toNat*q)).take q):=Lays.part (.inr ⟨b,off,rfl,hb,h7⟩) _ _;refine⟨_,w,Nl ht hq h1 XH h0 (by omega) rfl,Below.refl _ _,?_⟩;rw[add_lit];refine RP.pr (us:=(us.drop (i.toNat*q)).take q) (by rw[hpl,length_take,length_drop];omega) (fun u hu=>h5 u (mem_of_mem_drop (mem_of_mem_take hu))) (fun i' p' u hp' hu=>?_) hb hL;rw[<-f1] at hp';have hi':i'<q:=by have:=(List.getElem?_eq_some_iff.1 hp').1;rw[length_take] at this;omega
   rw[getElem?_take_of_lt hi',getElem?_drop] at hp' hu;exact h6 _ p' u hp' hu)
def lU (P:Program) (e q:Nat):Bool:=(P.info? e).any fun i=>i.zero.any (fun z=>z.cells.size==q)&&i.size==q&&decide (i.bytes<=1000)&&decide (0<q)
theorem adL {t ty' e q n m c base:Nat} {v:Value} {us news:List Value} {ad:Addr} (w:World) (ht:P.underlying t=some (.slice e)) (hi:lU P e q=true) (hown:w.ownsRow base e q v n us) (hl:news.length=m*q) (hnews:∀j u,news[j]?=some u->w.cell? (ad.add j)=some u) (h1:∀u∈news,u.oneCell'=true) (hm:0<m) (hb:n+m<=100000) (hbase:base<=w.heap.size):
  ∃g cap w',(Builtin.append_ #[t,t] ty' #[v,.slice (some ad) m c]).run P w=.ok (.slice (some ⟨g,0,none⟩) (n+m) cap) w'/\w'.ownsRow base e q (.slice (some ⟨g,0,none⟩) (n+m) cap) (n+m) (us++news)/\base<=g/\g<w'.heap.size/\
   ((gJ v=some g/\w.grownBy w' (some g))∨(g=w.heap.size/\Below w.heap.size w w')):=by
 unfold lU at hi
 obtain⟨i,hi,h2⟩:∃i,P.info? e=some i/\(i.zero.any (fun z=>z.cells.size==q)&&i.size==q&&decide (i.bytes<=1000)&&decide (0<q))=true:=by
  cases h:P.info? e with
  |none=>rw[h] at hi;cases hi
  |some i=>rw[h] at hi;exact⟨i,rfl,hi⟩
 simp only[Bool.and_eq_true,decide_eq_true_eq,beq_iff_eq] at h2;obtain⟨⟨⟨h2,h3⟩,h4⟩,h5⟩:=h2
 obtain⟨z,hz,h6⟩:∃z,i.zero=some z/\z.cells.size=q:=by
  cases hz:i.zero with
  |none=>rw[hz] at h2;cases h2
  |some z=>rw[hz] at h2;exact⟨z,rfl,by simpa using h2⟩
 have hmax:n+m<=maxLen:=by unfold maxLen;omega
 have hby:(n+m)*i.bytes<=140737488355328:=Nat.le_trans (Nat.mul_le_mul hb h4) (by decide);obtain⟨g,cap,w',hr,ho',hg,aoO,hlt⟩:=run_append_lies (P:=P) w t ty' base e i z q i.bytes ht hi hz h3 rfl h6 h5 v n us hown ad m c news hl hnews h1 hm hmax hby hbase _ rfl
 have hgb:base<=g:=by
  rcases ho'.2 with⟨h,_⟩|⟨g',cap',cur,h,hb',_⟩
  ·cases h
  ·cases h;exact hb'
 refine⟨g,cap,w',hr,ho',hgb,hlt,?_⟩;have hD:∀o',Below w.heap.size w (w.drew.alloc o'):=fun o'=>(Below.refl _ _).drew.alloc (Nat.le_refl _) o'
 rcases hown.2 with⟨rfl,rfl⟩|⟨g0,cap0,cur,rfl,hb0,hh,hn0,hm0,hs0,htk⟩
 ·have:=run_append_nil (P:=P) w t ty' e i z ht hi hz ad m c news (by rw[h3];exact hl) hnews hm (by unfold maxLen at hmax;omega) (by have:=hby;simp only[Nat.zero_add] at this;omega);rw[this] at hr;injection hr with e1 e2;injection e1 with e1;injection e1 with e1;injection e1 with e1;subst e1 e2;exact .inr ⟨rfl,hD _⟩
 ·by_cases hroom:n+m<=cap0
  ·have hfit:n*i.size+news.length<=cur.size:=by rw[h3,hl,hs0,<-Nat.add_mul];exact Nat.mul_le_mul_right _ hroom
   have:=run_append_room (P:=P) w t ty' e i ht hi g0 n cap0 cur hh ad m c news (by rw[h3];exact hl) hnews h1 hroom hfit;rw[this] at hr;cases hr;exact .inl ⟨rfl,hg⟩
  ·have:=run_append_grow (P:=P) w t ty' e i z ht hi hz ⟨g0,0,none⟩ n cap0 us (by rw[h3];exact hown.1) (hown.cells (g:=g0) rfl) ad m c news (by rw[h3];exact hl) hnews (by omega) (by unfold maxLen at hmax;omega) (growslice_fits (by omega) hby);rw[this] at hr;cases hr;exact .inr ⟨rfl,hD _⟩
end
section
variable {Ld:bU} {X:Cx Ld} {N:Nat} {m m':Mm} {a:Act} {w w':World} {ρ:Nat->Value} {L:Nat->Option Nat} {M:List (Ky × En)}
theorem row_step {j lim lim':Nat} {ob ob':Ob} {v1:Value} (hR:kJ X N m a w ρ L) (hm:m (.o j)=some (.o ob)) (mo:∀i,m' (.o i)=if i=j then some (.o ob') else m (.o i)) (h9:∀b,ρ j≠.pointer (some b))
  (hb:∀b,gJ (ρ j)=some b->X.base<=b/\L b=some lim) (hob:∀ρ' L',Ext ρ m L w ρ' m' L' w'->ρ' j=v1->(∀b,gJ v1=some b->L' b=some lim')->OR ρ' m' L' w' X.base X.iL j ob') (hle:∀ρ':Nat->Value,ρ' j=v1->Ob.le ρ ρ' j ob ob')
  (hsz:w.heap.size<=w'.heap.size) (ho:w'.os=w.os/\w'.tape=w.tape/\w'.output=w.output) (hblk:∀b,b<w.heap.size->gJ (ρ j)≠some b->w'.heap[b]?=w.heap[b]?) (hcell:∀b i,gJ (ρ j)=some b->i<lim->w'.cell? ⟨b,i,none⟩=w.cell? ⟨b,i,none⟩)
  (hv:∀b,gJ v1=some b->b<w'.heap.size/\((gJ (ρ j)=some b/\lim<=lim')∨w.heap.size<=b)):
  ∃ρ' L',ρ' j=v1/\Ext ρ m L w ρ' m' L' w'/\∀a':Act,a'.tmps.size=N->a'.defers=[]->(∀t x,m' (.s t)=some (.s x)->∃u,a'.tmps[t]?=some u/\SR ρ' m' L' w' x u)->kJ X N m' a' w' ρ' L':=by
 have hlb:=hR.lb
 have E:Ext ρ m L w (fun i=>if i=j then v1 else ρ i) m' (fun b=>if gJ v1=some b then some lim' else L b) w':=by
  refine⟨⟨hsz,fun b i hbs ha=>?_⟩,fun i kS hi=>?_⟩
  ·by_cases hvb:gJ (ρ j)=some b
   ·have hil:=ha _ (hb b hvb).2;refine⟨fun f hf=>?_,hcell b i hvb hil⟩;by_cases hv1:gJ v1=some b
    ·simp only[if_pos hv1] at hf;cases hf;rcases (hv b hv1).2 with h|h<;>omega
    ·simp only[if_neg hv1] at hf;exact ha f hf
   ·refine⟨fun f hf=>?_,cell?_of_block (w:=w) (hblk b hbs hvb)⟩;by_cases hv1:gJ v1=some b
    ·rcases (hv b hv1).2 with h|h
     ·exact absurd h.1 hvb
     ·omega
    ·simp only[if_neg hv1] at hf;exact ha f hf
  ·by_cases hij:i=j
   ·subst hij;rw[hm] at hi;cases hi;exact⟨ob',by rw[mo,if_pos rfl],hle _ (if_pos rfl)⟩
   ·exact⟨kS,by rw[mo,if_neg hij];exact hi,Ob.le_refl ρ i kS (if_neg hij)⟩
 have hoth:∀i kS b,i≠j->m (.o i)=some (.o kS)->gJ (ρ i)=some b->b<w.heap.size/\gJ (ρ j)≠some b/\gJ v1≠some b:=fun i kS b hij hi hvi=>by
  have h1:=(hR.hs.own hi hvi).2;have h2:gJ (ρ j)≠some b:=fun h=>hij (hR.hs.inj i j kS ob b hi hm hvi h)
  refine⟨h1,h2,fun h=>?_⟩;rcases (hv b h).2 with h|h
  ·exact h2 h.1
  ·omega
 refine⟨_,_,if_pos rfl,E,fun a' hs' hd' hsl=>⟨⟨fun i kS hi=>?_,fun i i' o1 o2 b e1 e2 v1' v2=>?_,fun b hB=>?_,fun kS ho2=>?_⟩,hs',hd',hsl,hR.bl.trans ⟨ho.1,ho.2.1,ho.2.2,hsz,fun k hk _=>hblk k (by omega) fun h=>by have:=(hb k h).1;omega⟩,fun b hB=>?_,by omega⟩⟩
 ·by_cases hij:i=j
  ·subst hij;rw[mo,if_pos rfl] at hi;cases hi;exact hob _ _ E (if_pos rfl) fun b hb=>if_pos hb
  ·rw[mo,if_neg hij] at hi;refine (hR.hs.ob i kS hi).keep E (if_neg hij) fun b hvi=>?_
   have h:=hoth i kS b hij hi hvi;exact⟨hblk b h.1 h.2.1,if_neg h.2.2⟩
 ·by_cases hij:i=j<;>by_cases hij':i'=j
  ·rw[hij,hij']
  ·rw[mo,if_neg hij'] at e2;simp only[if_pos hij] at v1';simp only[if_neg hij'] at v2;exact absurd v1' (hoth i' o2 b hij' e2 v2).2.2
  ·rw[mo,if_neg hij] at e1;simp only[if_neg hij] at v1';simp only[if_pos hij'] at v2;exact absurd v2 (hoth i o1 b hij e1 v1').2.2
  ·rw[mo,if_neg hij] at e1;rw[mo,if_neg hij'] at e2;simp only[if_neg hij] at v1';simp only[if_neg hij'] at v2;exact hR.hs.inj i i' o1 o2 b e1 e2 v1' v2
 ·show (if gJ v1=some b then some lim' else L b)=none;rw[if_neg fun h=>by have:=(hv b h).1;omega];exact hR.hs.new b (by omega)
 ·have h99:(900:Nat)≠j:=by
   rintro rfl;obtain⟨b9,fP,_⟩:=hR.hs.bo _ hm;exact h9 _ fP
  rw[mo,if_neg h99] at ho2;obtain⟨b9,fP,hb'⟩:=hR.hs.bo kS ho2;exact⟨b9,(if_neg h99).trans fP,hb'⟩
 ·show (if gJ v1=some b then some lim' else L b)=_
  rw[if_neg fun h=>by
   rcases (hv b h).2 with h|h
   ·have:=(hb b h.1).1;omega
   ·omega]
  exact hR.ll b hB
theorem vI {q:Nat}:∀(zs:List PV),(∀z∈zs,z.cs.length=q)->(zs.flatMap PV.cs).length=zs.length*q
 |[],_=>by simp
 |z::zs,hz=>by rw[flatMap_cons,length_append,vI zs fun y hy=>hz y (mem_cons_of_mem _ hy),hz z (by simp),length_cons,Nat.add_mul];omega
theorem Ro {P:Program} {j e q lim lim' d:Nat} {ob ob':Ob} {xs ys:List PV} {us:List Value} {t ty:TypeId} {pos:String} {aO:Array Edge} {g:Option (Nat × Bool)} {x y:Operand} (hR:kJ X N m a w ρ L) (hm:m (.o j)=some (.o ob)) (mo:∀i,m' (.o i)=if i=j then some (.o ob') else m (.o i)) (k1:w.ownsRow X.base e q (ρ j) xs.length us) (k2:RL L w (xs.flatMap PV.cs) us) (k3:∀u∈us,u.oneCell'=true) (k4:∀b,gJ (ρ j)=some b->L b=some lim) (k5:∀x∈xs,x.cs.length=q)
  (hl:lim<=us.length) (hl':lim<=lim') (hvx:a.eval x=ρ j) (hy:RP L w (.sl q ys) (a.eval y)) (hys:0<ys.length) (hb:xs.length+ys.length<=100000) (ht:P.underlying t=some (.slice e)) (hi:lU P e q=true) (hle:∀ρ':Nat->Value,Ob.le ρ ρ' j ob ob')
  (hob:∀ρ' L' w' us',World.ownsRow w' X.base e q (ρ' j) (xs++ys).length us'->RL L' w' ((xs++ys).flatMap PV.cs) us'->(∀u∈us',u.oneCell'=true)->(∀b,gJ (ρ' j)=some b->L' b=some lim')->(∀x∈xs++ys,x.cs.length=q)->OR ρ' m' L' w' X.base X.iL j ob'):
  ∃v1 w',(execOp a.eval ⟨some d,.call {callee:=.builtin .append,args:=#[x,y],argTypes:=#[t,t]},ty,pos,aO,g⟩).run P w=.ok (.value v1) w'/\∃ρ' L',ρ' j=v1/\Ext ρ m L w ρ' m' L' w'/\∀a':Act,a'.tmps.size=N->a'.defers=[]->(∀t x,m' (.s t)=some (.s x)->∃u,a'.tmps[t]?=some u/\SR ρ' m' L' w' x u)->kJ X N m' a' w' ρ' L':=by
 obtain⟨A,c,ws,h1,h2,h3,h4,h5,h6,h7,h8⟩:=RP.qP hy
 have hq0:0<q:=by
  unfold lU at hi;cases h:P.info? e with
  |none=>rw[h] at hi;cases hi
  |some i=>rw[h] at hi;simp at hi;exact hi.2
 have hwl:ws.length=ys.length*q:=by rw[<-h4,vI ys h8]
 have hwp:0<ws.length:=by rw[hwl];exact Nat.mul_pos hys hq0
 rcases h7 with h7|⟨b,off,rfl,hbl,h7⟩
 ·subst h7;simp at hwp
 obtain⟨g0,cap,w',hr,ho',hgb,hlt,hcase⟩:=adL (P:=P) (ty':=ty) (c:=c) (ad:=⟨b,off,none⟩) (m:=ys.length) w ht hi k1 hwl (fun i u hu=>by
  have:=List.getElem?_eq_some_iff.1 hu;rw[add_lit,(h7 i this.1).1,this.2]) h5 hys hb hR.lb
 have hrun:(execOp a.eval ⟨some d,.call {callee:=.builtin .append,args:=#[x,y],argTypes:=#[t,t]},ty,pos,aO,g⟩).run P w=.ok (.value (.slice (some ⟨g0,0,none⟩) (xs.length+ys.length) cap)) w':=by
  simp only[execOp,resolve,invoke,builtin,Sem.run_bind,Sem.run_pure,Result.andThen_ok,map_toArray,map_cons,map_nil,hvx,h1,hr]
 have hlen2:(xs++ys).length=xs.length+ys.length:=length_append
 have hown:∀{b},gJ (ρ j)=some b->(ρ j).ownBlock=some b:=fun hv0=>by
  cases hρ:ρ j with
  |slice a n c=>rw[hρ] at hv0;cases a<;>simp_all [gJ,Value.ownBlock]
  |pointer a=>rcases k1.2 with⟨h,_⟩|⟨_,_,_,h,_⟩<;>rw[hρ] at h<;>cases h
  |_=>rw[hρ] at hv0;cases hv0
 refine⟨_,w',hrun,?_⟩;refine row_step (lim:=lim) (lim':=lim') hR hm mo (fun b9 fP=>by rcases k1.2 with⟨h,_⟩|⟨_,_,_,h,_⟩<;>rw[fP] at h<;>cases h) (fun b hb=>⟨(kF k1 hb).1,k4 b hb⟩) (fun ρ' L' E hρ hL=>hob ρ' L' w' (us++ws) ?_ ⟨?_,fun i p u hp hu=>?_⟩ (fun u hu=>(mem_append.1 hu).elim (k3 u) (h5 u)) (fun b hb=>hL b (by rw[<-hρ];exact hb)) fun z hz=>(mem_append.1 hz).elim (k5 z) (h8 z)) (fun ρ' _=>hle ρ') ?_ ?_ (fun b hb hne=>?_) (fun b i hb hi=>?_) fun b hb=>?_
 ·rw[hρ,hlen2];exact ho'
 ·rw[flatMap_append,length_append,k2.1,h4,length_append]
 ·rw[flatMap_append] at hp;rcases Nat.lt_or_ge i us.length with hlt2|hge
  ·rw[getElem?_append_left hlt2] at hu;rw[getElem?_append_left (by rw[k2.1];exact hlt2)] at hp;exact (k2.2 i p u hp hu).grow E.grow
  ·rw[getElem?_append_right hge] at hu;rw[getElem?_append_right (by rw[k2.1];exact hge),k2.1] at hp;exact (h6 _ p u hp hu).grow E.grow
 ·rcases hcase with h|h;exact h.2.size;exact h.2.size
 ·rcases hcase with h|h;exact⟨h.2.os,h.2.tape,h.2.output⟩;exact⟨h.2.os,h.2.tape,h.2.output⟩
 ·rcases hcase with⟨hv0,hg⟩|⟨_,hB⟩
  ·exact hg.block b hb fun h=>hne (by cases h;exact hv0)
  ·exact hB.block b hb
 ·rcases hcase with⟨hv0,hg⟩|⟨_,hB⟩
  ·have:b=g0:=by rw[hv0] at hb;cases hb;rfl
   subst this;have hil:=Nat.lt_of_lt_of_le hi hl;have c1:=ho'.cells (g:=b) rfl i us[i] (by rw[getElem?_append_left hil];exact getElem?_eq_getElem hil);have c2:=k1.cells (g:=b) (hown hv0) i us[i] (getElem?_eq_getElem hil);rw[add_lit,Nat.zero_add] at c1 c2;rw[c1,c2]
  ·exact hB.cell (kF k1 hb).2
 ·cases hb;refine⟨hlt,?_⟩;rcases hcase with⟨hv0,_⟩|⟨rfl,_⟩
  ·exact .inl ⟨hv0,hl'⟩
  ·exact .inr (Nat.le_refl _)
theorem Ba {d:Nat} {x:bF} {u:Value} {m':Mm} {ρ':Nat->Value} {L':Nat->Option Nat} (hR:kJ X N m a w ρ L) (E:Ext ρ m L w ρ' m' L' w') (ms:∀t,m' (.s t)=if t=d then some (.s x) else m (.s t)) (hN:d<N) (hu:SR ρ' m' L' w' x u):∀t y,m' (.s t)=some (.s y)->∃v,(a.put (some d) u).tmps[t]?=some v/\SR ρ' m' L' w' y v:=fun t y hy=>by
 by_cases htd:t=d
 ·subst htd;rw[ms,if_pos rfl] at hy;cases hy;exact⟨u,by simp[Act.put,hR.sz,hN],hu⟩
 ·rw[ms,if_neg htd] at hy;obtain⟨v,hv,hs⟩:=hR.sl t y hy;exact⟨v,by simp[Act.put,Ne.symm htd,hv],hs.ext E⟩
end
section
variable {P:Program} {Ld:bU} {X:Cx Ld} {N:Nat} {ops:Array Oper} {dr:Bool} {fin:List (Ky × En)->Prop} {o:Oper} {rest:List Oper} {acc:List (List Ky × List Ky)} {M:List (Ky × En)} {d:Nat} {ty:TypeId} {pos:String} {aO:Array Edge} {g:Option (Nat × Bool)} {x y:Operand} {sx sy:bF}
theorem aip {j n e q:Nat} {xs ys:List PV} {t:TypeId} (hx:ev M x=some (.ow j n)) (ho:get (.o j) M=some (.o (.row e q xs))) (hn:n=xs.length) (hy:ev M y=some (.v (.sl q ys))) (hys:0<ys.length) (hb:xs.length+ys.length<=100000) (ht:P.underlying t=some (.slice e)) (hi:lU P e q=true):Ru ⟨some d,.call {callee:=.builtin .append,args:=#[x,y],argTypes:=#[t,t]},ty,pos,aO,g⟩ P X N ops M (ok x++(.o j::ok y)) [.s d,.o j] ((.s d,.s (.ow j (xs++ys).length))::(.o j,.o (.row e q (xs++ys)))::M):=
 ⟨fun hD hw _ _ _ _ next=>
 have hN:d<N:=Nat.le_of_ble_eq_true hD;og (ok x++(.o j::ok y)) [(.s d,.s (.ow j (xs++ys).length)),(.o j,.o (.row e q (xs++ys)))] (fun m a w ρ L K Q hR hk hK=>by
  have hm:m (.o j)=some (.o (.row e q xs)):=(hk (.o j) (by simp)).trans ho;obtain⟨e',q',xs',s1,s2,s3⟩:=bI hR hx fun k h=>hk k (mem_append_left _ h)
  rw[hm] at s1;cases s1;obtain⟨us,k1,k2,k3,k4,k5⟩:=hR.hs.ob j _ hm
  have mo:∀i,upd m [(.s d,.s (.ow j (xs++ys).length)),(.o j,.o (.row e q (xs++ys)))] (.o i)=if i=j then some (.o (.row e q (xs++ys))) else m (.o i):=by
   intro i;by_cases hi:i=j<;>simp[upd,bK,get_nil,hi]
  have ms:∀t,upd m [(.s d,.s (.ow j (xs++ys).length)),(.o j,.o (.row e q (xs++ys)))] (.s t)=if t=d then some (.s (.ow j (xs++ys).length)) else m (.s t):=by
   intro t;by_cases ht:t=d<;>simp[upd,bK,get_nil,ht]
  generalize upd m [(.s d,.s (.ow j (xs++ys).length)),(.o j,.o (.row e q (xs++ys)))]=m' at*;have hll:us.length<=(xs++ys).length*q:=by rw[<-k2.1,vI xs k5,length_append,Nat.add_mul];omega
  obtain⟨v1,w',hrun,ρ',L',e1,E,hfin⟩:=Ro (d:=d) (ty:=ty) (pos:=pos) (aO:=aO) (g:=g) hR hm mo k1 k2 k3 k4 k5 (Nat.le_refl _) hll (s3 hn) (bI hR hy fun k h=>hk k (mem_append_right _ (mem_cons_of_mem _ h))) hys hb ht hi (fun ρ'=>⟨_,rfl,by rw[length_append];omega,fun h=>by rw[length_append] at h;omega⟩) fun ρ' L' w' us' h1 h2 h3 h4 h5=>⟨us',h1,h2,h3,fun b hb=>by rw[h4 b hb,<-h2.1,vI _ h5],h5⟩
  unfold Oper.wp;rw[hrun,Oper.upon_value];exact hK _ _ ⟨ρ',L',hfin _ (by simp[Act.put,hR.sz]) hR.df (Ba hR E ms hN ⟨e,q,xs++ys,by rw[mo,if_pos rfl],Nat.le_refl _,fun _=>e1.symm⟩)⟩) hw next⟩
theorem afG {v k j n e q:Nat} {xs ys:List PV} {t:TypeId} (hx:ev M x=some (.ox j n k)) (ho:get (.o j) M=some (.o (.aW v e q xs))) (hn:n=xs.length) (hv:k=v) (hy:ev M y=some (.v (.sl q ys))) (hys:0<ys.length) (hb:xs.length+ys.length<=100000) (ht:P.underlying t=some (.slice e)) (hi:lU P e q=true):Ru ⟨some d,.call {callee:=.builtin .append,args:=#[x,y],argTypes:=#[t,t]},ty,pos,aO,g⟩ P X N ops M (ok x++(.o j::ok y)) [.s d,.o j] ((.s d,.s (.ox j (xs++ys).length v))::(.o j,.o (.aW v e q (xs++ys)))::M):=
 ⟨fun hD hw _ _ _ _ next=>
 have hN:d<N:=Nat.le_of_ble_eq_true hD;og (ok x++(.o j::ok y)) [(.s d,.s (.ox j (xs++ys).length v)),(.o j,.o (.aW v e q (xs++ys)))] (fun m a w ρ L K Q hR hk hK=>by
  have hm:m (.o j)=some (.o (.aW v e q xs)):=(hk (.o j) (by simp)).trans ho;obtain⟨v',e',q',xs',s1,s2,s3⟩:=bI hR hx fun k h=>hk k (mem_append_left _ h)
  rw[hm] at s1;cases s1;obtain⟨us,k1,k2,k3,k4,k5⟩:=hR.hs.ob j _ hm
  have mo:∀i,upd m [(.s d,.s (.ox j (xs++ys).length v)),(.o j,.o (.aW v e q (xs++ys)))] (.o i)=if i=j then some (.o (.aW v e q (xs++ys))) else m (.o i):=by
   intro i;by_cases hi:i=j<;>simp[upd,bK,get_nil,hi]
  have ms:∀t,upd m [(.s d,.s (.ox j (xs++ys).length v)),(.o j,.o (.aW v e q (xs++ys)))] (.s t)=if t=d then some (.s (.ox j (xs++ys).length v)) else m (.s t):=by
   intro t;by_cases ht:t=d<;>simp[upd,bK,get_nil,ht]
  generalize upd m [(.s d,.s (.ox j (xs++ys).length v)),(.o j,.o (.aW v e q (xs++ys)))]=m' at*;obtain⟨v1,w',hrun,ρ',L',e1,E,hfin⟩:=Ro (lim':=0) (d:=d) (ty:=ty) (pos:=pos) (aO:=aO) (g:=g) hR hm mo k1 k2 k3 k4 k5 (Nat.zero_le _) (Nat.zero_le _) ((s3 hv).2 hn) (bI hR hy fun k h=>hk k (mem_append_right _ (mem_cons_of_mem _ h))) hys hb ht hi (fun ρ'=>⟨_,_,rfl,Nat.le_refl _,fun _=>⟨by rw[length_append];omega,fun h=>by rw[length_append] at h;omega⟩⟩) fun ρ' L' w' us' h1 h2 h3 h4 h5=>⟨us',h1,h2,h3,h4,h5⟩
  unfold Oper.wp;rw[hrun,Oper.upon_value];exact hK _ _ ⟨ρ',L',hfin _ (by simp[Act.put,hR.sz]) hR.df (Ba hR E ms hN ⟨v,e,q,xs++ys,by rw[mo,if_pos rfl],Nat.le_refl _,fun _=>⟨Nat.le_refl _,fun _=>e1.symm⟩⟩)⟩) hw next⟩
end
end Go.Proofs.YtjpbmbgincdjaaaGreatDoor
