/- A part of the proof: G8 G9 E9 Ga. -/
import Derived.Maps.AppendAt
import Derived.Test.YtgfeadgafdijaaaGreatDoorJ01
import Derived.Test.YtgfeadgafdijaaaGreatDoorJ20
set_option linter.unusedVariables false
set_option linter.unusedSimpArgs false
set_option maxRecDepth 100000
set_option maxHeartbeats 40000000
namespace Go.Proofs.YtgfeadgafdijaaaGreatDoor
open Go.RowKit
section
variable {P:Program}
theorem kG (W:World) (news:Array Value) {ops:Array Oper} {rest:List Oper} {o:Oper} {a:Act} {Q:Exit→Act→World→Prop} (hgd:o.guard=none) (s x:Operand) (t:TypeId)
  (ho:o.op=.call {callee:=.builtin .append,args:=#[s,x],argTypes:=#[t,t]})
  (base:Nat) (e:TypeId) (z:Value) (size bytes m:Nat) (ht:P.underlying t=some (.slice e)) (hinfo:(P.info? e).map (fun i=>(i.zero,i.size,i.bytes))=some (some z,size,bytes)) (hzs:z.cells.size=size) (hsz:0<size)
  (v:Value) (n:Nat) (xs:List Value) (hs:a.eval s=v) (hown:W.ownsRow base e size v n xs)
  (hx:a.eval x=.slice (some ⟨W.heap.size,0,none⟩) m m) (hl:news.size=m*size) (h1:∀u∈news.toList,u.oneCell'=true)
  (h63:n+m≤maxLen) (hbytes:(n+m)*bytes≤140737488355328) (hbase:base≤W.heap.size)
  (h:∀v' w',w'.ownsRow base e size v' (n+m) (xs++news.toList)→W.grownBy w' v.ownBlock→(∀g,v'.ownBlock=some g→v.ownBlock=some g∨W.heap.size≤g)→wpList P ops Q rest (a.put o.dst v') w'):
  wpList P ops Q (o::rest) a (W.alloc (.cells news e)):=by
 obtain⟨i,hi,hzz⟩:=Option.map_eq_some_iff.1 hinfo;simp only[Prod.mk.injEq] at hzz;obtain⟨hz,hs1,hb⟩:=hzz;refine wpList_append_own_at (w:=W.alloc (.cells news e)) hgd s x t ho base e i z size bytes ht hi hz hs1 hb hzs hsz v n xs hs (hown.alloc _) ⟨W.heap.size,0,none⟩ m m news.toList hx (by simpa using hl) ?_ h1 h63 hbytes (by simp;omega) ?_
 ·intro j u hj;have hb:=aj.new W e news;have hj':j<news.toList.length:=(List.getElem?_eq_some_iff.1 hj).1;have:=hb.cell hj';rw[show Addr.add ⟨W.heap.size,0,none⟩ j=⟨W.heap.size,j,none⟩ from by unfold Addr.add;split<;>simp_all,this,←(List.getElem?_eq_some_iff.1 hj).2]
 ·intro v' w' hown' hg _ hv;refine h v' w' hown' ?_ ?_
  ·have ha:=World.grownBy_alloc W (.cells news e) v.ownBlock;exact⟨hg.os.trans ha.os,hg.tape.trans ha.tape,hg.output.trans ha.output,Nat.le_trans ha.size hg.size,fun k hk hne=>(hg.block k (Nat.lt_of_lt_of_le hk ha.size) hne).trans (ha.block k hk hne)⟩
  ·intro g hgv;rcases hv with hv|hv
   ·exact .inl (by rw[←hv];exact hgv)
   ·rw[hv] at hgv;injection hgv with hgv;subst hgv;exact .inr (by rw[World.size_alloc];omega)
end
def Row1 (w:World) (X:Nat→Prop) (v:Value) (l:List Nat):Prop:=
 ∃A c,v=.slice A l.length c∧l.length≤c∧c≤maxLen∧Rd w A (I l)∧(l≠[]→∀ad,A=some ad→¬X ad.block)
theorem Row1.step {w w':World} {X X':Nat→Prop} {v:Value} {l:List Nat} {row:Option Nat} (h:Row1 w X v l) (hg:w.grownBy w' row) (hr:∀g,row=some g→X g) (hX:∀g,X' g→X g∨w.heap.size≤g):Row1 w' X' v l:=by
 obtain⟨A,c,rfl,h1,h2,h3,h4⟩:=h;refine⟨A,c,rfl,h1,h2,?_,?_⟩
 ·rcases h3 with h3|⟨b,off,rfl,hb,hc⟩
  ·exact .inl h3
  ·by_cases hl:l=[]
   ·subst hl;exact .inl rfl
   ·refine .inr ⟨b,off,rfl,Nat.lt_of_lt_of_le hb hg.size,fun i hi=>?_⟩;refine hg.cell (hc i hi) ?_;intro e;exact h4 hl _ rfl (hr b e.symm)
 ·intro hl ad hA hx;rcases hX _ hx with hx|hx
  ·exact h4 hl ad hA hx
  ·rcases h3 with h3|⟨b,off,hA',hb,hc⟩
   ·apply hl;have:=congrArg List.length h3;rw[iE] at this;exact List.eq_nil_of_length_eq_zero this
   ·rw[hA] at hA';injection hA' with e;subst e;exact absurd hx (by show ¬_≤b;omega)
structure LL (w:World) (X:Nat→Prop) (ls:List (List Nat)) (cs:List Value):Prop where
 len:cs.length=ls.length
 row:∀(i:Nat) (l:List Nat),ls[i]?=some l→∃v,cs[i]?=some v∧Row1 w X v l
theorem LL.step {w w':World} {X X':Nat→Prop} {ls:List (List Nat)} {cs:List Value} {row:Option Nat} (h:LL w X ls cs) (hg:w.grownBy w' row) (hr:∀g,row=some g→X g) (hX:∀g,X' g→X g∨w.heap.size≤g):LL w' X' ls cs:=
 ⟨h.len,fun i l hl=>by
   obtain⟨v,h1,h2⟩:=h.row i l hl;exact⟨v,h1,h2.step hg hr hX⟩⟩
theorem LL.snoc {w:World} {X:Nat→Prop} {ls:List (List Nat)} {cs:List Value} {l:List Nat} {v:Value} (h:LL w X ls cs) (hr:Row1 w X v l):LL w X (ls++[l]) (cs++[v]):=by
 refine⟨by simp[h.len],fun i l' hl=>?_⟩;rcases Nat.lt_trichotomy i ls.length with hi|hi|hi
 ·rw[List.getElem?_append_left hi] at hl;obtain⟨v',h1,h2⟩:=h.row i l' hl;exact⟨v',by rw[List.getElem?_append_left (by rw[h.len];exact hi)];exact h1,h2⟩
 ·subst hi;rw[List.getElem?_append_right (Nat.le_refl _)] at hl;simp at hl;subst hl;exact⟨v,by rw[←h.len,List.getElem?_append_right (Nat.le_refl _)];simp,hr⟩
 ·rw[List.getElem?_eq_none (by simp;omega)] at hl;cases hl
theorem below_grown {w w':World} (hb:Below w.heap.size w w'):w.grownBy w' none:=⟨hb.os,hb.tape,hb.output,hb.size,fun k hk _=>hb.block k hk⟩
theorem LL.below {w w':World} {X:Nat→Prop} {ls:List (List Nat)} {cs:List Value} (h:LL w X ls cs) (hb:Below w.heap.size w w'):LL w' X ls cs:=
 h.step (below_grown hb) (fun g h=>by cases h) (fun g h=>.inl h)
theorem own_below {w w':World} {base:Nat} {e:TypeId} {size:Nat} {v:Value} {n:Nat} {xs:List Value} (h:w.ownsRow base e size v n xs) (hb:Below w.heap.size w w'):w'.ownsRow base e size v n xs:=
 h.kept (below_grown hb) (by
  cases hv:v.ownBlock with
  |none=>exact .inl rfl
  |some g=>exact .inr (by intro h;cases h))
theorem zZ {w:World} {base:Nat} {e:TypeId} {A:Option Addr} {n c m:Nat} {xs:List Value} (h:w.ownsRow base e 1 (.slice A n c) n xs) (hm:m≤n):w.ownsRow base e 1 (.slice A m c) m (xs.take m):=by
 refine⟨by rw[List.length_take,h.1];omega,?_⟩;rcases h.2 with⟨hv,h0⟩|⟨g,cap,cur,hv,hb,hh,hn,hc,hs,ht⟩
 ·injection hv with e1 e2 e3;subst e1 e3;exact .inl ⟨by rw[show m=0 from by omega],by omega⟩
 ·injection hv with e1 e2 e3;subst e1 e3;refine .inr ⟨g,c,cur,rfl,hb,hh,by omega,hc,hs,?_⟩;rw[←ht,List.take_take];congr 1;omega
theorem KN {w:World} {b1 b2:Nat} {e1 e2:TypeId} {s1 s2:Nat} {v1 v2:Value} {n1 n2:Nat} {x1 x2:List Value} (h1:w.ownsRow b1 e1 s1 v1 n1 x1) (h2:w.ownsRow b2 e2 s2 v2 n2 x2) (he:e1≠e2):v1.ownBlock=none∨v1.ownBlock≠v2.ownBlock:=by
 rcases h1.2 with⟨rfl,_⟩|⟨g,cap,cur,rfl,_,hh,_⟩
 ·exact .inl rfl
 ·refine .inr ?_;rcases h2.2 with⟨rfl,_⟩|⟨g',cap',cur',rfl,_,hh',_⟩
  ·intro h;cases h
  ·intro h;have:g=g':=by simpa [Value.ownBlock] using h
   subst this;rw[hh] at hh';injection hh' with hh';injection hh' with _ ht;exact he ht
theorem AX {n:Nd} {r:List Nd} {d:Nat} (h:chk (n::r) d=0):bP n=0∧(aC n.op).ops≤d∧chk r (d-(aC n.op).ops+1)=0:=by
 rw[chk] at h;split at h
 ·next h1=>exact absurd h h1
 ·next h1=>
  split at h
  ·cases h
  ·exact⟨by simpa using h1,by omega,h⟩
theorem NV (st:List Nat) (o:Nat) (h:o≤st.length):(st.reverse.take o).reverse=st.drop (st.length-o)∧st.reverse.drop o=(st.take (st.length-o)).reverse:=by
 constructor
 ·rw[List.take_reverse,List.reverse_reverse]
 ·rw[List.drop_reverse]
theorem Iw (xs:List Nat) (n:Nat):I xs++[.int .i64 (n:Int)]=I (xs++[n]):=by unfold I;rw[List.map_append];rfl
theorem JC {w:World} {base:Nat} {e:TypeId} {v:Value} {l:List Nat} {X:Nat→Prop} (h:w.ownsRow base e 1 v l.length (I l)) (hX:∀g,X g→g<base):Row1 w X v l:=by
 obtain⟨A,c,rfl,h1,h2,h3,h4⟩:=zO h;exact⟨A,c,rfl,h1,h2,h3,fun _ ad hA hx=>by have:=h4 ad hA;have:=hX _ hx;omega⟩
theorem nJ (A:Option Addr) (n m c c':Nat):(Value.slice A n c).ownBlock=(Value.slice A m c').ownBlock:=by cases A<;>rfl
theorem KO:(Tryz.prog.info? 113).map (fun i=>(i.zero,i.size,i.bytes))=some (some (.slice none 0 0),1,24):=by kernel_rfl
structure Iy (w:World) (ls:List (List Nat)) (A:Option Addr) (n c:Nat):Prop where
 len:n=ls.length
 cap:n≤c
 max:c≤maxLen
 rows:∃cs,Rd w A cs∧LL w (fun _=>False) ls cs
def xE (ok:Bool) (ls:List (List Nat)) (w:World) (e:Ending) (w':World):Prop:=∃A n c,e=.returned (.tuple #[.slice A n c,.bool ok])∧Iy w' ls A n c∧Below w.heap.size w w'
theorem xE.bad {w w':World} (hb:Below w.heap.size w w'):xE false [] w (.returned (.tuple #[.slice none 0 0,.bool false])) w':=
 ⟨none,0,0,rfl,⟨rfl,Nat.le_refl _,by unfold maxLen;omega,[],.inl rfl,rfl,fun i l h=>by simp at h⟩,hb⟩
theorem WG (es:List Nd) (A1:Option Addr) (l1 c1:Nat) (w:World) (h1:Es w es A1 l1 c1) (hf1:∀n∈es,Fine n):
  Calls Tryz.prog 170 #[.slice A1 l1 c1] w (xE (bC es==0) (if bC es=0 then iY es else []) w):=by
 have HC:=zH (AV es A1 l1 c1 w h1.len h1.cap h1.max h1.rd hf1);have H1:=zH h1;by_cases hz:bC es=0
 ·have hk:=((pU es).1 hz).1;rw[←h1.len] at hk
  have hch:chk es 0=0:=by
   have:=hz;unfold bC at this;rwa[if_neg (by have:=h1.len;omega)] at this
  have wE:=zH hch;rw[hz] at HC⊢;rw[if_pos rfl];clear hz h1 hf1 hch;go_enter Tryz.func170,Tryz.ntmps170;go_wp2_with fail;refine HC.out.mono ?_;rintro e w1 ⟨rfl,hb1⟩;go_wp2
  go_loopg [5,6,7] l1 (fun g ov sv iv wr=>∃(k:Nat) (st:List Nat) (done:List (List Nat)) (cs:List Value) (A:Option Addr) (cp:Nat),k+g=l1∧iv=.int .i64 k∧sv=.slice A st.length cp∧st.length≤k∧
   Hid (wr.ownsRow w.heap.size 113 1 ov k cs)∧Hid (wr.ownsRow w.heap.size 3 1 (.slice A st.length cp) st.length (I st))∧Hid (iY es=done++iM (es.drop k) k st.reverse)∧
   Hid (LL wr (fun g=>(Value.slice A st.length cp).ownBlock=some g∨ov.ownBlock=some g) done cs)∧Hid (chk (es.drop k) st.length=0)∧Hid (done.length=k)∧Below w.heap.size w wr)
  case atStart=>
   refine⟨0,[],[],[],none,0,by omega,rfl,rfl,by simp,World.ownsRow_nil _ _ _ _,World.ownsRow_nil _ _ _ _,rfl,?_,wE.out,rfl,hb1⟩;exact⟨rfl,fun i l h=>by simp at h⟩
  case round=>
   obtain⟨k,st,done,cs,A,cp,hk',rfl,rfl,YW,Dv,hos,har,hll,hck,hdl,hbr⟩:=hrel;clear hb1;by_cases hlt:k<l1
   ·have hke:k<es.length:=by rw[←H1.out.len];exact hlt
    obtain⟨b,off,hA,hb,hc0,_⟩:=(H1.out.rd.below hbr).nd hke;subst hA;have hcons:=List.drop_eq_getElem_cons hke;have xX:=hck.out;rw[hcons] at xX;obtain⟨_,hops,xY⟩:=AX xX
    have oC:Hid (iY es=done++(((st.reverse.take (aC es[k].op).ops).reverse)::iM (es.drop (k+1)) (k+1) (k::st.reverse.drop (aC es[k].op).ops))):=by
     show _=_;rw[har.out,hcons,iM]
    have Du:=zH (fun W=>AU es[k].op W);generalize (aC es[k].op).ops=o at*;generalize es[k].op=op at*;have rH:=zH xY;clear hcons xX hck xY har;have hro:=NV st o hops;rw[hro.1,hro.2] at oC;have hrest:IntKind.i64.wrap ((st.length:Int)-o)=((st.length-o:Nat):Int):=by rw[IntWalk.i64_in _ (by omega)];omega
    obtain⟨bG,AY⟩:=zF (st.length-o);have F8:bG+o=st.length:=by omega
    have TQ:(st.length:Int)-o=(bG:Int):=by omega
    rw[AY] at oC hrest;have agq:=zH AY;clear hro AY;go_wp2_with fail;refine (Du.out _).mono ?_;rintro e w2 ⟨rfl,rfl⟩;obtain⟨W0,rfl⟩:∃W0:World,W0=wr:=⟨_,rfl⟩
    have acX:Rd W0 A (I st):=by
     obtain⟨A',cp',hv,_,_,hr,_⟩:=bM hos.out;injection hv with e1 e2 e3;subst e1;exact hr
    have YX:st.length≤cp∧cp≤maxLen:=by
     obtain⟨A',cp',hv,a1,a2,hr,_⟩:=bM hos.out;injection hv with e1 e2 e3;subst e3;exact⟨a1,a2⟩
    obtain⟨hcp1,hcp2⟩:=YX;unfold maxLen at hcp2;have qw:=zH acX;clear acX;go_wp2
    go_loopg [9,10] o (fun g ov iv wq=>∃j:Nat,j+g=o∧iv=.int .i64 ((bG:Int)+(j:Int))∧Hid (wq.ownsRow W0.heap.size 3 1 ov j (I ((st.drop bG).take j)))∧Below W0.heap.size W0 wq)
    case atStart=>exact⟨0,by omega,by simp,World.ownsRow_nil _ _ _ _,Below.refl _ _⟩
    case round=>
     obtain⟨j,hj,rfl,how,hbq⟩:=hrel;by_cases hjo:j<o
     ·have hj1:(bG:Int)+j<st.length:=by omega
      have hj2:0≤(bG:Int)+j:=by omega
      have hj3:((bG:Int)+j).toNat=bG+j:=by omega
      obtain⟨b2,off2,hA2,hb2,hcc⟩:=(qw.out.below hbq).at_ (k:=bG+j) (by rw[iE];omega);subst hA2;have hcell:=hcc (bG+j) (by rw[iE];omega);rw[EG] at hcell
      have hT:Hid (I ((st.drop bG).take (j+1))=I ((st.drop bG).take j)++[.int .i64 (st.getD (bG+j) 0:Nat)]):=by
       show _=_;rw[List.take_succ_eq_append_getElem (by rw[List.length_drop];omega),I,List.map_append,List.map_singleton,List.getElem_drop,List.getD_eq_getElem?_getD,List.getElem?_eq_getElem (by omega)];rfl
      generalize st.getD (bG+j) 0=x at*;have CU:=zH hbq;clear hcc hb2 hbq;go_wp2_with (at_builtin;go_must (refine dh wr #[.int .i64 (x:Int)] rfl _ _ 113 rfl W0.heap.size 3 (.int .i64 0) 1 8 1 Tryz.underlying113 fH rfl (by decide) u9 j _ rfl how.out rfl rfl ?_ ?_ ?_ ?_ ?_))
      any_goals first|rfl|(unfold maxLen;omega)|omega
      ·exact CU.out.size
      intro v' w' hown' hb';have HOWN:Hid (w'.ownsRow W0.heap.size 3 1 v' (j+1) (I ((st.drop bG).take (j+1)))):=by show World.ownsRow _ _ _ _ _ _ _;rw[hT.out];exact hown'
      have HB:=zH (CU.out.trans hb');clear hown' hb';go_wp2
      go_roundg (o-(j+1))
      case measure=>omega
      case rel=>exact⟨j+1,by omega,by first|go_num|(congr 1;omega),HOWN,HB.out⟩
     ·have acY:j=o:=by omega
      have hx1:decide ((bG:Int)+j<st.length)=false:=by rw[decide_eq_false_iff_not];omega
      have hro:(st.drop bG).take j=st.drop bG:=List.take_of_length_le (by rw[List.length_drop];omega);have TR:=how.out;rw[hro,show j=(st.drop bG).length from by rw[List.length_drop];omega] at TR;have YZ:=oC.out;obtain⟨l9,KP⟩:=zF (st.drop bG);rw[KP] at TR YZ;have agr:=zH YZ;have hs2:=own_below hos.out hbq;have hs3:=zZ hs2 (show bG≤st.length from by omega);rw[CJ] at hs3;have ho2:=own_below Dv.out hbq;have Dw:=hll.out.below hbq
      have hrow:Row1 wr (fun g=>(Value.slice A st.length cp).ownBlock=some g∨u5.ownBlock=some g) u9 l9:=
       JC TR (fun g hg=>by
        rcases hg with hg|hg
        ·exact (hos.out.lt g hg).2
        ·exact (Dv.out.lt g hg).2)
      have hbw:Below w.heap.size w wr:=hbr.trans (hbq.mono hbr.size);have HS3:=zH hs3;have nP:=zH ho2;have F9:=zH Dw;have JD:=zH hrow;have bF:=zH hbw;have agt:bG≤cp:=by omega
      have hkk:k≤60:=by omega
      obtain⟨A9,c9,hu9,_⟩:=hrow;subst hu9;clear YZ KP oC hro TR hs2 hs3 ho2 Dw hbw hos Dv hll how hbq hbr qw;go_wp2_with (at_builtin;go_must (refine kG wr #[.int .i64 (k:Int)] rfl _ _ 113 rfl w.heap.size 3 (.int .i64 0) 1 8 1 Tryz.underlying113 fH rfl (by decide) (.slice A bG cp) bG _ rfl HS3.out rfl rfl ?_ ?_ ?_ ?_ ?_))
      any_goals first|rfl|(unfold maxLen;omega)|omega
      ·exact bF.out.size
      intro v1 w2 hown1 hg1 hv1;have hb1:Below w.heap.size w w2:=bF.out.grown hg1 bF.out.size (fun g hg=>(HS3.out.lt g hg).1);have WH:w2.ownsRow w.heap.size 3 1 v1 (bG+1) (I (st.take bG++[k])):=by rw[←Iw];exact hown1
      have ho3:=nP.out.kept hg1 (KN nP.out HS3.out (by decide))
      have hX1:∀g,(v1.ownBlock=some g∨u5.ownBlock=some g)→(((Value.slice A st.length cp).ownBlock=some g∨u5.ownBlock=some g)∨wr.heap.size≤g):=fun g hg=>by
       rcases hg with hg|hg
       ·rcases hv1 g hg with h|h
        ·exact .inl (.inl ((nJ _ _ _ _ _).trans h))
        ·exact .inr h
       ·exact .inl (.inr hg)
      have hrow2:=JD.out.step hg1 (fun g hg=>.inl ((nJ _ _ _ _ _).trans hg)) hX1;have acZ:=(F9.out.step hg1 (fun g hg=>.inl ((nJ _ _ _ _ _).trans hg)) hX1).snoc hrow2;have HB1:=zH hb1;have HS4:=zH WH;have yQ:=zH ho3;have ac1:=zH acZ;clear hb1 hown1 WH hg1 hv1 ho3 hX1 hrow2 acZ HS3 nP F9 JD bF;go_wp2_with (at_builtin;go_must (refine kG w2 #[.slice A9 l9.length c9] rfl _ _ 153 rfl w.heap.size 113 (.slice none 0 0) 1 24 1 Tryz.underlying153 KO rfl (by decide) u5 k cs rfl yQ.out rfl rfl ?_ ?_ ?_ ?_ ?_))
      any_goals first|rfl|(unfold maxLen;omega)|omega
      ·exact HB1.out.size
      intro v2 w3 hown2 hg2 hv2;have hb2:Below w.heap.size w w3:=HB1.out.grown hg2 HB1.out.size (fun g hg=>(yQ.out.lt g hg).1);have hs5:=HS4.out.kept hg2 (KN HS4.out yQ.out (by decide))
      have Y0:=ac1.out.step (X':=fun g=>v1.ownBlock=some g∨v2.ownBlock=some g) hg2 (fun g hg=>.inr hg) (fun g hg=>by
       rcases hg with hg|hg
       ·exact .inl (.inl hg)
       ·rcases hv2 g hg with h|h
        ·exact .inl (.inr h)
        ·exact .inr h)
      have hsl:(st.take bG++[k]).length=bG+1:=by rw[List.length_append,List.length_take];simp;omega
      obtain⟨A',cp',rfl,_,_,_,_⟩:=bM hs5;rw[←hsl] at hs5 Y0;have HB2:=zH hb2;have HS5:=zH hs5;have agu:=zH Y0;have HO5:Hid (w3.ownsRow w.heap.size 113 1 v2 (k+1) (cs++[.slice A9 l9.length c9])):=hown2;have HSL:=zH hsl;clear hb2 hown2 hg2 hv2 hs5 Y0 HB1 HS4 yQ ac1 hsl;go_wp2
      go_roundg (l1-(k+1))
      case measure=>omega
      case rel=>
       refine⟨k+1,st.take bG++[k],done++[l9],cs++[.slice A9 l9.length c9],A',cp',by omega,by go_num,by rw[HSL.out],by rw[HSL.out];omega,HO5,HS5,?_,agu,?_,?_,HB2.out⟩
       ·show _=_;rw[agr.out,List.reverse_append,List.append_assoc];rfl
       ·show _=_;rw[HSL.out,←agq.out];exact rH.out
       ·show _=_;rw[List.length_append,hdl.out];rfl
   ·have hkl:k=l1:=by omega
    have oC:Hid (iY es=done):=by
     show _=_;rw[har.out,hkl,H1.out.len,List.drop_length];simp[iM]
    obtain⟨Ao,co,rfl,g1,g2,g3,g4⟩:=bM Dv.out;have Dw:LL wr (fun _=>False) done cs:=hll.out.step (below_grown (Below.refl _ _)) (fun g h=>by cases h) (fun g h=>h.elim);have F9:=zH Dw;have G3:=zH g3;have hx1:decide (k<l1)=false:=decide_eq_false hlt;clear Dw g3 g4 Dv hos hll hck har;go_wp2;go_ret2;refine⟨Ao,k,co,rfl,⟨?_,g1,g2,cs,G3.out,?_⟩,hbr⟩
    ·rw[oC.out,hdl.out]
    ·rw[oC.out];exact F9.out
 ·rw[if_neg hz];obtain⟨zz,hzz⟩:=zF (bC es);rw[hzz] at hz HC⊢;have e1:(zz !=0)=true:=by simp[hz]
  have e2:(zz==0)=false:=by simp[hz]
  rw[e2];clear hz h1 hf1 hzz;go_enter Tryz.func170,Tryz.ntmps170;go_wp2_with fail;refine HC.out.mono ?_;rintro e w1 ⟨rfl,hb1⟩;go_wp2;go_ret2;exact xE.bad hb1
theorem ac2 (l:List Nat):I l=(l.map (fun n:Nat=>(n:Int))).map (Value.int .i64):=by unfold I;rw[List.map_map];rfl
theorem AZ {l:List Nat} {X:Option Addr} {m c:Nat} {W:World} (hm:m=l.length) (h:Rd W X (I l)) (h60:m≤60):
  Calls Tryz.prog 148 #[.slice X m c] W fun e w'=>∃v',e=.returned v'∧Row1 w' (fun g=>g<W.heap.size) v' l∧Below W.heap.size W w':=by
 cases X with
 |none=>
  have hl:l=[]:=by
   rcases h with h|⟨b,off,h,_⟩
   ·have:=congrArg List.length h;rw[iE] at this;exact List.eq_nil_of_length_eq_zero this
   ·cases h
  subst hl;refine (Tryz.slices_Clone_int_nil m c W).mono ?_;rintro e w' ⟨rfl,rfl⟩;exact⟨_,rfl,⟨none,0,rfl,Nat.le_refl _,by unfold maxLen;omega,.inl rfl,fun h=>absurd rfl h⟩,Below.refl _ _⟩
 |some a=>
  rcases Nat.eq_zero_or_pos m with h0|h0
  ·subst h0;obtain rfl:l=[]:=List.eq_nil_of_length_eq_zero hm.symm;refine (Tryz.slices_Clone_int_zero a c W).mono ?_;rintro e w' ⟨v',rfl,ho,_,hb⟩;exact⟨_,rfl,JC (l:=[]) ho (fun g hg=>hg),hb⟩
  ·obtain⟨b,off,e,_,hc⟩:=h.at_ (k:=0) (by rw[iE];omega);injection e with e;subst e;refine (Tryz.slices_Clone_int b off m c (l.map (fun n:Nat=>(n:Int))) W (by simp;omega) (by omega) ?_).mono ?_
   ·intro j hj;rw[List.length_map] at hj;rw[hc j (by rw[iE];exact hj),EG];rw[List.getD_eq_getElem?_getD,List.getD_eq_getElem?_getD,List.getElem?_map];rw[List.getElem?_eq_getElem hj];rfl
   ·rintro e w' ⟨v',rfl,ho,_,hb⟩;rw[List.take_of_length_le (by simp;omega),←ac2,hm] at ho;exact⟨_,rfl,JC ho (fun g hg=>hg),hb⟩
theorem Gf (cs:List Value) (n:Nat) (v z:Value) (k:Nat) (hk:cs.length=k) (hn:k<n):(cs++List.replicate (n-k) z).set k v=(cs++[v])++List.replicate (n-(k+1)) z:=by
 rw[List.set_append_right _ _ (by omega),hk,Nat.sub_self,show n-k=(n-(k+1))+1 from by omega,List.replicate_succ,List.set_cons_zero,List.append_assoc];rfl
theorem xZ (w:World) (p:Addr) (v:Value):(w.setCell p v).heap.size=w.heap.size:=by simp[World.setCell]
theorem lM (w:World) (g i:Nat) (u:Value):w.grownBy (w.setCell ⟨g,i,none⟩ u) (some g):=
 ⟨rfl,rfl,rfl,by simp[World.setCell],fun k _ hne=>Below.heap_setCell w _ u k (fun h=>hne (by rw[h]))⟩
theorem JE {w:World} {b off:Nat} {cs:List Value} (h:Rd w (some ⟨b,off,none⟩) cs) (k:Nat):Rd w (some ⟨b,off+k,none⟩) (cs.drop k):=by
 by_cases hk:k<cs.length
 ·obtain⟨b',off',e,hb,hc⟩:=h.at_ hk;injection e with e;injection e with e1 e2;subst e1 e2;refine .inr ⟨b,off+k,rfl,hb,fun i hi=>?_⟩;rw[List.length_drop] at hi;rw[Nat.add_assoc,hc (k+i) (by omega),List.getElem_drop]
 ·exact .inl (List.drop_eq_nil_of_le (by omega))
def Iz (ok:Bool) (ls:List (List Nat)) (w:World) (e:Ending) (w':World):Prop:=∃A n c,e=.returned (.tuple #[.slice A n c,.bool ok])∧Iy w' ls A n c∧Below w.heap.size w w'∧(∀ad,A=some ad→w.heap.size≤ad.block)∧∃cs,Rd w' A cs∧LL w' (fun g=>g<w.heap.size) ls cs
theorem Iz.bad {w w':World} (hb:Below w.heap.size w w'):Iz false [] w (.returned (.tuple #[.slice none 0 0,.bool false])) w':=
 ⟨none,0,0,rfl,⟨rfl,Nat.le_refl _,by unfold maxLen;omega,[],.inl rfl,rfl,fun i l h=>by simp at h⟩,hb,(fun _ h=>by cases h),[],.inl rfl,rfl,fun i l h=>by simp at h⟩
theorem NW (es:List Nd) (A1:Option Addr) (l1 c1:Nat) (w:World) (hL:dK w) (h1:Es w es A1 l1 c1) (hf1:∀n∈es,Fine n):
  Calls Tryz.prog 105 #[.slice A1 l1 c1] w (Iz (bC es==0) (if bC es=0 then iY es else []) w):=by
 have HC:=zH (check_any es A1 l1 c1 w hL h1.len h1.cap h1.max h1.rd hf1);have H1:=zH h1;have HL:=zH hL;by_cases hz:bC es=0
 ·have hk:=((pU es).1 hz).1;rw[←h1.len] at hk;have KJ:=zH (WE hz)
  have hch:chk es 0=0:=by
   have:=hz;unfold bC at this;rwa[if_neg (by have:=h1.len;omega)] at this
  have wE:=zH hch;rw[hz] at HC⊢;rw[if_pos rfl];clear hz h1 hf1 hch hL;go_enter Tryz.func105,Tryz.ntmps105;go_wp2_with fail;refine HC.out.mono ?_;rintro e w1 ⟨rfl,hb1⟩;go_wp2_with (refine dX _ rfl _ _ 153 rfl 113 (.slice none 0 0) 24 Tryz.underlying153 KO rfl _ _ _ _ l1 rfl rfl rfl rfl (by omega) (by omega) ?_;intro w2 hko hb2);have hB2:=ah hb1 hb2;obtain⟨Bo,hBo⟩:=zE w1.heap.size;rw[←hBo] at hko⊢;have TS:w.heap.size≤Bo:=by rw[hBo];exact hb1.size
  clear hb1 hb2 hBo;go_wp2
  go_loopg [5,17] l1 (fun g sv iv wr=>∃(k:Nat) (st:List Nat) (done:List (List Nat)) (cs:List Value) (A:Option Addr) (cp:Nat),k+g=l1∧iv=.int .i64 k∧sv=.slice A st.length cp∧st.length≤k∧
   Hid (aj wr Bo 113 (cs++List.replicate (l1-k) (.slice none 0 0)))∧Hid (wr.ownsRow (Bo+1) 3 1 (.slice A st.length cp) st.length (I st))∧Hid (iY es=done++iM (es.drop k) k st.reverse)∧
   Hid (LL wr (fun g=>(Value.slice A st.length cp).ownBlock=some g∨g=Bo∨g<w.heap.size) done cs)∧Hid (chk (es.drop k) st.length=0)∧Hid (done.length=k)∧Below w.heap.size w wr)
  case atStart=>
   refine⟨0,[],[],[],none,0,by omega,rfl,rfl,by simp,?_,World.ownsRow_nil _ _ _ _,rfl,?_,wE.out,rfl,hB2⟩
   ·exact hko
   ·exact⟨rfl,fun i l h=>by simp at h⟩
  case round=>
   obtain⟨k,st,done,cs,A,cp,hk',rfl,rfl,YW,Dv,hos,har,hll,hck,hdl,hbr⟩:=hrel;clear hB2 hko;have Ba:Hid (cs.length=k):=by show _=_;rw[hll.out.len,hdl.out]
   by_cases hlt:k<l1
   ·have hke:k<es.length:=by rw[←H1.out.len];exact hlt
    obtain⟨b,off,hA,hb,hc0,hc1,hc2,hc3,hc4⟩:=(H1.out.rd.below hbr).nd hke;subst hA;have hcons:=List.drop_eq_getElem_cons hke;have xX:=hck.out;rw[hcons] at xX;obtain⟨hw0,hops,xY⟩:=AX xX;have agv:=Dn hw0
    have oC:iY es=done++(((st.reverse.take (aC es[k].op).ops).reverse)::iM (es.drop (k+1)) (k+1) (k::st.reverse.drop (aC es[k].op).ops)):=by
     rw[har.out,hcons,iM]
    generalize es[k]=nn at*;obtain⟨op,⟨neg,num,den⟩,nm⟩:=nn;simp only at hc0 hc1 hc2 hc3 hc4 hops xY agv oC;obtain⟨p,rfl⟩:∃p:Nat,op=p:=⟨op.toNat,by omega⟩
    have hla:=(HL.out.below hbr).alloc (.cells #[.int .i64 (p:Int),.bool neg,.string num,.string den,.string nm] 48);have ht:=hla.cell p 1 (by omega) (by omega);simp only[Sh.cells,List.getElem?_cons_succ,List.getElem?_cons_zero] at ht;generalize (aC (p:Int)).ops=o at*;clear hcons xX hck har hw0 hla;have hro:=NV st o hops;rw[hro.1,hro.2] at oC;obtain⟨bG,AY⟩:=zF (st.length-o);have F8:bG+o=st.length:=by omega
    have TQ:(st.length:Int)-o=(bG:Int):=by omega
    have hrest:IntKind.i64.wrap ((st.length:Int)-o)=(bG:Int):=by rw[IntWalk.i64_in _ (by omega)];omega
    rw[AY] at oC xY;have rH:=zH xY;obtain⟨l9,KP⟩:=zF (st.drop bG);have Gg:l9.length=st.length-bG:=by rw[←KP,List.length_drop]
    rw[KP] at oC;have Du:=zH oC;clear hro AY oC xY;have hwa:wr.grownBy (wr.alloc (.cells #[.int .i64 (p:Int),.bool neg,.string num,.string den,.string nm] 48)) none:=World.grownBy_alloc _ _ _;have hba:Below wr.heap.size wr (wr.alloc (.cells #[.int .i64 (p:Int),.bool neg,.string num,.string den,.string nm] 48)):=(Below.refl _ _).alloc (Nat.le_refl _) _
    have hcase:(A=none∧st.length=0∧cp=0)∨∃g,A=some ⟨g,0,none⟩∧st.length≤cp∧cp≤maxLen:=by
     rcases hos.out.2 with⟨hv,h0⟩|⟨g,cap,cur,hv,_,_,hn,hm,_⟩
     ·injection hv with e1 e2 e3;exact .inl ⟨e1,h0,e3⟩
     ·injection hv with e1 e2 e3;subst e3;exact .inr ⟨g,e1,hn,hm⟩
    have wF:=zH ((Dv.out.below hba Dv.out.lt));have rJ:=zH (own_below hos.out hba);have Ac:=zH (hll.out.below hba);have fQ:=zH (hbr.trans (hba.mono hbr.size));have HHS:Hid (wr.heap.size≤(wr.alloc (.cells #[.int .i64 (p:Int),.bool neg,.string num,.string den,.string nm] 48)).heap.size):=hba.size;have HL9:=zH KP;have ai2:k≤60:=by omega
    clear Dv hos hll hbr hwa hba KP;generalize hWA:wr.alloc (.cells #[.int .i64 (p:Int),.bool neg,.string num,.string den,.string nm] 48)=WA at wF rJ Ac fQ HHS;have HWA:=zH hWA;clear hWA;rcases hcase with⟨rfl,hs0,rfl⟩|⟨g0,rfl,hcp1,hcp2⟩
    ·have YM:st=[]:=List.eq_nil_of_length_eq_zero hs0;subst YM;obtain rfl:bG=0:=by simp at F8;omega
     obtain rfl:o=0:=by simpa using F8
     simp only[List.length_nil] at Gg;clear F8 TQ hrest hs0 YW hops;have Dx:=zH Gg;clear Gg;go_wp2_with fail;rw[HWA.out];refine (AZ (l:=l9) ?_ ?_ ?_).mono ?_
     ·have:=Dx.out;omega
     ·first
      |(have h0:l9=[]:=List.eq_nil_of_length_eq_zero (by have:=Dx.out;omega)
        subst h0;exact .inl rfl)
      |(obtain⟨A',c',hv,_,_,hr,_⟩:=bM rJ.out
        injection hv with q1 q2 q3;subst q1;have hr2:=JE hr 0;rw[Nat.zero_add] at hr2;rw[←HL9.out];unfold I at hr2⊢;rw[List.map_drop];exact hr2)
     ·omega
     rintro e w2 ⟨v',rfl,hrow,hb2⟩;have hrow1:=hrow;obtain⟨A9,c9,rfl,_⟩:=hrow1;have sG:=wF.out.below hb2 wF.out.lt;have hcB:=sG.cell (i:=k) (by rw[List.length_append,List.length_replicate,Ba.out];omega);rw[List.getElem_append_right (by rw[Ba.out];exact Nat.le_refl _),List.getElem_replicate] at hcB;have hfB:=sG.frozen k;have hks:=sG.set k (.slice A9 l9.length c9);rw[Gf cs l1 (.slice A9 l9.length c9) (.slice none 0 0) k Ba.out hlt] at hks;have hgs:=lM w2 Bo k (.slice A9 l9.length c9);have uw:WA.ownsRow (Bo+1) 3 1 (.slice none 0 0) 0 (I []):=rJ.out;have vY:=own_below uw hb2
     have Dy:=vY.kept hgs (by
      cases hv:(Value.slice none 0 0).ownBlock with
      |none=>exact .inl rfl
      |some g=>exact .inr (fun h=>by have:=(vY.lt g hv).1;have:g=Bo:=(Option.some.inj h);omega))
     have sH:=zZ Dy (show 0≤0 from by omega);rw[CJ] at sH;have hbw:Below w.heap.size w (w2.setCell ⟨Bo,k,none⟩ (.slice A9 l9.length c9)):=(fQ.out.trans (hb2.mono fQ.out.size)).setCell (p:=⟨Bo,k,none⟩) TS _
     have hX0:∀g,((Value.slice none 0 0).ownBlock=some g∨g=Bo∨g<w.heap.size)→g<WA.heap.size:=fun g hg=>by
      rcases hg with hg|rfl|hg
      ·exact (uw.lt g hg).2
      ·exact wF.out.lt
      ·exact Nat.lt_of_lt_of_le hg fQ.out.size
     have hrow2:Row1 (w2.setCell ⟨Bo,k,none⟩ (.slice A9 l9.length c9)) (fun g=>(Value.slice none 0 0).ownBlock=some g∨g=Bo∨g<w.heap.size) (.slice A9 l9.length c9) l9:=
      hrow.step hgs (fun g hg=>by have:g=Bo:=(Option.some.inj hg).symm;subst this;exact wF.out.lt) (fun g hg=>.inl (hX0 g hg))
     have x9:=((Ac.out.below hb2).step hgs (fun g hg=>.inr (.inl (Option.some.inj hg).symm)) (fun g hg=>.inl hg)).snoc hrow2;obtain⟨w3,hw3⟩:∃x,x=w2.setCell ⟨Bo,k,none⟩ (.slice A9 l9.length c9):=⟨_,rfl⟩
     rw[←hw3] at sH hbw x9 hks;have sJ:=zH sH;have bF:=zH hbw;have Dz:=zH x9;have DC:=zH hks;have HW3:=zH hw3;have ac6:Bo+1≤w3.heap.size:=hks.lt;clear hrow sG hks hgs uw vY Dy sH hbw hX0 hrow2 x9 hw3 hb2 rJ fQ Ac wF;go_wp2_with (at_builtin;rw[←HW3.out];go_must (refine kG w3 #[.int .i64 (k:Int)] rfl _ _ 113 rfl (Bo+1) 3 (.int .i64 0) 1 8 1 Tryz.underlying113 fH rfl (by decide) (.slice none 0 0) 0 _ rfl sJ.out (by rw[HW3.out,xZ];rfl) rfl ?_ ?_ ?_ ?_ ?_))
     any_goals first|rfl|(unfold maxLen;omega)|omega
     intro v1 w4 hown1 hg1 hv1;have hb4:Below w.heap.size w w4:=bF.out.grown hg1 bF.out.size (fun g hg=>by have:=(sJ.out.lt g hg).1;omega)
     have hX1:∀g,(v1.ownBlock=some g∨g=Bo∨g<w.heap.size)→(((Value.slice none 0 0).ownBlock=some g∨g=Bo∨g<w.heap.size)∨w3.heap.size≤g):=fun g hg=>by
      rcases hg with hg|hg
      ·rcases hv1 g hg with h|h
       ·exact .inl (.inl ((nJ _ _ _ _ _).trans h))
       ·exact .inr h
      ·exact .inl (.inr hg)
     have yc:=Dz.out.step hg1 (fun g hg=>.inl ((nJ _ _ _ _ _).trans hg)) hX1;have DF:aj w4 Bo 113 (cs++[.slice A9 l9.length c9]++List.replicate (l1-(k+1)) (.slice none 0 0)):=DC.out.of_block (hg1.block Bo DC.out.lt (fun h=>by have:=(sJ.out.lt Bo h.symm).1;omega));have hown2:w4.ownsRow (Bo+1) 3 1 v1 (0+1) (I (([]:List Nat).take 0++[k])):=by rw[←Iw];first|exact hown1|(rw[List.take_length];exact hown1)
     have hsl:(([]:List Nat).take 0++[k]).length=0+1:=by rw[List.length_append,List.length_take];simp<;>omega
     obtain⟨A',cp',rfl,_,_,_,_⟩:=bM hown2;rw[←hsl] at hown2 yc;have HB4:=zH hb4;have NY:=zH yc;have NZ:=zH DF;have wQ:=zH hown2;have HSL:=zH hsl;clear hb4 hX1 yc DF hown2 hown1 hg1 hv1 hsl Dz DC sJ;go_wp2
     go_roundg (l1-(k+1))
     case measure=>omega
     case rel=>
      refine⟨k+1,([]:List Nat).take 0++[k],done++[l9],cs++[.slice A9 l9.length c9],A',cp',by omega,by go_num,by rw[HSL.out],by rw[HSL.out];omega,NZ,wQ,?_,NY,?_,?_,HB4.out⟩
      ·show _=_;rw[Du.out,List.reverse_append,List.append_assoc];rfl
      ·show _=_;rw[HSL.out];exact rH.out
      ·show _=_;rw[List.length_append,hdl.out];rfl
    ·unfold maxLen at hcp2;have hra:bG+o≤st.length:=by omega
     have hrb:st.length≤bG+o:=by omega
     clear F8;by_cases hcc:cp=bG
     ·obtain rfl:o=0:=by omega
      obtain rfl:bG=st.length:=by omega
      subst hcc;clear TQ hrest hra hrb hops;have Dx:=zH Gg;clear Gg;go_wp2_with fail;rw[HWA.out];refine (AZ (l:=l9) ?_ ?_ ?_).mono ?_
      ·have:=Dx.out;omega
      ·first
       |(have h0:l9=[]:=List.eq_nil_of_length_eq_zero (by have:=Dx.out;omega)
         subst h0;exact .inl rfl)
       |(obtain⟨A',c',hv,_,_,hr,_⟩:=bM rJ.out
         injection hv with q1 q2 q3;subst q1;have hr2:=JE hr st.length;rw[Nat.zero_add] at hr2;rw[←HL9.out];unfold I at hr2⊢;rw[List.map_drop];exact hr2)
      ·omega
      rintro e w2 ⟨v',rfl,hrow,hb2⟩;have hrow1:=hrow;obtain⟨A9,c9,rfl,_⟩:=hrow1;have sG:=wF.out.below hb2 wF.out.lt;have hcB:=sG.cell (i:=k) (by rw[List.length_append,List.length_replicate,Ba.out];omega);rw[List.getElem_append_right (by rw[Ba.out];exact Nat.le_refl _),List.getElem_replicate] at hcB;have hfB:=sG.frozen k;have hks:=sG.set k (.slice A9 l9.length c9);rw[Gf cs l1 (.slice A9 l9.length c9) (.slice none 0 0) k Ba.out hlt] at hks;have hgs:=lM w2 Bo k (.slice A9 l9.length c9);have uw:WA.ownsRow (Bo+1) 3 1 (.slice (some ⟨g0,0,none⟩) st.length st.length) st.length (I st):=rJ.out;have vY:=own_below uw hb2
      have Dy:=vY.kept hgs (by
       cases hv:(Value.slice (some ⟨g0,0,none⟩) st.length st.length).ownBlock with
       |none=>exact .inl rfl
       |some g=>exact .inr (fun h=>by have:=(vY.lt g hv).1;have:g=Bo:=(Option.some.inj h);omega))
      have sH:=zZ Dy (show st.length≤st.length from by omega);rw[CJ] at sH;have hbw:Below w.heap.size w (w2.setCell ⟨Bo,k,none⟩ (.slice A9 l9.length c9)):=(fQ.out.trans (hb2.mono fQ.out.size)).setCell (p:=⟨Bo,k,none⟩) TS _
      have hX0:∀g,((Value.slice (some ⟨g0,0,none⟩) st.length st.length).ownBlock=some g∨g=Bo∨g<w.heap.size)→g<WA.heap.size:=fun g hg=>by
       rcases hg with hg|rfl|hg
       ·exact (uw.lt g hg).2
       ·exact wF.out.lt
       ·exact Nat.lt_of_lt_of_le hg fQ.out.size
      have hrow2:Row1 (w2.setCell ⟨Bo,k,none⟩ (.slice A9 l9.length c9)) (fun g=>(Value.slice (some ⟨g0,0,none⟩) st.length st.length).ownBlock=some g∨g=Bo∨g<w.heap.size) (.slice A9 l9.length c9) l9:=
       hrow.step hgs (fun g hg=>by have:g=Bo:=(Option.some.inj hg).symm;subst this;exact wF.out.lt) (fun g hg=>.inl (hX0 g hg))
      have x9:=((Ac.out.below hb2).step hgs (fun g hg=>.inr (.inl (Option.some.inj hg).symm)) (fun g hg=>.inl hg)).snoc hrow2;obtain⟨w3,hw3⟩:∃x,x=w2.setCell ⟨Bo,k,none⟩ (.slice A9 l9.length c9):=⟨_,rfl⟩
      rw[←hw3] at sH hbw x9 hks;have sJ:=zH sH;have bF:=zH hbw;have Dz:=zH x9;have DC:=zH hks;have HW3:=zH hw3;have ac6:Bo+1≤w3.heap.size:=hks.lt;clear hrow sG hks hgs uw vY Dy sH hbw hX0 hrow2 x9 hw3 hb2 rJ fQ Ac wF;go_wp2_with (at_builtin;rw[←HW3.out];go_must (refine kG w3 #[.int .i64 (k:Int)] rfl _ _ 113 rfl (Bo+1) 3 (.int .i64 0) 1 8 1 Tryz.underlying113 fH rfl (by decide) (.slice (some ⟨g0,0,none⟩) st.length st.length) st.length _ rfl sJ.out (by rw[HW3.out,xZ];rfl) rfl ?_ ?_ ?_ ?_ ?_))
      any_goals first|rfl|(unfold maxLen;omega)|omega
      intro v1 w4 hown1 hg1 hv1;have hb4:Below w.heap.size w w4:=bF.out.grown hg1 bF.out.size (fun g hg=>by have:=(sJ.out.lt g hg).1;omega)
      have hX1:∀g,(v1.ownBlock=some g∨g=Bo∨g<w.heap.size)→(((Value.slice (some ⟨g0,0,none⟩) st.length st.length).ownBlock=some g∨g=Bo∨g<w.heap.size)∨w3.heap.size≤g):=fun g hg=>by
       rcases hg with hg|hg
       ·rcases hv1 g hg with h|h
        ·exact .inl (.inl ((nJ _ _ _ _ _).trans h))
        ·exact .inr h
       ·exact .inl (.inr hg)
      have yc:=Dz.out.step hg1 (fun g hg=>.inl ((nJ _ _ _ _ _).trans hg)) hX1;have DF:aj w4 Bo 113 (cs++[.slice A9 l9.length c9]++List.replicate (l1-(k+1)) (.slice none 0 0)):=DC.out.of_block (hg1.block Bo DC.out.lt (fun h=>by have:=(sJ.out.lt Bo h.symm).1;omega));have hown2:w4.ownsRow (Bo+1) 3 1 v1 (st.length+1) (I (st.take st.length++[k])):=by rw[←Iw];first|exact hown1|(rw[List.take_length];exact hown1)
      have hsl:(st.take st.length++[k]).length=st.length+1:=by rw[List.length_append,List.length_take];simp<;>omega
      obtain⟨A',cp',rfl,_,_,_,_⟩:=bM hown2;rw[←hsl] at hown2 yc;have HB4:=zH hb4;have NY:=zH yc;have NZ:=zH DF;have wQ:=zH hown2;have HSL:=zH hsl;clear hb4 hX1 yc DF hown2 hown1 hg1 hv1 hsl Dz DC sJ;go_wp2
      go_roundg (l1-(k+1))
      case measure=>omega
      case rel=>
       refine⟨k+1,st.take st.length++[k],done++[l9],cs++[.slice A9 l9.length c9],A',cp',by omega,by go_num,by rw[HSL.out],by rw[HSL.out];omega,NZ,wQ,?_,NY,?_,?_,HB4.out⟩
       ·show _=_;rw[Du.out,List.reverse_append,List.append_assoc];rfl
       ·show _=_;rw[HSL.out];exact rH.out
       ·show _=_;rw[List.length_append,hdl.out];rfl
     ·have hne':(cp==bG)=false:=by rw[beq_eq_false_iff_ne];exact hcc
      have Dx:=zH Gg;clear Gg;go_wp2_with fail;rw[HWA.out];refine (AZ (l:=l9) ?_ ?_ ?_).mono ?_
      ·have:=Dx.out;omega
      ·first
       |(have h0:l9=[]:=List.eq_nil_of_length_eq_zero (by have:=Dx.out;omega)
         subst h0;exact .inl rfl)
       |(obtain⟨A',c',hv,_,_,hr,_⟩:=bM rJ.out
         injection hv with q1 q2 q3;subst q1;have hr2:=JE hr bG;rw[Nat.zero_add] at hr2;rw[←HL9.out];unfold I at hr2⊢;rw[List.map_drop];exact hr2)
      ·omega
      rintro e w2 ⟨v',rfl,hrow,hb2⟩;have hrow1:=hrow;obtain⟨A9,c9,rfl,_⟩:=hrow1;have sG:=wF.out.below hb2 wF.out.lt;have hcB:=sG.cell (i:=k) (by rw[List.length_append,List.length_replicate,Ba.out];omega);rw[List.getElem_append_right (by rw[Ba.out];exact Nat.le_refl _),List.getElem_replicate] at hcB;have hfB:=sG.frozen k;have hks:=sG.set k (.slice A9 l9.length c9);rw[Gf cs l1 (.slice A9 l9.length c9) (.slice none 0 0) k Ba.out hlt] at hks;have hgs:=lM w2 Bo k (.slice A9 l9.length c9);have uw:WA.ownsRow (Bo+1) 3 1 (.slice (some ⟨g0,0,none⟩) st.length cp) st.length (I st):=rJ.out;have vY:=own_below uw hb2
      have Dy:=vY.kept hgs (by
       cases hv:(Value.slice (some ⟨g0,0,none⟩) st.length cp).ownBlock with
       |none=>exact .inl rfl
       |some g=>exact .inr (fun h=>by have:=(vY.lt g hv).1;have:g=Bo:=(Option.some.inj h);omega))
      have sH:=zZ Dy (show bG≤st.length from by omega);rw[CJ] at sH;have hbw:Below w.heap.size w (w2.setCell ⟨Bo,k,none⟩ (.slice A9 l9.length c9)):=(fQ.out.trans (hb2.mono fQ.out.size)).setCell (p:=⟨Bo,k,none⟩) TS _
      have hX0:∀g,((Value.slice (some ⟨g0,0,none⟩) st.length cp).ownBlock=some g∨g=Bo∨g<w.heap.size)→g<WA.heap.size:=fun g hg=>by
       rcases hg with hg|rfl|hg
       ·exact (uw.lt g hg).2
       ·exact wF.out.lt
       ·exact Nat.lt_of_lt_of_le hg fQ.out.size
      have hrow2:Row1 (w2.setCell ⟨Bo,k,none⟩ (.slice A9 l9.length c9)) (fun g=>(Value.slice (some ⟨g0,0,none⟩) st.length cp).ownBlock=some g∨g=Bo∨g<w.heap.size) (.slice A9 l9.length c9) l9:=
       hrow.step hgs (fun g hg=>by have:g=Bo:=(Option.some.inj hg).symm;subst this;exact wF.out.lt) (fun g hg=>.inl (hX0 g hg))
      have x9:=((Ac.out.below hb2).step hgs (fun g hg=>.inr (.inl (Option.some.inj hg).symm)) (fun g hg=>.inl hg)).snoc hrow2;obtain⟨w3,hw3⟩:∃x,x=w2.setCell ⟨Bo,k,none⟩ (.slice A9 l9.length c9):=⟨_,rfl⟩
      rw[←hw3] at sH hbw x9 hks;have sJ:=zH sH;have bF:=zH hbw;have Dz:=zH x9;have DC:=zH hks;have HW3:=zH hw3;have ac6:Bo+1≤w3.heap.size:=hks.lt;clear hrow sG hks hgs uw vY Dy sH hbw hX0 hrow2 x9 hw3 hb2 rJ fQ Ac wF;go_wp2_with (at_builtin;rw[←HW3.out];go_must (refine kG w3 #[.int .i64 (k:Int)] rfl _ _ 113 rfl (Bo+1) 3 (.int .i64 0) 1 8 1 Tryz.underlying113 fH rfl (by decide) (.slice (some ⟨g0,0,none⟩) bG cp) bG _ rfl sJ.out (by rw[HW3.out,xZ];rfl) rfl ?_ ?_ ?_ ?_ ?_))
      any_goals first|rfl|(unfold maxLen;omega)|omega
      intro v1 w4 hown1 hg1 hv1;have hb4:Below w.heap.size w w4:=bF.out.grown hg1 bF.out.size (fun g hg=>by have:=(sJ.out.lt g hg).1;omega)
      have hX1:∀g,(v1.ownBlock=some g∨g=Bo∨g<w.heap.size)→(((Value.slice (some ⟨g0,0,none⟩) st.length cp).ownBlock=some g∨g=Bo∨g<w.heap.size)∨w3.heap.size≤g):=fun g hg=>by
       rcases hg with hg|hg
       ·rcases hv1 g hg with h|h
        ·exact .inl (.inl ((nJ _ _ _ _ _).trans h))
        ·exact .inr h
       ·exact .inl (.inr hg)
      have yc:=Dz.out.step hg1 (fun g hg=>.inl ((nJ _ _ _ _ _).trans hg)) hX1;have DF:aj w4 Bo 113 (cs++[.slice A9 l9.length c9]++List.replicate (l1-(k+1)) (.slice none 0 0)):=DC.out.of_block (hg1.block Bo DC.out.lt (fun h=>by have:=(sJ.out.lt Bo h.symm).1;omega));have hown2:w4.ownsRow (Bo+1) 3 1 v1 (bG+1) (I (st.take bG++[k])):=by rw[←Iw];first|exact hown1|(rw[List.take_length];exact hown1)
      have hsl:(st.take bG++[k]).length=bG+1:=by rw[List.length_append,List.length_take];simp<;>omega
      obtain⟨A',cp',rfl,_,_,_,_⟩:=bM hown2;rw[←hsl] at hown2 yc;have HB4:=zH hb4;have NY:=zH yc;have NZ:=zH DF;have wQ:=zH hown2;have HSL:=zH hsl;clear hb4 hX1 yc DF hown2 hown1 hg1 hv1 hsl Dz DC sJ;go_wp2
      go_roundg (l1-(k+1))
      case measure=>omega
      case rel=>
       refine⟨k+1,st.take bG++[k],done++[l9],cs++[.slice A9 l9.length c9],A',cp',by omega,by go_num,by rw[HSL.out],by rw[HSL.out];omega,NZ,wQ,?_,NY,?_,?_,HB4.out⟩
       ·show _=_;rw[Du.out,List.reverse_append,List.append_assoc];rfl
       ·show _=_;rw[HSL.out];exact rH.out
       ·show _=_;rw[List.length_append,hdl.out];rfl
   ·have hkl:k=l1:=by omega
    have oC:Hid (iY es=done):=by
     show _=_;rw[har.out,hkl,H1.out.len,List.drop_length];simp[iM]
    have Dw:LL wr (fun g=>g<w.heap.size) done cs:=hll.out.step (below_grown (Below.refl _ _)) (fun g h=>by cases h) (fun g h=>.inl (.inr (.inr h)));have Y1:=Dv.out;rw[hkl,Nat.sub_self,List.replicate_zero,List.append_nil] at Y1;have qw:=zH Y1.rd;have F9:=zH Dw;have hx1:decide (k<l1)=false:=decide_eq_false hlt;clear Dw Y1 Dv hos hll hck har;go_wp2;go_ret2;refine⟨some ⟨Bo,0,none⟩,l1,l1,rfl,⟨?_,Nat.le_refl _,by unfold maxLen;omega,cs,qw.out,?_⟩,hbr,(fun ad h=>by injection h with h;subst h;exact TS),cs,qw.out,?_⟩
    ·rw[oC.out,hdl.out,hkl]
    ·rw[oC.out];exact F9.out.step (below_grown (Below.refl _ _)) (fun g h=>by cases h) (fun g h=>h.elim)
    ·rw[oC.out];exact F9.out
 ·rw[if_neg hz];obtain⟨zz,hzz⟩:=zF (bC es);rw[hzz] at hz HC⊢;have e1:(zz !=0)=true:=by simp[hz]
  have e2:(zz==0)=false:=by simp[hz]
  rw[e2];clear hz h1 hf1 hzz hL;go_enter Tryz.func105,Tryz.ntmps105;go_wp2_with fail;refine HC.out.mono ?_;rintro e w1 ⟨rfl,hb1⟩;go_wp2;go_ret2;exact Iz.bad hb1
theorem WI (es:List Nd) (A1:Option Addr) (l1 c1:Nat) (w:World) (hL:dK w) (h1:Es w es A1 l1 c1) (hf1:∀n∈es,Fine n):
  Calls Tryz.prog 105 #[.slice A1 l1 c1] w (xE (bC es==0) (if bC es=0 then iY es else []) w):=
 (NW es A1 l1 c1 w hL h1 hf1).mono fun _ _ ⟨A,n,c,he,ha,hb,_⟩=>⟨A,n,c,he,ha,hb⟩
theorem gq (a:Ra) (hn:a.num.size≤1048576) (hd:a.den.size≤1048576):(aZ a).size≤6291460:=by
 obtain⟨h1,h2⟩:=Dj a 1048576 (by omega) hn hd;have h3:=pO _ h1;have h4:=pO _ h2;unfold aZ
 have hs:(if (dN a).neg then (⟨#[45]⟩:ByteArray)++iT (aA (dN a).num) else iT (aA (dN a).num)).size≤3145729:=by
  split
  ·rw[ByteArray.size_append];show 1+_≤_;omega
  ·omega
 simp only
 generalize (if (dN a).neg then (⟨#[45]⟩:ByteArray)++iT (aA (dN a).num) else iT (aA (dN a).num))=s at*;split
 ·omega
 ·rw[ByteArray.size_append,ByteArray.size_append];show _+(1+_)≤_;omega
theorem N7 (n:Nat):Lib.decDigits n≠[]:=by
 unfold Lib.decDigits;split<;>simp
theorem Y3 (a:Ra):(aZ a).data.toList≠[]:=by
 have h:∀x y:ByteArray,(x++y).data.toList=x.data.toList++y.data.toList:=fun x y=>by rw[ByteArray.data_append,Array.toList_append]
 have hd:(iT (aA (dN a).num)).data.toList≠[]:=N7 _;unfold aZ;simp only
 split<;>split<;>simp[h,hd]
theorem ac7 {n:Nd} (h:bP n=0) (ops:List (List UInt8)):txt n ops≠[]:=by
 obtain⟨h1,h2⟩:=Dn h;unfold txt;split
 ·split<;>simp
 ·next h4=>
  have hw:(n.op=2∨n.op=3)∨(aC n.op).word≠[]:=by
   have hall:∀k∈List.range 25,1≤k→(((k:Int)=2∨(k:Int)=3∨(k:Int)=4)∨(aC (k:Int)).word≠[]):=by decide
   have:=hall n.op.toNat (List.mem_range.2 (by omega)) (by omega);rw[show ((n.op.toNat:Nat):Int)=n.op from by omega] at this;rcases this with (h|h|h)|h
   ·exact .inl (.inl h)
   ·exact .inl (.inr h)
   ·exact absurd h h4
   ·exact .inr h
  rcases hw with hw|hw
  ·have hl:(aC n.op).lit=true:=by rw[zY];exact decide_eq_true (by omega)
   rw[hl];have:=Y3 n.num;simp[this]
  ·simp[hw]
theorem yg (n:Int):(aC n).word.length≤7:=by
 refine zX (fun _ s=>s.word.length≤7) (by decide) (fun n _=>by show 0≤7;omega) n
theorem DI (l:List (List UInt8)):(gQ l).length≤(l.map List.length).sum+2*l.length:=by
 induction l with
 |nil=>simp[gQ]
 |cons a l ih=>
  unfold gQ;split
  ·simp;omega
  ·simp at ih⊢;omega
theorem Q7 {n:Nd} (h:bP n=0) (hf:Fine n) (ops:List (List UInt8)):(txt n ops).length≤7000000+(ops.map List.length).sum+2*ops.length:=by
 have ht:=gq n.num hf.1 hf.2;have ht':(aZ n.num).data.toList.length=(aZ n.num).size:=by simp
 have hj:=DI ops;have hw:=yg n.op
 have hn:n.name.data.toList.length≤20:=by
  rcases uS n with h'|h'|h'|h'|h'|h'|h'
  ·rw[h] at h';exact absurd h'.2 (by decide)
  ·rw[h] at h';exact absurd h'.2.2 (by decide)
  ·rw[h] at h';exact absurd h'.2.2.2 (by decide)
  ·rw[h] at h';exact absurd h'.2.2.2.2.2 (by decide)
  ·have:=(uo _).1 h'.2.2.2.2.1;rw[this];show 0≤20;omega
  ·rw[h] at h';exact absurd h'.2.2.2.2.2 (by decide)
  ·have:=h'.2.2.2.2.1;unfold nameB at this;simp only[Bool.and_eq_true,decide_eq_true_eq] at this;exact this.1.2
 unfold txt;split
 ·split<;>simp<;>omega
 ·simp only[List.length_append]
  have e1:(if (aC n.op).lit=true then (aZ n.num).data.toList else []).length≤6291460:=by split<;>simp<;>omega
  have e2:(if n.op=2 then [100] else ([]:List UInt8)).length≤1:=by split<;>simp
  have e3:(if (aC n.op).dS=true then [91]++(aZ n.num).data.toList++[93] else []).length≤6291462:=by split<;>simp<;>omega
  have e4:(if (aC n.op).ops=0 then [] else [40]++gQ ops++[41]).length≤(gQ ops).length+2:=by split<;>simp<;>omega
  have e5:(if (aC n.op).lit=true then (aZ n.num).data.toList else []).length+(if (aC n.op).dS=true then [91]++(aZ n.num).data.toList++[93] else []).length≤6291462:=by
   rw[zY,EM];by_cases hl:1≤n.op∧n.op≤4
   ·rw[if_pos (decide_eq_true hl),if_neg (by rw[decide_eq_true_eq];omega)];simp;omega
   ·rw[if_neg (by rw[decide_eq_true_eq];exact hl)];split<;>simp<;>omega
  omega
def lN (l:List (List UInt8)):List UInt8:=l.foldl (fun acc s=>(if acc=[] then acc else acc++[44,32])++s) []
theorem IB (l:List (List UInt8)) (s:List UInt8):lN (l++[s])=(if lN l=[] then lN l else lN l++[44,32])++s:=by
 unfold lN;rw[List.foldl_append];rfl
theorem TU (l:List (List UInt8)) (s:List UInt8) (hl:l≠[]):gQ (l++[s])=gQ l++[44,32]++s:=by
 induction l with
 |nil=>exact absurd rfl hl
 |cons a l ih=>
  cases l with
  |nil=>simp[gQ]
  |cons b l=>
   have:=ih (by simp);show a++[44,32]++gQ ((b::l)++[s])=_;rw[this];simp[gQ]
theorem Y4 {l:List (List UInt8)} (hl:l≠[]) (h:∀s∈l,s≠[]):gQ l≠[]:=by
 cases l with
 |nil=>exact absurd rfl hl
 |cons a l=>
  have:=h a (by simp);unfold gQ;split<;>simp[this]
theorem TV (m:Nat):∀l:List (List UInt8),l.length=m→(∀s∈l,s≠[])→lN l=gQ l:=by
 induction m with
 |zero=>
  intro l hl _;rw[List.eq_nil_of_length_eq_zero hl];rfl
 |succ m ih=>
  intro l hl h;rcases List.eq_nil_or_concat l with rfl|⟨l',s,rfl⟩
  ·simp at hl
  ·rw[List.concat_eq_append] at h hl⊢;have hl':l'.length=m:=by simpa using hl
   have h1:=ih l' hl' (fun x hx=>h x (List.mem_append_left _ hx));rw[IB];by_cases h0:l'=[]
   ·subst h0;simp[lN,gQ]
   ·rw[TU _ _ h0,←h1,if_neg (by rw[h1];exact Y4 h0 (fun x hx=>h x (List.mem_append_left _ hx)))]
theorem N9 (l:List (List UInt8)) (h:∀s∈l,s≠[]):lN l=gQ l:=TV _ l rfl h
end Go.Proofs.YtgfeadgafdijaaaGreatDoor
