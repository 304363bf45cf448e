/- A part of the proof: G8 G9 E9 Ga. -/
import Derived.Maps.AppendAt
import Derived.Test.YtbicehdehiakgaaGreatDoorG21
set_option linter.unusedVariables false
set_option linter.unusedSimpArgs false
namespace Go.Proofs.YtbicehdehiakgaaGreatDoor
open Go.RowKit
section
variable {P:Program}
theorem wpList_push_at (W:World) (news:Array Value) {ops:Array Oper} {rest:List Oper} {o:Oper} {a:Act} {Q:Exit→Act→World→Prop} (hgd:o.guard=none) (s x:Operand) (t:TypeId)
  (ho:o.op=.call {callee:=.builtin .append,args:=#[s,x],argTypes:=#[t,t]})
  (base:Nat) (e:TypeId) (z:Value) (size bytes m:Nat) (ht:P.underlying t=some (.slice e)) (hinfo:(P.info? e).map (fun i=>(i.zero,i.size,i.bytes))=some (some z,size,bytes)) (hzs:z.cells.size=size) (hsz:0<size)
  (v:Value) (n:Nat) (xs:List Value) (hs:a.eval s=v) (hown:W.ownsRow base e size v n xs)
  (hx:a.eval x=.slice (some ⟨W.heap.size,0,none⟩) m m) (hl:news.size=m*size) (h1:∀u∈news.toList,u.oneCell'=true)
  (h63:n+m≤maxLen) (hbytes:(n+m)*bytes≤140737488355328) (hbase:base≤W.heap.size)
  (h:∀v' w',w'.ownsRow base e size v' (n+m) (xs++news.toList)→W.grownBy w' v.ownBlock→(∀g,v'.ownBlock=some g→v.ownBlock=some g∨W.heap.size≤g)→wpList P ops Q rest (a.put o.dst v') w'):
  wpList P ops Q (o::rest) a (W.alloc (.cells news e)):=by
 obtain⟨i,hi,hzz⟩:=Option.map_eq_some_iff.1 hinfo;simp only[Prod.mk.injEq] at hzz;obtain⟨hz,hs1,hb⟩:=hzz;refine wpList_append_own_at (w:=W.alloc (.cells news e)) hgd s x t ho base e i z size bytes ht hi hz hs1 hb hzs hsz v n xs hs (hown.alloc _) ⟨W.heap.size,0,none⟩ m m news.toList hx (by simpa using hl) ?_ h1 h63 hbytes (by simp;omega) ?_
 ·intro j u hj;have hb:=Blk.new W e news;have hj':j<news.toList.length:=(List.getElem?_eq_some_iff.1 hj).1;have:=hb.cell hj';rw[show Addr.add ⟨W.heap.size,0,none⟩ j=⟨W.heap.size,j,none⟩ from by unfold Addr.add;split<;>simp_all,this,←(List.getElem?_eq_some_iff.1 hj).2]
 ·intro v' w' hown' hg _ hv;refine h v' w' hown' ?_ ?_
  ·have ha:=World.grownBy_alloc W (.cells news e) v.ownBlock;exact⟨hg.os.trans ha.os,hg.tape.trans ha.tape,hg.output.trans ha.output,Nat.le_trans ha.size hg.size,fun k hk hne=>(hg.block k (Nat.lt_of_lt_of_le hk ha.size) hne).trans (ha.block k hk hne)⟩
  ·intro g hgv;rcases hv with hv|hv
   ·exact .inl (by rw[←hv];exact hgv)
   ·rw[hv] at hgv;injection hgv with hgv;subst hgv;exact .inr (by rw[World.size_alloc];omega)
end
def Row1 (w:World) (X:Nat→Prop) (v:Value) (l:List Nat):Prop:=
 ∃A c,v=.slice A l.length c∧l.length≤c∧c≤maxLen∧Rd w A (I l)∧(l≠[]→∀ad,A=some ad→¬X ad.block)
theorem Row1.step {w w':World} {X X':Nat→Prop} {v:Value} {l:List Nat} {row:Option Nat} (h:Row1 w X v l) (hg:w.grownBy w' row) (hr:∀g,row=some g→X g) (hX:∀g,X' g→X g∨w.heap.size≤g):Row1 w' X' v l:=by
 obtain⟨A,c,rfl,h1,h2,h3,h4⟩:=h;refine⟨A,c,rfl,h1,h2,?_,?_⟩
 ·rcases h3 with h3|⟨b,off,rfl,hb,hc⟩
  ·exact .inl h3
  ·by_cases hl:l=[]
   ·subst hl;exact .inl rfl
   ·refine .inr ⟨b,off,rfl,Nat.lt_of_lt_of_le hb hg.size,fun i hi=>?_⟩;refine hg.cell (hc i hi) ?_;intro e;exact h4 hl _ rfl (hr b e.symm)
 ·intro hl ad hA hx;rcases hX _ hx with hx|hx
  ·exact h4 hl ad hA hx
  ·rcases h3 with h3|⟨b,off,hA',hb,hc⟩
   ·apply hl;have:=congrArg List.length h3;rw[I_length] at this;exact List.eq_nil_of_length_eq_zero this
   ·rw[hA] at hA';injection hA' with e;subst e;exact absurd hx (by show ¬_≤b;omega)
structure LL (w:World) (X:Nat→Prop) (ls:List (List Nat)) (cs:List Value):Prop where
 len:cs.length=ls.length
 row:∀(i:Nat) (l:List Nat),ls[i]?=some l→∃v,cs[i]?=some v∧Row1 w X v l
theorem LL.step {w w':World} {X X':Nat→Prop} {ls:List (List Nat)} {cs:List Value} {row:Option Nat} (h:LL w X ls cs) (hg:w.grownBy w' row) (hr:∀g,row=some g→X g) (hX:∀g,X' g→X g∨w.heap.size≤g):LL w' X' ls cs:=
 ⟨h.len,fun i l hl=>by
   obtain⟨v,h1,h2⟩:=h.row i l hl;exact⟨v,h1,h2.step hg hr hX⟩⟩
theorem LL.snoc {w:World} {X:Nat→Prop} {ls:List (List Nat)} {cs:List Value} {l:List Nat} {v:Value} (h:LL w X ls cs) (hr:Row1 w X v l):LL w X (ls++[l]) (cs++[v]):=by
 refine⟨by simp[h.len],fun i l' hl=>?_⟩;rcases Nat.lt_trichotomy i ls.length with hi|hi|hi
 ·rw[List.getElem?_append_left hi] at hl;obtain⟨v',h1,h2⟩:=h.row i l' hl;exact⟨v',by rw[List.getElem?_append_left (by rw[h.len];exact hi)];exact h1,h2⟩
 ·subst hi;rw[List.getElem?_append_right (Nat.le_refl _)] at hl;simp at hl;subst hl;exact⟨v,by rw[←h.len,List.getElem?_append_right (Nat.le_refl _)];simp,hr⟩
 ·rw[List.getElem?_eq_none (by simp;omega)] at hl;cases hl
theorem below_grown {w w':World} (hb:Below w.heap.size w w'):w.grownBy w' none:=⟨hb.os,hb.tape,hb.output,hb.size,fun k hk _=>hb.block k hk⟩
theorem LL.below {w w':World} {X:Nat→Prop} {ls:List (List Nat)} {cs:List Value} (h:LL w X ls cs) (hb:Below w.heap.size w w'):LL w' X ls cs:=
 h.step (below_grown hb) (fun g h=>by cases h) (fun g h=>.inl h)
theorem own_below {w w':World} {base:Nat} {e:TypeId} {size:Nat} {v:Value} {n:Nat} {xs:List Value} (h:w.ownsRow base e size v n xs) (hb:Below w.heap.size w w'):w'.ownsRow base e size v n xs:=
 h.kept (below_grown hb) (by
  cases hv:v.ownBlock with
  |none=>exact .inl rfl
  |some g=>exact .inr (by intro h;cases h))
theorem own_cut {w:World} {base:Nat} {e:TypeId} {A:Option Addr} {n c m:Nat} {xs:List Value} (h:w.ownsRow base e 1 (.slice A n c) n xs) (hm:m≤n):w.ownsRow base e 1 (.slice A m c) m (xs.take m):=by
 refine⟨by rw[List.length_take,h.1];omega,?_⟩;rcases h.2 with⟨hv,h0⟩|⟨g,cap,cur,hv,hb,hh,hn,hc,hs,ht⟩
 ·injection hv with e1 e2 e3;subst e1 e3;exact .inl ⟨by rw[show m=0 from by omega],by omega⟩
 ·injection hv with e1 e2 e3;subst e1 e3;refine .inr ⟨g,c,cur,rfl,hb,hh,by omega,hc,hs,?_⟩;rw[←ht,List.take_take];congr 1;omega
theorem own_apart {w:World} {b1 b2:Nat} {e1 e2:TypeId} {s1 s2:Nat} {v1 v2:Value} {n1 n2:Nat} {x1 x2:List Value} (h1:w.ownsRow b1 e1 s1 v1 n1 x1) (h2:w.ownsRow b2 e2 s2 v2 n2 x2) (he:e1≠e2):v1.ownBlock=none∨v1.ownBlock≠v2.ownBlock:=by
 rcases h1.2 with⟨rfl,_⟩|⟨g,cap,cur,rfl,_,hh,_⟩
 ·exact .inl rfl
 ·refine .inr ?_;rcases h2.2 with⟨rfl,_⟩|⟨g',cap',cur',rfl,_,hh',_⟩
  ·intro h;cases h
  ·intro h;have:g=g':=by simpa [Value.ownBlock] using h
   subst this;rw[hh] at hh';injection hh' with hh';injection hh' with _ ht;exact he ht
theorem chk_zero {n:Nd} {r:List Nd} {d:Nat} (h:chk (n::r) d=0):wrongN n=0∧(shp n.op).ops≤d∧chk r (d-(shp n.op).ops+1)=0:=by
 rw[chk] at h;split at h
 ·next h1=>exact absurd h h1
 ·next h1=>
  split at h
  ·cases h
  ·exact⟨by simpa using h1,by omega,h⟩
theorem rev_take (st:List Nat) (o:Nat) (h:o≤st.length):(st.reverse.take o).reverse=st.drop (st.length-o)∧st.reverse.drop o=(st.take (st.length-o)).reverse:=by
 constructor
 ·rw[List.take_reverse,List.reverse_reverse]
 ·rw[List.drop_reverse]
theorem I_snoc (xs:List Nat) (n:Nat):I xs++[.int .i64 (n:Int)]=I (xs++[n]):=by unfold I;rw[List.map_append];rfl
theorem own_row {w:World} {base:Nat} {e:TypeId} {v:Value} {l:List Nat} {X:Nat→Prop} (h:w.ownsRow base e 1 v l.length (I l)) (hX:∀g,X g→g<base):Row1 w X v l:=by
 obtain⟨A,c,rfl,h1,h2,h3,h4⟩:=own_rd2 h;exact⟨A,c,rfl,h1,h2,h3,fun _ ad hA hx=>by have:=h4 ad hA;have:=hX _ hx;omega⟩
theorem blk_same (A:Option Addr) (n m c c':Nat):(Value.slice A n c).ownBlock=(Value.slice A m c').ownBlock:=by cases A<;>rfl
theorem info_ints:(Tryz.prog.info? 27).map (fun i=>(i.zero,i.size,i.bytes))=some (some (.slice none 0 0),1,24):=by kernel_rfl
structure ArgsAt (w:World) (ls:List (List Nat)) (A:Option Addr) (n c:Nat):Prop where
 len:n=ls.length
 cap:n≤c
 max:c≤maxLen
 rows:∃cs,Rd w A cs∧LL w (fun _=>False) ls cs
def RetArgs (ok:Bool) (ls:List (List Nat)) (w:World) (e:Ending) (w':World):Prop:=∃A n c,e=.returned (.tuple #[.slice A n c,.bool ok])∧ArgsAt w' ls A n c∧Below w.heap.size w w'
theorem RetArgs.bad {w w':World} (hb:Below w.heap.size w w'):RetArgs false [] w (.returned (.tuple #[.slice none 0 0,.bool false])) w':=
 ⟨none,0,0,rfl,⟨rfl,Nat.le_refl _,by unfold maxLen;omega,[],.inl rfl,rfl,fun i l h=>by simp at h⟩,hb⟩
set_option maxRecDepth 100000 in
set_option maxHeartbeats 3200000 in
theorem gArgs_any (es:List Nd) (A1:Option Addr) (l1 c1:Nat) (w:World) (h1:Es w es A1 l1 c1) (hf1:∀n∈es,Fine n):
  Calls Tryz.prog 41 #[.slice A1 l1 c1] w (RetArgs (checkE es==0) (if checkE es=0 then argsE es else []) w):=by
 have HC:=Lib.hid (gCheck_any es A1 l1 c1 w h1.len h1.cap h1.max h1.rd hf1);have H1:=Lib.hid h1;by_cases hz:checkE es=0
 ·have hk:=((checkE_iff es).1 hz).1;rw[←h1.len] at hk
  have hch:chk es 0=0:=by
   have:=hz;unfold checkE at this;rwa[if_neg (by have:=h1.len;omega)] at this
  have HCH:=Lib.hid hch;rw[hz] at HC⊢;rw[if_pos rfl];clear hz h1 hf1 hch;go_enter Tryz.func41,Tryz.ntmps41;go_wp2_with fail;refine HC.out.mono ?_;rintro e w1 ⟨rfl,hb1⟩;go_wp2
  go_loopg [5,6,7] l1 (fun g ov sv iv wr=>∃(k:Nat) (st:List Nat) (done:List (List Nat)) (cs:List Value) (A:Option Addr) (cp:Nat),k+g=l1∧iv=.int .i64 k∧sv=.slice A st.length cp∧st.length≤k∧
   Hid (wr.ownsRow w.heap.size 27 1 ov k cs)∧Hid (wr.ownsRow w.heap.size 3 1 (.slice A st.length cp) st.length (I st))∧Hid (argsE es=done++runA (es.drop k) k st.reverse)∧
   Hid (LL wr (fun g=>(Value.slice A st.length cp).ownBlock=some g∨ov.ownBlock=some g) done cs)∧Hid (chk (es.drop k) st.length=0)∧Hid (done.length=k)∧Below w.heap.size w wr)
  case atStart=>
   refine⟨0,[],[],[],none,0,by omega,rfl,rfl,by simp,World.ownsRow_nil _ _ _ _,World.ownsRow_nil _ _ _ _,rfl,?_,HCH.out,rfl,hb1⟩;exact⟨rfl,fun i l h=>by simp at h⟩
  case round=>
   obtain⟨k,st,done,cs,A,cp,hk',rfl,rfl,hstk,hoo,hos,har,hll,hck,hdl,hbr⟩:=hrel;clear hb1;by_cases hlt:k<l1
   ·have hke:k<es.length:=by rw[←H1.out.len];exact hlt
    obtain⟨b,off,hA,hb,hc0,_⟩:=(H1.out.rd.below hbr).nd hke;subst hA;have hcons:=List.drop_eq_getElem_cons hke;have hck2:=hck.out;rw[hcons] at hck2;obtain⟨_,hops,hck3⟩:=chk_zero hck2
    have har2:Hid (argsE es=done++(((st.reverse.take (shp es[k].op).ops).reverse)::runA (es.drop (k+1)) (k+1) (k::st.reverse.drop (shp es[k].op).ops))):=by
     show _=_;rw[har.out,hcons,runA]
    have HAR:=Lib.hid (fun W=>gArity_any es[k].op W);generalize (shp es[k].op).ops=o at*;generalize es[k].op=op at*;have HCK:=Lib.hid hck3;clear hcons hck2 hck hck3 har;have hro:=rev_take st o hops;rw[hro.1,hro.2] at har2;have hrest:IntKind.i64.wrap ((st.length:Int)-o)=((st.length-o:Nat):Int):=by rw[IntWalk.i64_in _ (by omega)];omega
    obtain⟨rst,hrst⟩:∃rst,st.length-o=rst:=⟨_,rfl⟩
    have hrs1:rst+o=st.length:=by omega
    have hrs2:(st.length:Int)-o=(rst:Int):=by omega
    rw[hrst] at har2 hrest;have HRST:=Lib.hid hrst;clear hro hrst;go_wp2_with fail;refine (HAR.out _).mono ?_;rintro e w2 ⟨rfl,rfl⟩;obtain⟨W0,rfl⟩:∃W0:World,W0=wr:=⟨_,rfl⟩
    have hrd0:Rd W0 A (I st):=by
     obtain⟨A',cp',hv,_,_,hr,_⟩:=own_rd hos.out;injection hv with e1 e2 e3;subst e1;exact hr
    have hcps:st.length≤cp∧cp≤maxLen:=by
     obtain⟨A',cp',hv,a1,a2,hr,_⟩:=own_rd hos.out;injection hv with e1 e2 e3;subst e3;exact⟨a1,a2⟩
    obtain⟨hcp1,hcp2⟩:=hcps;unfold maxLen at hcp2;have HRD:=Lib.hid hrd0;clear hrd0;go_wp2
    go_loopg [9,10] o (fun g ov iv wq=>∃j:Nat,j+g=o∧iv=.int .i64 ((rst:Int)+(j:Int))∧Hid (wq.ownsRow W0.heap.size 3 1 ov j (I ((st.drop rst).take j)))∧Below W0.heap.size W0 wq)
    case atStart=>exact⟨0,by omega,by simp,World.ownsRow_nil _ _ _ _,Below.refl _ _⟩
    case round=>
     obtain⟨j,hj,rfl,how,hbq⟩:=hrel;by_cases hjo:j<o
     ·have hj1:(rst:Int)+j<st.length:=by omega
      have hj2:0≤(rst:Int)+j:=by omega
      have hj3:((rst:Int)+j).toNat=rst+j:=by omega
      obtain⟨b2,off2,hA2,hb2,hcc⟩:=(HRD.out.below hbq).at_ (k:=rst+j) (by rw[I_length];omega);subst hA2;have hcell:=hcc (rst+j) (by rw[I_length];omega);rw[I_get] at hcell
      have hT:Hid (I ((st.drop rst).take (j+1))=I ((st.drop rst).take j)++[.int .i64 (st.getD (rst+j) 0:Nat)]):=by
       show _=_;rw[List.take_succ_eq_append_getElem (by rw[List.length_drop];omega),I,List.map_append,List.map_singleton,List.getElem_drop,List.getD_eq_getElem?_getD,List.getElem?_eq_getElem (by omega)];rfl
      generalize st.getD (rst+j) 0=x at*;have HBQ:=Lib.hid hbq;clear hcc hb2 hbq;go_wp2_with (at_builtin;go_must (refine wpList_push wr #[.int .i64 (x:Int)] rfl _ _ 27 rfl W0.heap.size 3 (.int .i64 0) 1 8 1 Tryz.underlying27 info_int rfl (by decide) u9 j _ rfl how.out rfl rfl ?_ ?_ ?_ ?_ ?_))
      any_goals first|rfl|(unfold maxLen;omega)|omega
      ·exact HBQ.out.size
      intro v' w' hown' hb';have HOWN:Hid (w'.ownsRow W0.heap.size 3 1 v' (j+1) (I ((st.drop rst).take (j+1)))):=by show World.ownsRow _ _ _ _ _ _ _;rw[hT.out];exact hown'
      have HB:=Lib.hid (HBQ.out.trans hb');clear hown' hb';go_wp2
      go_roundg (o-(j+1))
      case measure=>omega
      case rel=>exact⟨j+1,by omega,by first|go_num|(congr 1;omega),HOWN,HB.out⟩
     ·have hjo':j=o:=by omega
      have hx1:decide ((rst:Int)+j<st.length)=false:=by rw[decide_eq_false_iff_not];omega
      have hro:(st.drop rst).take j=st.drop rst:=List.take_of_length_le (by rw[List.length_drop];omega);have how2:=how.out;rw[hro,show j=(st.drop rst).length from by rw[List.length_drop];omega] at how2;have har3:=har2.out;obtain⟨l9,hl9⟩:∃l9,st.drop rst=l9:=⟨_,rfl⟩
      rw[hl9] at how2 har3;have HAR3:=Lib.hid har3;have hs2:=own_below hos.out hbq;have hs3:=own_cut hs2 (show rst≤st.length from by omega);rw[I_take] at hs3;have ho2:=own_below hoo.out hbq;have hll2:=hll.out.below hbq
      have hrow:Row1 wr (fun g=>(Value.slice A st.length cp).ownBlock=some g∨u5.ownBlock=some g) u9 l9:=
       own_row how2 (fun g hg=>by
        rcases hg with hg|hg
        ·exact (hos.out.lt g hg).2
        ·exact (hoo.out.lt g hg).2)
      have hbw:Below w.heap.size w wr:=hbr.trans (hbq.mono hbr.size);have HS3:=Lib.hid hs3;have HO2:=Lib.hid ho2;have HLL2:=Lib.hid hll2;have HROW:=Lib.hid hrow;have HBW:=Lib.hid hbw;have hrsc:rst≤cp:=by omega
      have hkk:k≤60:=by omega
      obtain⟨A9,c9,hu9,_⟩:=hrow;subst hu9;clear har3 hl9 har2 hro how2 hs2 hs3 ho2 hll2 hbw hos hoo hll how hbq hbr HRD;go_wp2_with (at_builtin;go_must (refine wpList_push_at wr #[.int .i64 (k:Int)] rfl _ _ 27 rfl w.heap.size 3 (.int .i64 0) 1 8 1 Tryz.underlying27 info_int rfl (by decide) (.slice A rst cp) rst _ rfl HS3.out rfl rfl ?_ ?_ ?_ ?_ ?_))
      any_goals first|rfl|(unfold maxLen;omega)|omega
      ·exact HBW.out.size
      intro v1 w2 hown1 hg1 hv1;have hb1:Below w.heap.size w w2:=HBW.out.grown hg1 HBW.out.size (fun g hg=>(HS3.out.lt g hg).1);have hown1':w2.ownsRow w.heap.size 3 1 v1 (rst+1) (I (st.take rst++[k])):=by rw[←I_snoc];exact hown1
      have ho3:=HO2.out.kept hg1 (own_apart HO2.out HS3.out (by decide))
      have hX1:∀g,(v1.ownBlock=some g∨u5.ownBlock=some g)→(((Value.slice A st.length cp).ownBlock=some g∨u5.ownBlock=some g)∨wr.heap.size≤g):=fun g hg=>by
       rcases hg with hg|hg
       ·rcases hv1 g hg with h|h
        ·exact .inl (.inl ((blk_same _ _ _ _ _).trans h))
        ·exact .inr h
       ·exact .inl (.inr hg)
      have hrow2:=HROW.out.step hg1 (fun g hg=>.inl ((blk_same _ _ _ _ _).trans hg)) hX1;have hll3:=(HLL2.out.step hg1 (fun g hg=>.inl ((blk_same _ _ _ _ _).trans hg)) hX1).snoc hrow2;have HB1:=Lib.hid hb1;have HS4:=Lib.hid hown1';have HO3:=Lib.hid ho3;have HLL3:=Lib.hid hll3;clear hb1 hown1 hown1' hg1 hv1 ho3 hX1 hrow2 hll3 HS3 HO2 HLL2 HROW HBW;go_wp2_with (at_builtin;go_must (refine wpList_push_at w2 #[.slice A9 l9.length c9] rfl _ _ 45 rfl w.heap.size 27 (.slice none 0 0) 1 24 1 Tryz.underlying45 info_ints rfl (by decide) u5 k cs rfl HO3.out rfl rfl ?_ ?_ ?_ ?_ ?_))
      any_goals first|rfl|(unfold maxLen;omega)|omega
      ·exact HB1.out.size
      intro v2 w3 hown2 hg2 hv2;have hb2:Below w.heap.size w w3:=HB1.out.grown hg2 HB1.out.size (fun g hg=>(HO3.out.lt g hg).1);have hs5:=HS4.out.kept hg2 (own_apart HS4.out HO3.out (by decide))
      have hll4:=HLL3.out.step (X':=fun g=>v1.ownBlock=some g∨v2.ownBlock=some g) hg2 (fun g hg=>.inr hg) (fun g hg=>by
       rcases hg with hg|hg
       ·exact .inl (.inl hg)
       ·rcases hv2 g hg with h|h
        ·exact .inl (.inr h)
        ·exact .inr h)
      have hsl:(st.take rst++[k]).length=rst+1:=by rw[List.length_append,List.length_take];simp;omega
      obtain⟨A',cp',rfl,_,_,_,_⟩:=own_rd hs5;rw[←hsl] at hs5 hll4;have HB2:=Lib.hid hb2;have HS5:=Lib.hid hs5;have HLL4:=Lib.hid hll4;have HO5:Hid (w3.ownsRow w.heap.size 27 1 v2 (k+1) (cs++[.slice A9 l9.length c9])):=hown2;have HSL:=Lib.hid hsl;clear hb2 hown2 hg2 hv2 hs5 hll4 HB1 HS4 HO3 HLL3 hsl;go_wp2
      go_roundg (l1-(k+1))
      case measure=>omega
      case rel=>
       refine⟨k+1,st.take rst++[k],done++[l9],cs++[.slice A9 l9.length c9],A',cp',by omega,by go_num,by rw[HSL.out],by rw[HSL.out];omega,HO5,HS5,?_,HLL4,?_,?_,HB2.out⟩
       ·show _=_;rw[HAR3.out,List.reverse_append,List.append_assoc];rfl
       ·show _=_;rw[HSL.out,←HRST.out];exact HCK.out
       ·show _=_;rw[List.length_append,hdl.out];rfl
   ·have hkl:k=l1:=by omega
    have har2:Hid (argsE es=done):=by
     show _=_;rw[har.out,hkl,H1.out.len,List.drop_length];simp[runA]
    obtain⟨Ao,co,rfl,g1,g2,g3,g4⟩:=own_rd hoo.out;have hll2:LL wr (fun _=>False) done cs:=hll.out.step (below_grown (Below.refl _ _)) (fun g h=>by cases h) (fun g h=>h.elim);have HLL2:=Lib.hid hll2;have G3:=Lib.hid g3;have hx1:decide (k<l1)=false:=decide_eq_false hlt;clear hll2 g3 g4 hoo hos hll hck har;go_wp2;go_ret2;refine⟨Ao,k,co,rfl,⟨?_,g1,g2,cs,G3.out,?_⟩,hbr⟩
    ·rw[har2.out,hdl.out]
    ·rw[har2.out];exact HLL2.out
 ·rw[if_neg hz];obtain⟨zz,hzz⟩:∃zz,checkE es=zz:=⟨_,rfl⟩
  rw[hzz] at hz HC⊢;have e1:(zz !=0)=true:=by simp[hz]
  have e2:(zz==0)=false:=by simp[hz]
  rw[e2];clear hz h1 hf1 hzz;go_enter Tryz.func41,Tryz.ntmps41;go_wp2_with fail;refine HC.out.mono ?_;rintro e w1 ⟨rfl,hb1⟩;go_wp2;go_ret2;exact RetArgs.bad hb1
theorem I_ints (l:List Nat):I l=(l.map (fun n:Nat=>(n:Int))).map (Value.int .i64):=by unfold I;rw[List.map_map];rfl
theorem cloneI_any {l:List Nat} {X:Option Addr} {m c:Nat} {W:World} (hm:m=l.length) (h:Rd W X (I l)) (h60:m≤60):
  Calls Tryz.prog 57 #[.slice X m c] W fun e w'=>∃v',e=.returned v'∧Row1 w' (fun g=>g<W.heap.size) v' l∧Below W.heap.size W w':=by
 cases X with
 |none=>
  have hl:l=[]:=by
   rcases h with h|⟨b,off,h,_⟩
   ·have:=congrArg List.length h;rw[I_length] at this;exact List.eq_nil_of_length_eq_zero this
   ·cases h
  subst hl;refine (Tryz.slices_Clone_int_nil m c W).mono ?_;rintro e w' ⟨rfl,rfl⟩;exact⟨_,rfl,⟨none,0,rfl,Nat.le_refl _,by unfold maxLen;omega,.inl rfl,fun h=>absurd rfl h⟩,Below.refl _ _⟩
 |some a=>
  rcases Nat.eq_zero_or_pos m with h0|h0
  ·subst h0;obtain rfl:l=[]:=List.eq_nil_of_length_eq_zero hm.symm;refine (Tryz.slices_Clone_int_zero a c W).mono ?_;rintro e w' ⟨v',rfl,ho,_,hb⟩;exact⟨_,rfl,own_row (l:=[]) ho (fun g hg=>hg),hb⟩
  ·obtain⟨b,off,e,_,hc⟩:=h.at_ (k:=0) (by rw[I_length];omega);injection e with e;subst e;refine (Tryz.slices_Clone_int b off m c (l.map (fun n:Nat=>(n:Int))) W (by simp;omega) (by omega) ?_).mono ?_
   ·intro j hj;rw[List.length_map] at hj;rw[hc j (by rw[I_length];exact hj),I_get];rw[List.getD_eq_getElem?_getD,List.getD_eq_getElem?_getD,List.getElem?_map];rw[List.getElem?_eq_getElem hj];rfl
   ·rintro e w' ⟨v',rfl,ho,_,hb⟩;rw[List.take_of_length_le (by simp;omega),←I_ints,hm] at ho;exact⟨_,rfl,own_row ho (fun g hg=>hg),hb⟩
theorem set_next (cs:List Value) (n:Nat) (v z:Value) (k:Nat) (hk:cs.length=k) (hn:k<n):(cs++List.replicate (n-k) z).set k v=(cs++[v])++List.replicate (n-(k+1)) z:=by
 rw[List.set_append_right _ _ (by omega),hk,Nat.sub_self,show n-k=(n-(k+1))+1 from by omega,List.replicate_succ,List.set_cons_zero,List.append_assoc];rfl
theorem setCell_size (w:World) (p:Addr) (v:Value):(w.setCell p v).heap.size=w.heap.size:=by simp[World.setCell]
theorem grown_set (w:World) (g i:Nat) (u:Value):w.grownBy (w.setCell ⟨g,i,none⟩ u) (some g):=
 ⟨rfl,rfl,rfl,by simp[World.setCell],fun k _ hne=>Below.heap_setCell w _ u k (fun h=>hne (by rw[h]))⟩
theorem Rd_drop {w:World} {b off:Nat} {cs:List Value} (h:Rd w (some ⟨b,off,none⟩) cs) (k:Nat):Rd w (some ⟨b,off+k,none⟩) (cs.drop k):=by
 by_cases hk:k<cs.length
 ·obtain⟨b',off',e,hb,hc⟩:=h.at_ hk;injection e with e;injection e with e1 e2;subst e1 e2;refine .inr ⟨b,off+k,rfl,hb,fun i hi=>?_⟩;rw[List.length_drop] at hi;rw[Nat.add_assoc,hc (k+i) (by omega),List.getElem_drop]
 ·exact .inl (List.drop_eq_nil_of_le (by omega))
set_option maxRecDepth 100000 in
set_option maxHeartbeats 6400000 in
theorem eArgs_any (es:List Nd) (A1:Option Addr) (l1 c1:Nat) (w:World) (hL:LaidE w) (h1:Es w es A1 l1 c1) (hf1:∀n∈es,Fine n):
  Calls Tryz.prog 23 #[.slice A1 l1 c1] w (RetArgs (checkE es==0) (if checkE es=0 then argsE es else []) w):=by
 have HC:=Lib.hid (check_any es A1 l1 c1 w hL h1.len h1.cap h1.max h1.rd hf1);have H1:=Lib.hid h1;have HL:=Lib.hid hL;by_cases hz:checkE es=0
 ·have hk:=((checkE_iff es).1 hz).1;rw[←h1.len] at hk;have HWR:=Lib.hid (checkE_wr hz)
  have hch:chk es 0=0:=by
   have:=hz;unfold checkE at this;rwa[if_neg (by have:=h1.len;omega)] at this
  have HCH:=Lib.hid hch;rw[hz] at HC⊢;rw[if_pos rfl];clear hz h1 hf1 hch hL;go_enter Tryz.func23,Tryz.ntmps23;go_wp2_with fail;refine HC.out.mono ?_;rintro e w1 ⟨rfl,hb1⟩;go_wp2_with (refine wpList_make_blk _ rfl _ _ 45 rfl 27 (.slice none 0 0) 24 Tryz.underlying45 info_ints rfl _ _ _ _ l1 rfl rfl rfl rfl (by omega) (by omega) ?_;intro w2 hko hb2);have hB2:=bstep hb1 hb2;obtain⟨Bo,hBo⟩:∃Bo,Bo=w1.heap.size:=⟨_,rfl⟩
  rw[←hBo] at hko⊢;have hBo0:w.heap.size≤Bo:=by rw[hBo];exact hb1.size
  clear hb1 hb2 hBo;go_wp2
  go_loopg [5,17] l1 (fun g sv iv wr=>∃(k:Nat) (st:List Nat) (done:List (List Nat)) (cs:List Value) (A:Option Addr) (cp:Nat),k+g=l1∧iv=.int .i64 k∧sv=.slice A st.length cp∧st.length≤k∧
   Hid (Blk wr Bo 27 (cs++List.replicate (l1-k) (.slice none 0 0)))∧Hid (wr.ownsRow (Bo+1) 3 1 (.slice A st.length cp) st.length (I st))∧Hid (argsE es=done++runA (es.drop k) k st.reverse)∧
   Hid (LL wr (fun g=>(Value.slice A st.length cp).ownBlock=some g∨g=Bo) done cs)∧Hid (chk (es.drop k) st.length=0)∧Hid (done.length=k)∧Below w.heap.size w wr)
  case atStart=>
   refine⟨0,[],[],[],none,0,by omega,rfl,rfl,by simp,?_,World.ownsRow_nil _ _ _ _,rfl,?_,HCH.out,rfl,hB2⟩
   ·exact hko
   ·exact⟨rfl,fun i l h=>by simp at h⟩
  case round=>
   obtain⟨k,st,done,cs,A,cp,hk',rfl,rfl,hstk,hoo,hos,har,hll,hck,hdl,hbr⟩:=hrel;clear hB2 hko;have hcsl:Hid (cs.length=k):=by show _=_;rw[hll.out.len,hdl.out]
   by_cases hlt:k<l1
   ·have hke:k<es.length:=by rw[←H1.out.len];exact hlt
    obtain⟨b,off,hA,hb,hc0,hc1,hc2,hc3,hc4⟩:=(H1.out.rd.below hbr).nd hke;subst hA;have hcons:=List.drop_eq_getElem_cons hke;have hck2:=hck.out;rw[hcons] at hck2;obtain⟨hw0,hops,hck3⟩:=chk_zero hck2;have hopr:=wrongN_op hw0
    have har2:argsE es=done++(((st.reverse.take (shp es[k].op).ops).reverse)::runA (es.drop (k+1)) (k+1) (k::st.reverse.drop (shp es[k].op).ops)):=by
     rw[har.out,hcons,runA]
    generalize es[k]=nn at*;obtain⟨op,⟨neg,num,den⟩,nm⟩:=nn;simp only at hc0 hc1 hc2 hc3 hc4 hops hck3 hopr har2;obtain⟨p,rfl⟩:∃p:Nat,op=p:=⟨op.toNat,by omega⟩
    have hla:=(HL.out.below hbr).alloc (.cells #[.int .i64 (p:Int),.bool neg,.string num,.string den,.string nm] 33);have ht:=hla.cell p 1 (by omega) (by omega);simp only[Sh.cells,List.getElem?_cons_succ,List.getElem?_cons_zero] at ht;generalize (shp (p:Int)).ops=o at*;clear hcons hck2 hck har hw0 hla;have hro:=rev_take st o hops;rw[hro.1,hro.2] at har2;obtain⟨rst,hrst⟩:∃rst,st.length-o=rst:=⟨_,rfl⟩
    have hrs1:rst+o=st.length:=by omega
    have hrs2:(st.length:Int)-o=(rst:Int):=by omega
    have hrest:IntKind.i64.wrap ((st.length:Int)-o)=(rst:Int):=by rw[IntWalk.i64_in _ (by omega)];omega
    rw[hrst] at har2 hck3;have HCK:=Lib.hid hck3;obtain⟨l9,hl9⟩:∃l9,st.drop rst=l9:=⟨_,rfl⟩
    have hl9l:l9.length=st.length-rst:=by rw[←hl9,List.length_drop]
    rw[hl9] at har2;have HAR:=Lib.hid har2;clear hro hrst har2 hck3;have hwa:wr.grownBy (wr.alloc (.cells #[.int .i64 (p:Int),.bool neg,.string num,.string den,.string nm] 33)) none:=World.grownBy_alloc _ _ _;have hba:Below wr.heap.size wr (wr.alloc (.cells #[.int .i64 (p:Int),.bool neg,.string num,.string den,.string nm] 33)):=(Below.refl _ _).alloc (Nat.le_refl _) _
    have hcase:(A=none∧st.length=0∧cp=0)∨∃g,A=some ⟨g,0,none⟩∧st.length≤cp∧cp≤maxLen:=by
     rcases hos.out.2 with⟨hv,h0⟩|⟨g,cap,cur,hv,_,_,hn,hm,_⟩
     ·injection hv with e1 e2 e3;exact .inl ⟨e1,h0,e3⟩
     ·injection hv with e1 e2 e3;subst e3;exact .inr ⟨g,e1,hn,hm⟩
    have HOO:=Lib.hid ((hoo.out.below hba hoo.out.lt));have HOS:=Lib.hid (own_below hos.out hba);have HLL:=Lib.hid (hll.out.below hba);have HBR:=Lib.hid (hbr.trans (hba.mono hbr.size));have HHS:Hid (wr.heap.size≤(wr.alloc (.cells #[.int .i64 (p:Int),.bool neg,.string num,.string den,.string nm] 33)).heap.size):=hba.size;have HL9:=Lib.hid hl9;have hk60:k≤60:=by omega
    clear hoo hos hll hbr hwa hba hl9;generalize hWA:wr.alloc (.cells #[.int .i64 (p:Int),.bool neg,.string num,.string den,.string nm] 33)=WA at HOO HOS HLL HBR HHS;have HWA:=Lib.hid hWA;clear hWA;rcases hcase with⟨rfl,hs0,rfl⟩|⟨g0,rfl,hcp1,hcp2⟩
    ·have hst0:st=[]:=List.eq_nil_of_length_eq_zero hs0;subst hst0;obtain rfl:rst=0:=by simp at hrs1;omega
     obtain rfl:o=0:=by simpa using hrs1
     simp only[List.length_nil] at hl9l;clear hrs1 hrs2 hrest hs0 hstk hops;have HL9L:=Lib.hid hl9l;clear hl9l;go_wp2_with fail;rw[HWA.out];refine (cloneI_any (l:=l9) ?_ ?_ ?_).mono ?_
     ·have:=HL9L.out;omega
     ·first
      |(have h0:l9=[]:=List.eq_nil_of_length_eq_zero (by have:=HL9L.out;omega)
        subst h0;exact .inl rfl)
      |(obtain⟨A',c',hv,_,_,hr,_⟩:=own_rd HOS.out
        injection hv with q1 q2 q3;subst q1;have hr2:=Rd_drop hr 0;rw[Nat.zero_add] at hr2;rw[←HL9.out];unfold I at hr2⊢;rw[List.map_drop];exact hr2)
     ·omega
     rintro e w2 ⟨v',rfl,hrow,hb2⟩;have hrow1:=hrow;obtain⟨A9,c9,rfl,_⟩:=hrow1;have hko2:=HOO.out.below hb2 HOO.out.lt;have hcB:=hko2.cell (i:=k) (by rw[List.length_append,List.length_replicate,hcsl.out];omega);rw[List.getElem_append_right (by rw[hcsl.out];exact Nat.le_refl _),List.getElem_replicate] at hcB;have hfB:=hko2.frozen k;have hks:=hko2.set k (.slice A9 l9.length c9);rw[set_next cs l1 (.slice A9 l9.length c9) (.slice none 0 0) k hcsl.out hlt] at hks;have hgs:=grown_set w2 Bo k (.slice A9 l9.length c9);have hos1:WA.ownsRow (Bo+1) 3 1 (.slice none 0 0) 0 (I []):=HOS.out;have hos2:=own_below hos1 hb2
     have hos3:=hos2.kept hgs (by
      cases hv:(Value.slice none 0 0).ownBlock with
      |none=>exact .inl rfl
      |some g=>exact .inr (fun h=>by have:=(hos2.lt g hv).1;have:g=Bo:=(Option.some.inj h);omega))
     have hos4:=own_cut hos3 (show 0≤0 from by omega);rw[I_take] at hos4;have hbw:Below w.heap.size w (w2.setCell ⟨Bo,k,none⟩ (.slice A9 l9.length c9)):=(HBR.out.trans (hb2.mono HBR.out.size)).setCell (p:=⟨Bo,k,none⟩) hBo0 _
     have hX0:∀g,((Value.slice none 0 0).ownBlock=some g∨g=Bo)→g<WA.heap.size:=fun g hg=>by
      rcases hg with hg|rfl
      ·exact (hos1.lt g hg).2
      ·exact HOO.out.lt
     have hrow2:Row1 (w2.setCell ⟨Bo,k,none⟩ (.slice A9 l9.length c9)) (fun g=>(Value.slice none 0 0).ownBlock=some g∨g=Bo) (.slice A9 l9.length c9) l9:=
      hrow.step hgs (fun g hg=>by have:g=Bo:=(Option.some.inj hg).symm;subst this;exact HOO.out.lt) (fun g hg=>.inl (hX0 g hg))
     have hll1:=((HLL.out.below hb2).step hgs (fun g hg=>.inr (Option.some.inj hg).symm) (fun g hg=>.inl hg)).snoc hrow2;obtain⟨w3,hw3⟩:∃x,x=w2.setCell ⟨Bo,k,none⟩ (.slice A9 l9.length c9):=⟨_,rfl⟩
     rw[←hw3] at hos4 hbw hll1 hks;have HOS4:=Lib.hid hos4;have HBW:=Lib.hid hbw;have HLL1:=Lib.hid hll1;have HKS:=Lib.hid hks;have HW3:=Lib.hid hw3;have hBo3:Bo+1≤w3.heap.size:=hks.lt;clear hrow hko2 hks hgs hos1 hos2 hos3 hos4 hbw hX0 hrow2 hll1 hw3 hb2 HOS HBR HLL HOO;go_wp2_with (at_builtin;rw[←HW3.out];go_must (refine wpList_push_at w3 #[.int .i64 (k:Int)] rfl _ _ 27 rfl (Bo+1) 3 (.int .i64 0) 1 8 1 Tryz.underlying27 info_int rfl (by decide) (.slice none 0 0) 0 _ rfl HOS4.out (by rw[HW3.out,setCell_size];rfl) rfl ?_ ?_ ?_ ?_ ?_))
     any_goals first|rfl|(unfold maxLen;omega)|omega
     intro v1 w4 hown1 hg1 hv1;have hb4:Below w.heap.size w w4:=HBW.out.grown hg1 HBW.out.size (fun g hg=>by have:=(HOS4.out.lt g hg).1;omega)
     have hX1:∀g,(v1.ownBlock=some g∨g=Bo)→(((Value.slice none 0 0).ownBlock=some g∨g=Bo)∨w3.heap.size≤g):=fun g hg=>by
      rcases hg with hg|hg
      ·rcases hv1 g hg with h|h
       ·exact .inl (.inl ((blk_same _ _ _ _ _).trans h))
       ·exact .inr h
      ·exact .inl (.inr hg)
     have hll5:=HLL1.out.step hg1 (fun g hg=>.inl ((blk_same _ _ _ _ _).trans hg)) hX1;have hks4:Blk w4 Bo 27 (cs++[.slice A9 l9.length c9]++List.replicate (l1-(k+1)) (.slice none 0 0)):=HKS.out.of_block (hg1.block Bo HKS.out.lt (fun h=>by have:=(HOS4.out.lt Bo h.symm).1;omega));have hown2:w4.ownsRow (Bo+1) 3 1 v1 (0+1) (I (([]:List Nat).take 0++[k])):=by rw[←I_snoc];first|exact hown1|(rw[List.take_length];exact hown1)
     have hsl:(([]:List Nat).take 0++[k]).length=0+1:=by rw[List.length_append,List.length_take];simp<;>omega
     obtain⟨A',cp',rfl,_,_,_,_⟩:=own_rd hown2;rw[←hsl] at hown2 hll5;have HB4:=Lib.hid hb4;have HLL5:=Lib.hid hll5;have HKS4:=Lib.hid hks4;have HOWN2:=Lib.hid hown2;have HSL:=Lib.hid hsl;clear hb4 hX1 hll5 hks4 hown2 hown1 hg1 hv1 hsl HLL1 HKS HOS4;go_wp2
     go_roundg (l1-(k+1))
     case measure=>omega
     case rel=>
      refine⟨k+1,([]:List Nat).take 0++[k],done++[l9],cs++[.slice A9 l9.length c9],A',cp',by omega,by go_num,by rw[HSL.out],by rw[HSL.out];omega,HKS4,HOWN2,?_,HLL5,?_,?_,HB4.out⟩
      ·show _=_;rw[HAR.out,List.reverse_append,List.append_assoc];rfl
      ·show _=_;rw[HSL.out];exact HCK.out
      ·show _=_;rw[List.length_append,hdl.out];rfl
    ·unfold maxLen at hcp2;have hra:rst+o≤st.length:=by omega
     have hrb:st.length≤rst+o:=by omega
     clear hrs1;by_cases hcc:cp=rst
     ·obtain rfl:o=0:=by omega
      obtain rfl:rst=st.length:=by omega
      subst hcc;clear hrs2 hrest hra hrb hops;have HL9L:=Lib.hid hl9l;clear hl9l;go_wp2_with fail;rw[HWA.out];refine (cloneI_any (l:=l9) ?_ ?_ ?_).mono ?_
      ·have:=HL9L.out;omega
      ·first
       |(have h0:l9=[]:=List.eq_nil_of_length_eq_zero (by have:=HL9L.out;omega)
         subst h0;exact .inl rfl)
       |(obtain⟨A',c',hv,_,_,hr,_⟩:=own_rd HOS.out
         injection hv with q1 q2 q3;subst q1;have hr2:=Rd_drop hr st.length;rw[Nat.zero_add] at hr2;rw[←HL9.out];unfold I at hr2⊢;rw[List.map_drop];exact hr2)
      ·omega
      rintro e w2 ⟨v',rfl,hrow,hb2⟩;have hrow1:=hrow;obtain⟨A9,c9,rfl,_⟩:=hrow1;have hko2:=HOO.out.below hb2 HOO.out.lt;have hcB:=hko2.cell (i:=k) (by rw[List.length_append,List.length_replicate,hcsl.out];omega);rw[List.getElem_append_right (by rw[hcsl.out];exact Nat.le_refl _),List.getElem_replicate] at hcB;have hfB:=hko2.frozen k;have hks:=hko2.set k (.slice A9 l9.length c9);rw[set_next cs l1 (.slice A9 l9.length c9) (.slice none 0 0) k hcsl.out hlt] at hks;have hgs:=grown_set w2 Bo k (.slice A9 l9.length c9);have hos1:WA.ownsRow (Bo+1) 3 1 (.slice (some ⟨g0,0,none⟩) st.length st.length) st.length (I st):=HOS.out;have hos2:=own_below hos1 hb2
      have hos3:=hos2.kept hgs (by
       cases hv:(Value.slice (some ⟨g0,0,none⟩) st.length st.length).ownBlock with
       |none=>exact .inl rfl
       |some g=>exact .inr (fun h=>by have:=(hos2.lt g hv).1;have:g=Bo:=(Option.some.inj h);omega))
      have hos4:=own_cut hos3 (show st.length≤st.length from by omega);rw[I_take] at hos4;have hbw:Below w.heap.size w (w2.setCell ⟨Bo,k,none⟩ (.slice A9 l9.length c9)):=(HBR.out.trans (hb2.mono HBR.out.size)).setCell (p:=⟨Bo,k,none⟩) hBo0 _
      have hX0:∀g,((Value.slice (some ⟨g0,0,none⟩) st.length st.length).ownBlock=some g∨g=Bo)→g<WA.heap.size:=fun g hg=>by
       rcases hg with hg|rfl
       ·exact (hos1.lt g hg).2
       ·exact HOO.out.lt
      have hrow2:Row1 (w2.setCell ⟨Bo,k,none⟩ (.slice A9 l9.length c9)) (fun g=>(Value.slice (some ⟨g0,0,none⟩) st.length st.length).ownBlock=some g∨g=Bo) (.slice A9 l9.length c9) l9:=
       hrow.step hgs (fun g hg=>by have:g=Bo:=(Option.some.inj hg).symm;subst this;exact HOO.out.lt) (fun g hg=>.inl (hX0 g hg))
      have hll1:=((HLL.out.below hb2).step hgs (fun g hg=>.inr (Option.some.inj hg).symm) (fun g hg=>.inl hg)).snoc hrow2;obtain⟨w3,hw3⟩:∃x,x=w2.setCell ⟨Bo,k,none⟩ (.slice A9 l9.length c9):=⟨_,rfl⟩
      rw[←hw3] at hos4 hbw hll1 hks;have HOS4:=Lib.hid hos4;have HBW:=Lib.hid hbw;have HLL1:=Lib.hid hll1;have HKS:=Lib.hid hks;have HW3:=Lib.hid hw3;have hBo3:Bo+1≤w3.heap.size:=hks.lt;clear hrow hko2 hks hgs hos1 hos2 hos3 hos4 hbw hX0 hrow2 hll1 hw3 hb2 HOS HBR HLL HOO;go_wp2_with (at_builtin;rw[←HW3.out];go_must (refine wpList_push_at w3 #[.int .i64 (k:Int)] rfl _ _ 27 rfl (Bo+1) 3 (.int .i64 0) 1 8 1 Tryz.underlying27 info_int rfl (by decide) (.slice (some ⟨g0,0,none⟩) st.length st.length) st.length _ rfl HOS4.out (by rw[HW3.out,setCell_size];rfl) rfl ?_ ?_ ?_ ?_ ?_))
      any_goals first|rfl|(unfold maxLen;omega)|omega
      intro v1 w4 hown1 hg1 hv1;have hb4:Below w.heap.size w w4:=HBW.out.grown hg1 HBW.out.size (fun g hg=>by have:=(HOS4.out.lt g hg).1;omega)
      have hX1:∀g,(v1.ownBlock=some g∨g=Bo)→(((Value.slice (some ⟨g0,0,none⟩) st.length st.length).ownBlock=some g∨g=Bo)∨w3.heap.size≤g):=fun g hg=>by
       rcases hg with hg|hg
       ·rcases hv1 g hg with h|h
        ·exact .inl (.inl ((blk_same _ _ _ _ _).trans h))
        ·exact .inr h
       ·exact .inl (.inr hg)
      have hll5:=HLL1.out.step hg1 (fun g hg=>.inl ((blk_same _ _ _ _ _).trans hg)) hX1;have hks4:Blk w4 Bo 27 (cs++[.slice A9 l9.length c9]++List.replicate (l1-(k+1)) (.slice none 0 0)):=HKS.out.of_block (hg1.block Bo HKS.out.lt (fun h=>by have:=(HOS4.out.lt Bo h.symm).1;omega));have hown2:w4.ownsRow (Bo+1) 3 1 v1 (st.length+1) (I (st.take st.length++[k])):=by rw[←I_snoc];first|exact hown1|(rw[List.take_length];exact hown1)
      have hsl:(st.take st.length++[k]).length=st.length+1:=by rw[List.length_append,List.length_take];simp<;>omega
      obtain⟨A',cp',rfl,_,_,_,_⟩:=own_rd hown2;rw[←hsl] at hown2 hll5;have HB4:=Lib.hid hb4;have HLL5:=Lib.hid hll5;have HKS4:=Lib.hid hks4;have HOWN2:=Lib.hid hown2;have HSL:=Lib.hid hsl;clear hb4 hX1 hll5 hks4 hown2 hown1 hg1 hv1 hsl HLL1 HKS HOS4;go_wp2
      go_roundg (l1-(k+1))
      case measure=>omega
      case rel=>
       refine⟨k+1,st.take st.length++[k],done++[l9],cs++[.slice A9 l9.length c9],A',cp',by omega,by go_num,by rw[HSL.out],by rw[HSL.out];omega,HKS4,HOWN2,?_,HLL5,?_,?_,HB4.out⟩
       ·show _=_;rw[HAR.out,List.reverse_append,List.append_assoc];rfl
       ·show _=_;rw[HSL.out];exact HCK.out
       ·show _=_;rw[List.length_append,hdl.out];rfl
     ·have hne':(cp==rst)=false:=by rw[beq_eq_false_iff_ne];exact hcc
      have HL9L:=Lib.hid hl9l;clear hl9l;go_wp2_with fail;rw[HWA.out];refine (cloneI_any (l:=l9) ?_ ?_ ?_).mono ?_
      ·have:=HL9L.out;omega
      ·first
       |(have h0:l9=[]:=List.eq_nil_of_length_eq_zero (by have:=HL9L.out;omega)
         subst h0;exact .inl rfl)
       |(obtain⟨A',c',hv,_,_,hr,_⟩:=own_rd HOS.out
         injection hv with q1 q2 q3;subst q1;have hr2:=Rd_drop hr rst;rw[Nat.zero_add] at hr2;rw[←HL9.out];unfold I at hr2⊢;rw[List.map_drop];exact hr2)
      ·omega
      rintro e w2 ⟨v',rfl,hrow,hb2⟩;have hrow1:=hrow;obtain⟨A9,c9,rfl,_⟩:=hrow1;have hko2:=HOO.out.below hb2 HOO.out.lt;have hcB:=hko2.cell (i:=k) (by rw[List.length_append,List.length_replicate,hcsl.out];omega);rw[List.getElem_append_right (by rw[hcsl.out];exact Nat.le_refl _),List.getElem_replicate] at hcB;have hfB:=hko2.frozen k;have hks:=hko2.set k (.slice A9 l9.length c9);rw[set_next cs l1 (.slice A9 l9.length c9) (.slice none 0 0) k hcsl.out hlt] at hks;have hgs:=grown_set w2 Bo k (.slice A9 l9.length c9);have hos1:WA.ownsRow (Bo+1) 3 1 (.slice (some ⟨g0,0,none⟩) st.length cp) st.length (I st):=HOS.out;have hos2:=own_below hos1 hb2
      have hos3:=hos2.kept hgs (by
       cases hv:(Value.slice (some ⟨g0,0,none⟩) st.length cp).ownBlock with
       |none=>exact .inl rfl
       |some g=>exact .inr (fun h=>by have:=(hos2.lt g hv).1;have:g=Bo:=(Option.some.inj h);omega))
      have hos4:=own_cut hos3 (show rst≤st.length from by omega);rw[I_take] at hos4;have hbw:Below w.heap.size w (w2.setCell ⟨Bo,k,none⟩ (.slice A9 l9.length c9)):=(HBR.out.trans (hb2.mono HBR.out.size)).setCell (p:=⟨Bo,k,none⟩) hBo0 _
      have hX0:∀g,((Value.slice (some ⟨g0,0,none⟩) st.length cp).ownBlock=some g∨g=Bo)→g<WA.heap.size:=fun g hg=>by
       rcases hg with hg|rfl
       ·exact (hos1.lt g hg).2
       ·exact HOO.out.lt
      have hrow2:Row1 (w2.setCell ⟨Bo,k,none⟩ (.slice A9 l9.length c9)) (fun g=>(Value.slice (some ⟨g0,0,none⟩) st.length cp).ownBlock=some g∨g=Bo) (.slice A9 l9.length c9) l9:=
       hrow.step hgs (fun g hg=>by have:g=Bo:=(Option.some.inj hg).symm;subst this;exact HOO.out.lt) (fun g hg=>.inl (hX0 g hg))
      have hll1:=((HLL.out.below hb2).step hgs (fun g hg=>.inr (Option.some.inj hg).symm) (fun g hg=>.inl hg)).snoc hrow2;obtain⟨w3,hw3⟩:∃x,x=w2.setCell ⟨Bo,k,none⟩ (.slice A9 l9.length c9):=⟨_,rfl⟩
      rw[←hw3] at hos4 hbw hll1 hks;have HOS4:=Lib.hid hos4;have HBW:=Lib.hid hbw;have HLL1:=Lib.hid hll1;have HKS:=Lib.hid hks;have HW3:=Lib.hid hw3;have hBo3:Bo+1≤w3.heap.size:=hks.lt;clear hrow hko2 hks hgs hos1 hos2 hos3 hos4 hbw hX0 hrow2 hll1 hw3 hb2 HOS HBR HLL HOO;go_wp2_with (at_builtin;rw[←HW3.out];go_must (refine wpList_push_at w3 #[.int .i64 (k:Int)] rfl _ _ 27 rfl (Bo+1) 3 (.int .i64 0) 1 8 1 Tryz.underlying27 info_int rfl (by decide) (.slice (some ⟨g0,0,none⟩) rst cp) rst _ rfl HOS4.out (by rw[HW3.out,setCell_size];rfl) rfl ?_ ?_ ?_ ?_ ?_))
      any_goals first|rfl|(unfold maxLen;omega)|omega
      intro v1 w4 hown1 hg1 hv1;have hb4:Below w.heap.size w w4:=HBW.out.grown hg1 HBW.out.size (fun g hg=>by have:=(HOS4.out.lt g hg).1;omega)
      have hX1:∀g,(v1.ownBlock=some g∨g=Bo)→(((Value.slice (some ⟨g0,0,none⟩) st.length cp).ownBlock=some g∨g=Bo)∨w3.heap.size≤g):=fun g hg=>by
       rcases hg with hg|hg
       ·rcases hv1 g hg with h|h
        ·exact .inl (.inl ((blk_same _ _ _ _ _).trans h))
        ·exact .inr h
       ·exact .inl (.inr hg)
      have hll5:=HLL1.out.step hg1 (fun g hg=>.inl ((blk_same _ _ _ _ _).trans hg)) hX1;have hks4:Blk w4 Bo 27 (cs++[.slice A9 l9.length c9]++List.replicate (l1-(k+1)) (.slice none 0 0)):=HKS.out.of_block (hg1.block Bo HKS.out.lt (fun h=>by have:=(HOS4.out.lt Bo h.symm).1;omega));have hown2:w4.ownsRow (Bo+1) 3 1 v1 (rst+1) (I (st.take rst++[k])):=by rw[←I_snoc];first|exact hown1|(rw[List.take_length];exact hown1)
      have hsl:(st.take rst++[k]).length=rst+1:=by rw[List.length_append,List.length_take];simp<;>omega
      obtain⟨A',cp',rfl,_,_,_,_⟩:=own_rd hown2;rw[←hsl] at hown2 hll5;have HB4:=Lib.hid hb4;have HLL5:=Lib.hid hll5;have HKS4:=Lib.hid hks4;have HOWN2:=Lib.hid hown2;have HSL:=Lib.hid hsl;clear hb4 hX1 hll5 hks4 hown2 hown1 hg1 hv1 hsl HLL1 HKS HOS4;go_wp2
      go_roundg (l1-(k+1))
      case measure=>omega
      case rel=>
       refine⟨k+1,st.take rst++[k],done++[l9],cs++[.slice A9 l9.length c9],A',cp',by omega,by go_num,by rw[HSL.out],by rw[HSL.out];omega,HKS4,HOWN2,?_,HLL5,?_,?_,HB4.out⟩
       ·show _=_;rw[HAR.out,List.reverse_append,List.append_assoc];rfl
       ·show _=_;rw[HSL.out];exact HCK.out
       ·show _=_;rw[List.length_append,hdl.out];rfl
   ·have hkl:k=l1:=by omega
    have har2:Hid (argsE es=done):=by
     show _=_;rw[har.out,hkl,H1.out.len,List.drop_length];simp[runA]
    have hll2:LL wr (fun _=>False) done cs:=hll.out.step (below_grown (Below.refl _ _)) (fun g h=>by cases h) (fun g h=>h.elim);have hko3:=hoo.out;rw[hkl,Nat.sub_self,List.replicate_zero,List.append_nil] at hko3;have HRD:=Lib.hid hko3.rd;have HLL2:=Lib.hid hll2;have hx1:decide (k<l1)=false:=decide_eq_false hlt;clear hll2 hko3 hoo hos hll hck har;go_wp2;go_ret2;refine⟨some ⟨Bo,0,none⟩,l1,l1,rfl,⟨?_,Nat.le_refl _,by unfold maxLen;omega,cs,HRD.out,?_⟩,hbr⟩
    ·rw[har2.out,hdl.out,hkl]
    ·rw[har2.out];exact HLL2.out
 ·rw[if_neg hz];obtain⟨zz,hzz⟩:∃zz,checkE es=zz:=⟨_,rfl⟩
  rw[hzz] at hz HC⊢;have e1:(zz !=0)=true:=by simp[hz]
  have e2:(zz==0)=false:=by simp[hz]
  rw[e2];clear hz h1 hf1 hzz hL;go_enter Tryz.func23,Tryz.ntmps23;go_wp2_with fail;refine HC.out.mono ?_;rintro e w1 ⟨rfl,hb1⟩;go_wp2;go_ret2;exact RetArgs.bad hb1
theorem textR_size (a:Ra) (hn:a.num.size≤1048576) (hd:a.den.size≤1048576):(textR a).size≤6291460:=by
 obtain⟨h1,h2⟩:=valR_size a 1048576 (by omega) hn hd;have h3:=decS_small _ h1;have h4:=decS_small _ h2;unfold textR
 have hs:(if (valR a).neg then (⟨#[45]⟩:ByteArray)++decS (vbs (valR a).num) else decS (vbs (valR a).num)).size≤3145729:=by
  split
  ·rw[ByteArray.size_append];show 1+_≤_;omega
  ·omega
 simp only
 generalize (if (valR a).neg then (⟨#[45]⟩:ByteArray)++decS (vbs (valR a).num) else decS (vbs (valR a).num))=s at*;split
 ·omega
 ·rw[ByteArray.size_append,ByteArray.size_append];show _+(1+_)≤_;omega
theorem decDigits_ne (n:Nat):Lib.decDigits n≠[]:=by
 unfold Lib.decDigits;split<;>simp
theorem textR_ne (a:Ra):(textR a).data.toList≠[]:=by
 have h:∀x y:ByteArray,(x++y).data.toList=x.data.toList++y.data.toList:=fun x y=>by rw[ByteArray.data_append,Array.toList_append]
 have hd:(decS (vbs (valR a).num)).data.toList≠[]:=decDigits_ne _;unfold textR;simp only
 split<;>split<;>simp[h,hd]
theorem txt_ne {n:Nd} (h:wrongN n=0) (ops:List (List UInt8)):txt n ops≠[]:=by
 obtain⟨h1,h2⟩:=wrongN_op h;unfold txt;split
 ·split<;>simp
 ·next h4=>
  have hw:(n.op=2∨n.op=3)∨(shp n.op).word≠[]:=by
   have hall:∀k∈List.range 25,1≤k→(((k:Int)=2∨(k:Int)=3∨(k:Int)=4)∨(shp (k:Int)).word≠[]):=by decide
   have:=hall n.op.toNat (List.mem_range.2 (by omega)) (by omega);rw[show ((n.op.toNat:Nat):Int)=n.op from by omega] at this;rcases this with (h|h|h)|h
   ·exact .inl (.inl h)
   ·exact .inl (.inr h)
   ·exact absurd h h4
   ·exact .inr h
  rcases hw with hw|hw
  ·have hl:(shp n.op).lit=true:=by rw[shp_lit];exact decide_eq_true (by omega)
   rw[hl];have:=textR_ne n.num;simp[this]
  ·simp[hw]
theorem shp_word_len (n:Int):(shp n).word.length≤7:=by
 refine shp_all (fun _ s=>s.word.length≤7) (by decide) (fun n _=>by show 0≤7;omega) n
theorem joinC_len (l:List (List UInt8)):(joinC l).length≤(l.map List.length).sum+2*l.length:=by
 induction l with
 |nil=>simp[joinC]
 |cons a l ih=>
  unfold joinC;split
  ·simp;omega
  ·simp at ih⊢;omega
theorem txt_len {n:Nd} (h:wrongN n=0) (hf:Fine n) (ops:List (List UInt8)):(txt n ops).length≤7000000+(ops.map List.length).sum+2*ops.length:=by
 have ht:=textR_size n.num hf.1 hf.2;have ht':(textR n.num).data.toList.length=(textR n.num).size:=by simp
 have hj:=joinC_len ops;have hw:=shp_word_len n.op
 have hn:n.name.data.toList.length≤20:=by
  rcases wrongN_ways n with h'|h'|h'|h'|h'|h'|h'
  ·rw[h] at h';exact absurd h'.2 (by decide)
  ·rw[h] at h';exact absurd h'.2.2 (by decide)
  ·rw[h] at h';exact absurd h'.2.2.2 (by decide)
  ·rw[h] at h';exact absurd h'.2.2.2.2.2 (by decide)
  ·have:=(emp_nil _).1 h'.2.2.2.2.1;rw[this];show 0≤20;omega
  ·rw[h] at h';exact absurd h'.2.2.2.2.2 (by decide)
  ·have:=h'.2.2.2.2.1;unfold nameB at this;simp only[Bool.and_eq_true,decide_eq_true_eq] at this;exact this.1.2
 unfold txt;split
 ·split<;>simp<;>omega
 ·simp only[List.length_append]
  have e1:(if (shp n.op).lit=true then (textR n.num).data.toList else []).length≤6291460:=by split<;>simp<;>omega
  have e2:(if n.op=2 then [100] else ([]:List UInt8)).length≤1:=by split<;>simp
  have e3:(if (shp n.op).stp=true then [91]++(textR n.num).data.toList++[93] else []).length≤6291462:=by split<;>simp<;>omega
  have e4:(if (shp n.op).ops=0 then [] else [40]++joinC ops++[41]).length≤(joinC ops).length+2:=by split<;>simp<;>omega
  have e5:(if (shp n.op).lit=true then (textR n.num).data.toList else []).length+(if (shp n.op).stp=true then [91]++(textR n.num).data.toList++[93] else []).length≤6291462:=by
   rw[shp_lit,shp_stp];by_cases hl:1≤n.op∧n.op≤4
   ·rw[if_pos (decide_eq_true hl),if_neg (by rw[decide_eq_true_eq];omega)];simp;omega
   ·rw[if_neg (by rw[decide_eq_true_eq];exact hl)];split<;>simp<;>omega
  omega
def opsTo (l:List (List UInt8)):List UInt8:=l.foldl (fun acc s=>(if acc=[] then acc else acc++[44,32])++s) []
theorem opsTo_snoc (l:List (List UInt8)) (s:List UInt8):opsTo (l++[s])=(if opsTo l=[] then opsTo l else opsTo l++[44,32])++s:=by
 unfold opsTo;rw[List.foldl_append];rfl
theorem joinC_snoc (l:List (List UInt8)) (s:List UInt8) (hl:l≠[]):joinC (l++[s])=joinC l++[44,32]++s:=by
 induction l with
 |nil=>exact absurd rfl hl
 |cons a l ih=>
  cases l with
  |nil=>simp[joinC]
  |cons b l=>
   have:=ih (by simp);show a++[44,32]++joinC ((b::l)++[s])=_;rw[this];simp[joinC]
theorem joinC_ne {l:List (List UInt8)} (hl:l≠[]) (h:∀s∈l,s≠[]):joinC l≠[]:=by
 cases l with
 |nil=>exact absurd rfl hl
 |cons a l=>
  have:=h a (by simp);unfold joinC;split<;>simp[this]
theorem opsTo_eq_n (m:Nat):∀l:List (List UInt8),l.length=m→(∀s∈l,s≠[])→opsTo l=joinC l:=by
 induction m with
 |zero=>
  intro l hl _;rw[List.eq_nil_of_length_eq_zero hl];rfl
 |succ m ih=>
  intro l hl h;rcases List.eq_nil_or_concat l with rfl|⟨l',s,rfl⟩
  ·simp at hl
  ·rw[List.concat_eq_append] at h hl⊢;have hl':l'.length=m:=by simpa using hl
   have h1:=ih l' hl' (fun x hx=>h x (List.mem_append_left _ hx));rw[opsTo_snoc];by_cases h0:l'=[]
   ·subst h0;simp[opsTo,joinC]
   ·rw[joinC_snoc _ _ h0,←h1,if_neg (by rw[h1];exact joinC_ne h0 (fun x hx=>h x (List.mem_append_left _ hx)))]
theorem opsTo_eq (l:List (List UInt8)) (h:∀s∈l,s≠[]):opsTo l=joinC l:=opsTo_eq_n _ l rfl h
end Go.Proofs.YtbicehdehiakgaaGreatDoor
