/- tithinglaw07.ExprNear is true of every input: the tied card of its row, proved. Conditions: the package-level variables that the row lists hold what the program's own text lays in them. -/
import Derived.Deep.RegionLaw
import Derived.Lib.LazyBuf
import Derived.SevenTiedAt
import Derived.Test.YtbicehdehiakgaaGreatDoorTie
import Derived.Test.YtbicehdehiakgaaGreatDoorCards
import Derived.Test.YtbicehdehiakgaaGreatDoorG27
import Derived.Test.YtbicehdehiakgaaGreatDoorG34
import Derived.Test.YtbicehdehiakgaaGreatDoorG37
import Derived.Test.YtbicehdehiakgaaGreatDoorG38
import Derived.Test.YtbicehdehiakgaaGreatDoorG39
import Derived.Test.YtbicehdehiakgaaGreatDoorJ00
set_option linter.unusedVariables false
set_option linter.unusedSimpArgs false
namespace Go.Proofs.YtbicehdehiakgaaGreatDoor
open Go.RowKit
theorem nds_set5 (es:List Nd) (k:Nat) (m:Nd) (hk:k<es.length):
  (((((nds es).set (k*5) (.int .i64 m.op)).set (k*5+1) (.bool m.num.neg)).set (k*5+2) (.string m.num.num)).set (k*5+3) (.string m.num.den)).set (k*5+4) (.string m.name)=nds (es.set k m):=by
 induction es generalizing k with
 |nil=>simp at hk
 |cons n es ih=>
  cases k with
  |zero=>rfl
  |succ k=>
   have:=ih k (by simpa using hk);show (((((n.cells++nds es).set _ _).set _ _).set _ _).set _ _).set _ _=n.cells++nds (es.set k m);rw[←this];have hl:n.cells.length=5:=rfl;rw[List.set_append_right _ _ (by rw[hl];omega),List.set_append_right _ _ (by rw[hl];omega),List.set_append_right _ _ (by rw[hl];omega),List.set_append_right _ _ (by rw[hl];omega),List.set_append_right _ _ (by rw[hl];omega),hl];congr 1;rw[show (k+1)*5-5=k*5 from by omega,show (k+1)*5+1-5=k*5+1 from by omega,show (k+1)*5+2-5=k*5+2 from by omega,show (k+1)*5+3-5=k*5+3 from by omega,show (k+1)*5+4-5=k*5+4 from by omega]
theorem nds_set1 (es:List Nd) (k:Nat) (x:Int) (hk:k<es.length):(nds es).set (k*5) (.int .i64 x)=nds (es.set k ⟨x,es[k].num,es[k].name⟩):=by
 induction es generalizing k with
 |nil=>simp at hk
 |cons n es ih=>
  cases k with
  |zero=>rfl
  |succ k=>
   have:=ih k (by simpa using hk);show (n.cells++nds es).set _ _=n.cells++nds (es.set k _);have hl:n.cells.length=5:=rfl;rw[List.set_append_right _ _ (by rw[hl];omega),hl,show (k+1)*5-5=k*5 from by omega,this];rfl
def putL (xs:List Value) (o:Nat):List Value→List Value
 |[]=>xs
 |v::vs=>putL (xs.set o v) (o+1) vs
theorem own_put {base:Nat} {e:TypeId} {size g n cap:Nat} (vs:List Value):∀(w:World) (xs:List Value) (o:Nat),w.ownsRow base e size (.slice (some ⟨g,0,none⟩) n cap) n xs→
  (w.setCells g o vs).ownsRow base e size (.slice (some ⟨g,0,none⟩) n cap) n (putL xs o vs):=by
 induction vs with
 |nil=>intro w xs o h;exact h
 |cons v vs ih=>intro w xs o h;exact ih _ _ _ (h.stored o v).1
theorem putL_take (vs:List Value):∀(xs:List Value) (o:Nat),o+vs.length≤xs.length→(putL xs o vs).take (o+vs.length)=xs.take o++vs:=by
 induction vs with
 |nil=>intro xs o _;simp[putL]
 |cons v vs ih=>
  intro xs o h;simp only[List.length_cons] at h⊢;show (putL (xs.set o v) (o+1) vs).take _=_;rw[show o+(vs.length+1)=o+1+vs.length from by omega,ih _ _ (by rw[List.length_set];omega),List.take_succ_eq_append_getElem (by rw[List.length_set];omega),List.take_set_of_le (Nat.le_refl _)];simp
theorem below_puts {B b:Nat} {a:World} (hb:B≤b) (vs:List Value):∀(o:Nat) (w:World),Below B a w→Below B a (w.setCells b o vs):=by
 induction vs with
 |nil=>intro o w h;exact h
 |cons v vs ih=>intro o w h;exact ih _ _ (h.setCell (p:=⟨b,o,none⟩) hb v)
theorem own_cutn {w:World} {base:Nat} {e:TypeId} {A:Option Addr} {s n c m:Nat} {xs:List Value} (h:w.ownsRow base e s (.slice A n c) n xs) (hm:m≤n):w.ownsRow base e s (.slice A m c) m (xs.take (m*s)):=by
 have hms:m*s≤n*s:=Nat.mul_le_mul_right _ hm;refine⟨by rw[List.length_take,h.1];omega,?_⟩;rcases h.2 with⟨hv,h0⟩|⟨g,cap,cur,hv,hb,hh,hn,hc,hs,ht⟩
 ·injection hv with e1 e2 e3;subst e1 e3;exact .inl ⟨by rw[show m=0 from by omega],by omega⟩
 ·injection hv with e1 e2 e3;subst e1 e3;refine .inr ⟨g,c,cur,rfl,hb,hh,by omega,hc,hs,?_⟩;rw[←ht,List.take_take];congr 1;omega
section
variable {P:Program}
theorem step_append_rd (w:World) {ops:Array Oper} {o:Oper} {a:Act} {K:Act→World→Prop} {Q:Exit→Act→World→Prop} {E:Prop} (hgd:o.guard=none) (s x:Operand) (t:TypeId)
  (ho:o.op=.call {callee:=.builtin .append,args:=#[s,x],argTypes:=#[t,t]})
  (base:Nat) (e:TypeId) (z:Value) (size bytes:Nat) (ht:P.underlying t=some (.slice e)) (hinfo:(P.info? e).map (fun i=>(i.zero,i.size,i.bytes))=some (some z,size,bytes)) (hzs:z.cells.size=size) (hsz:0<size)
  (v:Value) (n:Nat) (xs:List Value) (hs:a.eval s=v) (hown:w.ownsRow base e size v n xs)
  (A:Option Addr) (m c:Nat) (news:List Value) (hx:a.eval x=.slice A m c) (hr:Rd w A news) (hl:news.length=m*size) (h1:∀u∈news,u.oneCell'=true)
  (h63:n+m≤maxLen) (hbytes:(n+m)*bytes≤140737488355328) (hbase:base≤w.heap.size)
  (h:∀v' w',w'.ownsRow base e size v' (n+m) (xs++news)→Below base w w'→K (a.put o.dst v') w'):
  if Region.wanted o (yielded ops a.tmps)=true then Oper.wp P o a w K Q else E:=by
 have hw:Region.wanted o (yielded ops a.tmps)=true:=by simp[Region.wanted,hgd]
 rw[if_pos hw];obtain⟨i,hi,hzz⟩:=Option.map_eq_some_iff.1 hinfo;simp only[Prod.mk.injEq] at hzz;obtain⟨hz,hs1,hb⟩:=hzz
 have hk:∀v' w',w'.ownsRow base e size v' (n+m) (xs++news)→w.grownBy w' v.ownBlock→(v'=.slice none 0 0↔v=.slice none 0 0∧m=0)→K (a.put o.dst v') w':=
  fun v' w' h2 h3 _=>h v' w' h2 ((Below.refl _ _).grown h3 hbase (fun k hk=>(hown.lt k hk).1))
 rcases hr with rfl|⟨b,off,rfl,_,hc⟩
 ·obtain rfl:m=0:=by
   rcases Nat.eq_zero_or_pos m with h0|h0
   ·exact h0
   ·have:=Nat.mul_pos h0 hsz;simp at hl;omega
  cases A with
  |none=>
   have hrun:=run_append_own_empty (P:=P) (w:=w) base t o.type e i size ht hi v n xs hown c;unfold Oper.wp;simp[execOp,ho,resolve,invoke,builtin,hs,hx,hrun,Result.andThen];exact h v w (by simpa using hown) (Below.refl _ _)
  |some ad=>
   exact wp_append_own (w:=w) s x t ho base e i z size bytes ht hi hz hs1 hb hzs hsz v n xs hs hown ad 0 c [] hx hl (by intro j u hj;simp at hj) h1 h63 hbytes hbase hk
 ·refine wp_append_own (w:=w) s x t ho base e i z size bytes ht hi hz hs1 hb hzs hsz v n xs hs hown ⟨b,off,none⟩ m c news hx hl ?_ h1 h63 hbytes hbase hk;intro j u hj;have hj':=(List.getElem?_eq_some_iff.1 hj)
  rw[show Addr.add ⟨b,off,none⟩ j=⟨b,off+j,none⟩ from by unfold Addr.add;split<;>simp_all,hc j hj'.1,←hj'.2]
end
theorem u8_small (s:Nat) (h:s<4):IntKind.u8.wrap (s:Int)=s:=by
 obtain rfl|rfl|rfl|rfl:s=0∨s=1∨s=2∨s=3:=by omega
 all_goals decide+kernel
set_option maxRecDepth 100000 in
set_option maxHeartbeats 6400000 in
theorem exprNear_core (l:List Int) (A1:Option Addr) (l1 c1:Nat) (p q:Nat) (nop:Int) (nneg:Bool) (nnum nden nnm:ByteArray) (w:World) (hL:LaidE w) (h1:Zz w l A1 l1 c1) (hp:p<256) (hq:q<256):
  Calls Tryz.prog 4 #[.slice A1 l1 c1,.agg #[.int .u8 (p:Int),.int .u8 (q:Int)],.agg #[.int .i64 nop,.bool nneg,.string nnum,.string nden,.string nnm]] w fun e w'=>e=.returned (.bool true)∧Below w.heap.size w w':=by
 have HL:Hid (∀W,Below w.heap.size w W→LaidE W):=fun W hb=>hL.below hb
 have HZ:=Lib.hid h1;have HCA:=Lib.hid (madeE_check l);have HFA:=Lib.hid (madeE_fine l);obtain⟨hle,hlp⟩:=madeE_len l;have e1:(p:Int).tmod ((madeE l).length:Int)=((p % (madeE l).length:Nat):Int):=by rw[Int.tmod_eq_emod_of_nonneg (by omega)];omega
 have hk:=Nat.mod_lt p hlp;have e2:(q:Int).tmod 4=((q % 4:Nat):Int):=by rw[Int.tmod_eq_emod_of_nonneg (by omega)];omega
 have hs:=Nat.mod_lt q (show 0<4 by omega);have e3:(p:Int).tmod 24=((p % 24:Nat):Int):=by rw[Int.tmod_eq_emod_of_nonneg (by omega)];omega
 have ht:=Nat.mod_lt p (show 0<24 by omega);have hw1:IntKind.i64.wrap (p:Int)=p:=IntWalk.i64_in _ (by omega);generalize p % (madeE l).length=k at*;generalize q % 4=s at*;generalize p % 24=t at*;have hw2:IntKind.i64.wrap (k:Int)=k:=IntWalk.i64_in _ (by omega);have hw3:IntKind.u8.wrap (s:Int)=s:=u8_small s hs;have hw4:IntKind.i64.wrap (t:Int)=t:=IntWalk.i64_in _ (by omega);have hw5:IntKind.i64.wrap (1+(t:Int))=1+t:=IntWalk.i64_in _ (by omega);have hw6:IntKind.i64.wrap ((k:Int)+1)=(k:Int)+1:=IntWalk.i64_in _ (by omega);clear h1 hp hq;obtain⟨W,hW⟩:∃W,W=(w.alloc (.cells #[.int .u8 (p:Int),.int .u8 (q:Int)] 28)).alloc (.cells #[.int .i64 nop,.bool nneg,.string nnum,.string nden,.string nnm] 33):=⟨_,rfl⟩
 have htwo:=Two.new w 28 33 #[.int .u8 (p:Int),.int .u8 (q:Int)] #[.int .i64 nop,.bool nneg,.string nnum,.string nden,.string nnm];rw[←hW] at htwo;obtain⟨hk0,hk1,hba,hsz⟩:=htwo;obtain⟨B,hB⟩:∃B,B=w.heap.size:=⟨_,rfl⟩
 have HB:=Lib.hid hB;rw[←hB] at hba hsz hk0 hk1;have hba':Below w.heap.size w W:=by rw[←HB.out];exact hba
 clear hba;go_enter Tryz.func4,Tryz.ntmps4;go_wp2_with fail;simp only[←hW,←hB]
 clear hW hB;refine (lsanity_any _ (HL.out _ hba')).mono ?_;rintro e w1 ⟨rfl,hb⟩;have hp1:=hk0.below hb hk0.lt;have hq1:=hk1.below hb hk1.lt;have hB1:=bstep hba' hb;clear hb hk0 hk1 hba';go_wp2_with fail;refine (made_es (HZ.out.below hB1)).mono ?_;rintro e w2 ⟨Aa,na,ca,rfl,ha,hb⟩;have hp2:=hp1.below hb hp1.lt;have hq2:=hq1.below hb hq1.lt;have hB2:=bstep hB1 hb;clear hb hp1 hq1 hB1;generalize madeE l=xs at*;obtain rfl:na=xs.length:=ha.len;have hcp:=hp2.cells;have hcq:=hq2.cells;have hw0:=(World.ownsRow_lit (base:=w2.heap.size) (e:=33) (size:=5) w2 #[] 0 (Nat.le_refl _) (by unfold maxLen;omega) rfl)
 have hE0:=ha.below ((Below.refl _ _).alloc (Nat.le_refl _) (.cells #[] 33));have hcca:=ha.cap;have hcmx:=ha.max;have HW0:=Lib.hid hw0;have HE0:=Lib.hid hE0;have HXS:=Lib.hid ha;have HB2:=Lib.hid hB2;clear hw0 hE0 ha hB2;go_wp2_with (at_builtin;go_must (refine wpList_append_rd (w2.alloc (.cells #[] 33)) rfl _ _ 22 rfl w2.heap.size 33 _ 5 64 Tryz.underlying22 info_node rfl (by decide) (.slice (some ⟨w2.heap.size,0,none⟩) 0 0) 0 _ rfl HW0.out Aa xs.length ca (nds xs) rfl HE0.out.rd (by rw[nds_length]) (nds_one _) ?_ ?_ ?_ ?_))
 any_goals first|(unfold maxLen;omega)|omega
 ·rw[World.size_alloc];omega
 intro v' w3 hown hb3;have hown:w3.ownsRow w2.heap.size 33 5 v' xs.length (nds xs):=by simpa using hown
 have hb3:Below w2.heap.size w2 w3:=((Below.refl _ _).alloc (Nat.le_refl _) _).trans hb3;obtain⟨g,cp,rfl,hge⟩:=own_form hown (by omega);have hp3:=hp2.below hb3 hp2.lt;have hq3:=hq2.below hb3 hq2.lt;have hcp:=hp3.cells;have hcq:=hq3.cells;have HX2:=HXS;replace HXS:=Lib.hid (HXS.out.below hb3);have HB3:=Lib.hid (bstep HB2.out hb3);have HSZ:Hid (w.heap.size≤w2.heap.size):=HB2.out.size;have HB23:=Lib.hid hb3;have HOW:=Lib.hid hown;obtain⟨_,_,hEcp,hcc1,hcc2,_,_⟩:=own_rd hown;injection hEcp with q1 q2 q3;subst q1 q3;clear q2;have hszB:B+2≤w2.heap.size:=by have:=hq2.lt;omega
 clear hp2 hq2 hb3 hown HW0 HE0 HXS hp3 hq3;obtain rfl|rfl|rfl|rfl:s=0∨s=1∨s=2∨s=3:=by omega
 ·clear e3 ht hw4 hw5 hw6;have hk5:=Blk.new w3 33 #[.int .i64 nop,.bool nneg,.string nnum,.string nden,.string nnm];have hE1:Es (w3.alloc (.cells #[.int .i64 nop,.bool nneg,.string nnum,.string nden,.string nnm] 33)) [⟨nop,⟨nneg,nnum,nden⟩,nnm⟩] (some ⟨w3.heap.size,0,none⟩) 1 1:=⟨rfl,Nat.le_refl _,by unfold maxLen;omega,hk5.rd⟩
  have HBA:Hid (Below w3.heap.size w3 (w3.alloc (.cells #[.int .i64 nop,.bool nneg,.string nnum,.string nden,.string nnm] 33))):=(Below.refl _ _).alloc (Nat.le_refl _) _;have HE1:=Lib.hid hE1;clear hE1 hk5;go_wp2_with fail;refine (lcut_any _ _ _ _ _ HE1.out).mono ?_;rintro e w4 ⟨A4,n4,c4,rfl,hE4,hb4⟩;have hbx:Below w3.heap.size w3 w4:=bstep HBA.out hb4;have hFm:=cutL_fine [⟨nop,⟨nneg,nnum,nden⟩,nnm⟩];obtain⟨md,hmd⟩:∃md,cutL [⟨nop,⟨nneg,nnum,nden⟩,nnm⟩]=[md]:=⟨_,rfl⟩
  rw[hmd] at hE4 hFm;obtain rfl:n4=1:=hE4.len;have hc4:=hE4.cap;obtain⟨b4,o4,rfl,hb4s,d0,d1,d2,d3,d4⟩:=hE4.rd.nd (k:=0) (by simp);have hFmd:=hFm md (List.mem_cons_self ..);clear hFm hmd hE4 hb4;simp only[List.getElem_cons_zero,Nat.zero_mul,Nat.add_zero] at d0 d1 d2 d3 d4;have HOW4:=Lib.hid (own_below HOW.out hbx);have HB24:=Lib.hid (HB23.out.trans (hbx.mono HB23.out.size));have HM:=Lib.hid hFmd;have g0:=(HOW4.out.cellAt (k*5+0) (by omega)).trans (nds_get xs k 0 hk (by omega));have g1:=(HOW4.out.cellAt (k*5+1) (by omega)).trans (nds_get xs k 1 hk (by omega));have g2:=(HOW4.out.cellAt (k*5+2) (by omega)).trans (nds_get xs k 2 hk (by omega));have g3:=(HOW4.out.cellAt (k*5+3) (by omega)).trans (nds_get xs k 3 hk (by omega));have g4:=(HOW4.out.cellAt (k*5+4) (by omega)).trans (nds_get xs k 4 hk (by omega));have q0:=HOW4.out.frozenAt (k*5);have q1:=HOW4.out.frozenAt (k*5+1);have q2:=HOW4.out.frozenAt (k*5+2);have q3:=HOW4.out.frozenAt (k*5+3);have q4:=HOW4.out.frozenAt (k*5+4);obtain⟨y,hy⟩:∃y,y=xs[k]:=⟨_,rfl⟩
  rw[←hy] at g0 g1 g2 g3 g4;simp only[Nat.add_zero] at g0;replace g0:w4.cell? ⟨g,k*5,none⟩=some (.int .i64 y.op):=g0;replace g1:w4.cell? ⟨g,k*5+1,none⟩=some (.bool y.num.neg):=g1;replace g2:w4.cell? ⟨g,k*5+2,none⟩=some (.string y.num.num):=g2;replace g3:w4.cell? ⟨g,k*5+3,none⟩=some (.string y.num.den):=g3;replace g4:w4.cell? ⟨g,k*5+4,none⟩=some (.string y.name):=g4;clear hy hFmd hbx;obtain⟨mop,⟨mneg,mnum,mden⟩,mnm⟩:=md;simp only at d0 d1 d2 d3 d4;obtain⟨Wq,hWq⟩:∃x,x=(((((w4.setCell ⟨g,k*5,none⟩ (.int .i64 mop)).setCell ⟨g,k*5+1,none⟩ (.bool mneg)).setCell ⟨g,k*5+2,none⟩ (.string mnum)).setCell ⟨g,k*5+3,none⟩ (.string mden)).setCell ⟨g,k*5+4,none⟩ (.string mnm)):=⟨_,rfl⟩
  have hown5:Wq.ownsRow w2.heap.size 33 5 (.slice (some ⟨g,0,none⟩) xs.length cp) xs.length (nds (xs.set k ⟨mop,⟨mneg,mnum,mden⟩,mnm⟩)):=by
   rw[hWq,←nds_set5 xs k _ hk];exact (((((HOW4.out.stored (k*5) _).1.stored (k*5+1) _).1.stored (k*5+2) _).1.stored (k*5+3) _).1.stored (k*5+4) _).1
  have hB5:Below w2.heap.size w4 Wq:=by
   rw[hWq];exact (((((Below.refl _ _).setCell (p:=⟨g,k*5,none⟩) hge _).setCell (p:=⟨g,k*5+1,none⟩) hge _).setCell (p:=⟨g,k*5+2,none⟩) hge _).setCell (p:=⟨g,k*5+3,none⟩) hge _).setCell (p:=⟨g,k*5+4,none⟩) hge _
  have hB6:Below w2.heap.size w2 Wq:=HB24.out.trans hB5;have HO5:=Lib.hid hown5;have HB6:=Lib.hid hB6;clear hown5 hB5 hB6 HB24 hge;go_wp2_with fail;simp only[←hWq]
  clear hWq HOW4 g0 g1 g2 g3 g4 q0 q1 q2 q3 q4 d0 d1 d2 d3 d4 hb4s;obtain⟨A9,cp9,e9,r1,r2,r3,_⟩:=own_rd HO5.out;injection e9 with e9a e9b e9c;subst e9a e9c;have HOS:Hid (Es _ (xs.set k ⟨mop,⟨mneg,mnum,mden⟩,mnm⟩) _ _ _):=⟨by rw[List.length_set],r1,r2,r3⟩
  have HFO:Hid (∀n∈xs.set k ⟨mop,⟨mneg,mnum,mden⟩,mnm⟩,Fine n):=fun n hn=>by rcases List.mem_or_eq_of_mem_set hn with h|rfl;exact HFA.out n h;exact HM.out
  have HBW:=Lib.hid (bstep HB2.out HB6.out);have HXS:=Lib.hid (HX2.out.below HB6.out);clear r1 r2 r3 HO5 HB6 HOW HB3 HB23 hcp hcq;refine (lalike_any xs _ xs.length ca _ (HL.out _ HBW.out) HXS.out HFA.out).mono ?_;rintro e w20 ⟨rfl,hb⟩;replace HBW:=Lib.hid (bstep HBW.out hb);replace HXS:=Lib.hid (HXS.out.below hb);replace HOS:=Lib.hid (HOS.out.below hb);clear hb;go_wp2_with fail;refine (lalike_any _ _ _ _ _ (HL.out _ HBW.out) HOS.out HFO.out).mono ?_;rintro e w21 ⟨rfl,hb⟩;replace HBW:=Lib.hid (bstep HBW.out hb);replace HXS:=Lib.hid (HXS.out.below hb);clear hb HOS HFO;have HCK:=Lib.hid (check_any xs _ xs.length ca w21 (HL.out _ HBW.out) HXS.out.len HXS.out.cap HXS.out.max HXS.out.rd HFA.out);rw[HCA.out] at HCK;go_wp2_with fail;refine HCK.out.mono ?_;rintro e w22 ⟨rfl,hb⟩;go_wp2;go_ret;exact⟨rfl,bstep HBW.out hb⟩
 ·clear e3 ht hw4 hw5;obtain⟨i0,hi0,hz0⟩:=Option.map_eq_some_iff.1 info_node;simp only[Prod.mk.injEq] at hz0;have hz1:=hz0.2.1;have hnl:(nds (xs.drop (k+1))).length=(xs.length-(k+1))*5:=by rw[nds_length,List.length_drop]
  have hcx:∀j u,(nds (xs.drop (k+1)))[j]?=some u→w3.cell? ⟨g,(k+1)*5+j,none⟩=some u:=by
   intro j u hu;have hj:=(List.getElem?_eq_some_iff.1 hu).1;rw[HOW.out.cellAt _ (by rw[hnl] at hj;omega)];rw[nds_drop,List.getElem?_drop] at hu;exact hu
  obtain⟨A8,hA8,hnews⟩:∃A8:Addr,(if cp=k+1 then some (⟨g,0,none⟩:Addr) else some ⟨g,(k+1)*5,none⟩)=some A8∧Hid (∀j u,(nds (xs.drop (k+1)))[j]?=some u→w3.drew.cell? (A8.add j)=some u):=by
   by_cases h:cp=k+1
   ·refine⟨⟨g,0,none⟩,by rw[if_pos h],fun j u hu=>?_⟩;have hj:=(List.getElem?_eq_some_iff.1 hu).1;rw[hnl] at hj;omega
   ·refine⟨⟨g,(k+1)*5,none⟩,by rw[if_neg h],fun j u hu=>?_⟩;rw[show Addr.add ⟨g,(k+1)*5,none⟩ j=⟨g,(k+1)*5+j,none⟩ from by unfold Addr.add;split<;>simp_all];exact hcx j u hu
  have s1:Hid ((nds (xs.drop (k+1))).length=(xs.length-(k+1))*5):=hnl
  have s3:Hid (∀j,j<(nds (xs.drop (k+1))).length→(w3.drew.cell? ⟨g,0+k*5+j,none⟩).isSome=true∧w3.drew.frozen? ⟨g,0+k*5+j,none⟩=false):=by
   intro j hj;rw[hnl] at hj;refine⟨?_,HOW.out.frozenAt _⟩;show (w3.cell? _).isSome=true;rw[HOW.out.cellAt _ (by omega),List.getElem?_eq_getElem (by rw[nds_length];omega)];rfl
  clear hnl hcx hz0;have hkc:k≤cp:=by omega
  have hp0:(0:Int)≤(k:Int)+1:=by omega
  have hp1:(k:Int)+1≤(xs.length:Int):=by omega
  have hp2:((k:Int)+1).toNat=k+1:=by omega
  go_wp2_with fail
  go_region_law (refine step_append_room rfl _ _ 22 rfl 33 i0 5 Tryz.underlying22 hi0 hz1 g 0 k cp (by simp[Act.eval,Act.put]) A8 (xs.length-(k+1)) (cp-(k+1)) (nds (xs.drop (k+1))) (by simp[Act.eval,Act.put]) s1.out hnews.out (nds_one _) (by omega) s3.out ?_)
  go_wp2_with fail
  have HO5:Hid ((w3.drew.setCells g (k*5) (nds (xs.drop (k+1)))).ownsRow w2.heap.size 33 5 (.slice (some ⟨g,0,none⟩) (k+(xs.length-(k+1))) cp) (k+(xs.length-(k+1))) (nds (xs.take k++xs.drop (k+1)))):=by
   have h:=own_cutn (m:=k+(xs.length-(k+1))) (own_put (nds (xs.drop (k+1))) w3.drew _ (k*5) HOW.out.drew) (by omega);have h2:=putL_take (nds (xs.drop (k+1))) (nds xs) (k*5) (by rw[s1.out,nds_length];omega);rw[s1.out,show k*5+(xs.length-(k+1))*5=(k+(xs.length-(k+1)))*5 from by omega] at h2;rw[h2,←nds_take,←nds_append] at h;exact h
  have HB6:Hid (Below w2.heap.size w2 (w3.drew.setCells g (k*5) (nds (xs.drop (k+1))))):=below_puts hge _ _ _ HB23.out.drew;generalize World.setCells _ _ _ _=Wq at*;clear hnews hA8 s1 s3 hi0 hz1 i0;obtain⟨A9,cp9,e9,r1,r2,r3,_⟩:=own_rd HO5.out;injection e9 with e9a e9b e9c;subst e9a e9c;have HOS:Hid (Es _ (xs.take k++xs.drop (k+1)) _ _ _):=⟨by rw[List.length_append,List.length_take,List.length_drop];omega,r1,r2,r3⟩
  have HFO:Hid (∀n∈xs.take k++xs.drop (k+1),Fine n):=fun n hn=>by rcases List.mem_append.1 hn with h|h;exact HFA.out n (List.mem_of_mem_take h);exact HFA.out n (List.mem_of_mem_drop h)
  have HBW:=Lib.hid (bstep HB2.out HB6.out);have HXS:=Lib.hid (HX2.out.below HB6.out);clear r1 r2 r3 HO5 HB6 HOW HB3 HB23 hcp hcq;refine (lalike_any xs _ xs.length ca _ (HL.out _ HBW.out) HXS.out HFA.out).mono ?_;rintro e w20 ⟨rfl,hb⟩;replace HBW:=Lib.hid (bstep HBW.out hb);replace HXS:=Lib.hid (HXS.out.below hb);replace HOS:=Lib.hid (HOS.out.below hb);clear hb;go_wp2_with fail;refine (lalike_any _ _ _ _ _ (HL.out _ HBW.out) HOS.out HFO.out).mono ?_;rintro e w21 ⟨rfl,hb⟩;replace HBW:=Lib.hid (bstep HBW.out hb);replace HXS:=Lib.hid (HXS.out.below hb);clear hb HOS HFO;have HCK:=Lib.hid (check_any xs _ xs.length ca w21 (HL.out _ HBW.out) HXS.out.len HXS.out.cap HXS.out.max HXS.out.rd HFA.out);rw[HCA.out] at HCK;go_wp2_with fail;refine HCK.out.mono ?_;rintro e w22 ⟨rfl,hb⟩;go_wp2;go_ret;exact⟨rfl,bstep HBW.out hb⟩
 ·clear e3 ht hw4 hw5;obtain⟨b,off,rfl,hbs,_⟩:=HX2.out.rd.nd hk;have hw0:=(World.ownsRow_lit (base:=w3.heap.size) (e:=33) (size:=5) w3.drew #[] 0 (Nat.le_refl _) (by unfold maxLen;omega) rfl)
  have HW0:=Lib.hid hw0;have HBA:Hid (Below w3.heap.size w3 (w3.drew.alloc (.cells #[] 33))):=(Below.refl _ _).drew.alloc (Nat.le_refl _) _;have HX3:=Lib.hid (HX2.out.below HB23.out)
  have HR1:Hid (Rd (w3.drew.alloc (.cells #[] 33)) (some ⟨b,off,none⟩) (nds (xs.take (k+1)))):=by
   show Rd _ _ _;rw[nds_take];exact (HX3.out.below HBA.out).rd.take _
  have hl1:(nds (xs.take (k+1))).length=(k+1)*5:=by rw[nds_length,List.length_take];omega
  have hl2:(nds (xs.drop k)).length=(xs.length-k)*5:=by rw[nds_length,List.length_drop]
  have HL1:=Lib.hid hl1;have HL2:=Lib.hid hl2;have HSA:Hid (w3.heap.size≤(w3.drew.alloc (.cells #[] 33)).heap.size):=HBA.out.size;clear hw0 hl1 hl2 hbs;have hkc:¬ca=k:=by omega
  have hkc2:k≤ca:=by omega
  have hkc3:k+1≤ca:=by omega
  have hp0:(0:Int)≤(k:Int)+1:=by omega
  have hp1:(k:Int)+1≤(ca:Int):=by omega
  have hp2:((k:Int)+1).toNat=k+1:=by omega
  have hp3:(k:Int)≤(xs.length:Int):=by omega
  go_wp2_with fail
  go_region_law (first
   |(refine step_append_rd (w3.drew.alloc (.cells #[] 33)) rfl _ _ 22 rfl w3.heap.size 33 _ 5 64 Tryz.underlying22 info_node rfl (by decide) (.slice (some ⟨w3.heap.size,0,none⟩) 0 0) 0 (#[]:Array Value).toList (by simp[Act.eval,Act.put]) HW0.out (some ⟨b,off,none⟩) (k+1) ca (nds (xs.take (k+1))) (by simp[Act.eval,Act.put]) HR1.out HL1.out (nds_one _) (by unfold maxLen;omega) (by omega) HSA.out ?_;intro v1 w4 hown4 hb4;have HO4:=Lib.hid hown4;have HB4:=Lib.hid (HBA.out.trans hb4);have HR4:=Lib.hid ((HX3.out.below HB4.out).rd.drop_some (k*5));rw[←nds_drop] at HR4;have HS4:Hid (w3.heap.size≤w4.heap.size):=HB4.out.size;clear hown4 hb4)
   |(refine step_append_rd w4 rfl _ _ 22 rfl w3.heap.size 33 _ 5 64 Tryz.underlying22 info_node rfl (by decide) v1 (0+(k+1)) ((#[]:Array Value).toList++nds (xs.take (k+1))) (by simp[Act.eval,Act.put]) HO4.out (some ⟨b,off+k*5,none⟩) (xs.length-k) (ca-k) (nds (xs.drop k)) (by simp[Act.eval,Act.put]) HR4.out HL2.out (nds_one _) (by unfold maxLen;omega) (by omega) HS4.out ?_;intro v2 w5 hown5 hb5;have HO5:=Lib.hid hown5;have HB5:=Lib.hid (HB4.out.trans hb5);clear hown5 hb5))
  have hO5:w5.ownsRow w3.heap.size 33 5 v2 ((k+1)+(xs.length-k)) (nds (xs.take (k+1)++xs.drop k)):=by
   have h:=HO5.out;rw[Nat.zero_add] at h;rw[nds_append];exact h
  obtain⟨g9,c9,rfl,_⟩:=own_form hO5 (by omega);clear HO5;have HO5:=Lib.hid hO5;have HB6:Hid (Below w2.heap.size w2 w5):=HB23.out.trans (HB5.out.mono HB23.out.size);clear hO5 HW0 HBA HX3 HR1 HL1 HL2 HSA HO4 HB4 HR4 HS4 HB5;go_wp2_with fail;obtain⟨A9,cp9,e9,r1,r2,r3,_⟩:=own_rd HO5.out;injection e9 with e9a e9b e9c;subst e9a e9c;have HOS:Hid (Es _ (xs.take (k+1)++xs.drop k) _ _ _):=⟨by rw[List.length_append,List.length_take,List.length_drop];omega,r1,r2,r3⟩
  have HFO:Hid (∀n∈xs.take (k+1)++xs.drop k,Fine n):=fun n hn=>by rcases List.mem_append.1 hn with h|h;exact HFA.out n (List.mem_of_mem_take h);exact HFA.out n (List.mem_of_mem_drop h)
  have HBW:=Lib.hid (bstep HB2.out HB6.out);have HXS:=Lib.hid (HX2.out.below HB6.out);clear r1 r2 r3 HO5 HB6 HOW HB3 HB23 hcp hcq;refine (lalike_any xs _ xs.length ca _ (HL.out _ HBW.out) HXS.out HFA.out).mono ?_;rintro e w20 ⟨rfl,hb⟩;replace HBW:=Lib.hid (bstep HBW.out hb);replace HXS:=Lib.hid (HXS.out.below hb);replace HOS:=Lib.hid (HOS.out.below hb);clear hb;go_wp2_with fail;refine (lalike_any _ _ _ _ _ (HL.out _ HBW.out) HOS.out HFO.out).mono ?_;rintro e w21 ⟨rfl,hb⟩;replace HBW:=Lib.hid (bstep HBW.out hb);replace HXS:=Lib.hid (HXS.out.below hb);clear hb HOS HFO;have HCK:=Lib.hid (check_any xs _ xs.length ca w21 (HL.out _ HBW.out) HXS.out.len HXS.out.cap HXS.out.max HXS.out.rd HFA.out);rw[HCA.out] at HCK;go_wp2_with fail;refine HCK.out.mono ?_;rintro e w22 ⟨rfl,hb⟩;go_wp2;go_ret;exact⟨rfl,bstep HBW.out hb⟩
 ·clear hw6;have g0:=(HOW.out.cellAt (k*5+0) (by omega)).trans (nds_get xs k 0 hk (by omega));have q0:=HOW.out.frozenAt (k*5);simp only[Nat.add_zero] at g0;replace g0:w3.cell? ⟨g,k*5,none⟩=some (.int .i64 xs[k].op):=g0;generalize xs[k].op=zop at g0
  have HO5:Hid ((w3.setCell ⟨g,k*5,none⟩ (.int .i64 (1+(t:Int)))).ownsRow w2.heap.size 33 5 (.slice (some ⟨g,0,none⟩) xs.length cp) xs.length (nds (xs.set k ⟨1+(t:Int),xs[k].num,xs[k].name⟩))):=by
   have h:=(HOW.out.stored (k*5) (.int .i64 (1+(t:Int)))).1;rw[nds_set1 xs k _ hk] at h;exact h
  have HB6:Hid (Below w2.heap.size w2 (w3.setCell ⟨g,k*5,none⟩ (.int .i64 (1+(t:Int))))):=HB23.out.setCell (p:=⟨g,k*5,none⟩) hge _;have HM:=Lib.hid (HFA.out _ (List.getElem_mem hk));go_wp2_with fail;generalize World.setCell _ _ _=Wq at*;clear g0 q0;obtain⟨A9,cp9,e9,r1,r2,r3,_⟩:=own_rd HO5.out;injection e9 with e9a e9b e9c;subst e9a e9c;have HOS:Hid (Es _ (xs.set k ⟨1+(t:Int),xs[k].num,xs[k].name⟩) _ _ _):=⟨by rw[List.length_set],r1,r2,r3⟩
  have HFO:Hid (∀n∈xs.set k ⟨1+(t:Int),xs[k].num,xs[k].name⟩,Fine n):=fun n hn=>by rcases List.mem_or_eq_of_mem_set hn with h|rfl;exact HFA.out n h;exact HM.out
  have HBW:=Lib.hid (bstep HB2.out HB6.out);have HXS:=Lib.hid (HX2.out.below HB6.out);clear r1 r2 r3 HO5 HB6 HOW HB3 HB23 hcp hcq;refine (lalike_any xs _ xs.length ca _ (HL.out _ HBW.out) HXS.out HFA.out).mono ?_;rintro e w20 ⟨rfl,hb⟩;replace HBW:=Lib.hid (bstep HBW.out hb);replace HXS:=Lib.hid (HXS.out.below hb);replace HOS:=Lib.hid (HOS.out.below hb);clear hb;go_wp2_with fail;refine (lalike_any _ _ _ _ _ (HL.out _ HBW.out) HOS.out HFO.out).mono ?_;rintro e w21 ⟨rfl,hb⟩;replace HBW:=Lib.hid (bstep HBW.out hb);replace HXS:=Lib.hid (HXS.out.below hb);clear hb HOS HFO;have HCK:=Lib.hid (check_any xs _ xs.length ca w21 (HL.out _ HBW.out) HXS.out.len HXS.out.cap HXS.out.max HXS.out.rd HFA.out);rw[HCA.out] at HCK;go_wp2_with fail;refine HCK.out.mono ?_;rintro e w22 ⟨rfl,hb⟩;go_wp2;go_ret;exact⟨rfl,bstep HBW.out hb⟩
end Go.Proofs.YtbicehdehiakgaaGreatDoor
namespace Go.Proofs.YtbicehdehiakgaaGreatDoor
open Go.ChangeShapes Go.WideShapes Go.ChangeAt Go.RowKit
set_option maxRecDepth 100000 in
theorem u82_of_trod {H:Type} {enc:TypeId × Value→H} {W:World} {base:Nat} {spare:Nat→Bool} {held:Bool} {r:Reach} {b0:Nat} {v:Value} {d:DataW H} {p:List MemPlace} (hv:Value.okWide Tryz.prog W r b0 28 v) (h:DataW.Trod enc Tryz.prog W base spare held 28 v d p):
  ∃x y:Nat,v=.agg #[.int .u8 (x:Int),.int .u8 (y:Int)]∧x<256∧y<256:=by
 obtain⟨fuel,hf⟩:=h;have k1:Tryz.prog.cellsOf 5=1:=by kernel_rfl
 have k2:Tryz.prog.cellsOf 28=2:=by kernel_rfl
 obtain⟨cs,rfl,hsz⟩:=okWide_arr Tryz.underlying28 hv;obtain⟨cs⟩:=cs;have hcl:cs.length=2:=by rw[←k2];exact hsz
 obtain⟨a0,a1,rfl⟩:=len2t hcl;have hf':DataW.trod enc Tryz.prog W base spare held fuel 28 [a0,a1]=some (d,p):=hf;obtain⟨xs,m,_,ex,hxc,hxl,hx⟩:=DataW.trod_array Tryz.underlying28 hf';rw[k1] at hx;have g0:=hx 0 (by omega);have g1:=hx 1 (by omega);obtain⟨x0,x1,rfl⟩:=len2t hxl;simp only[Nat.zero_mul,Nat.one_mul,Nat.mul_one,List.drop_zero,List.take_succ_cons,List.take_zero,List.drop_succ_cons,List.getElem?_cons_zero,List.getElem?_cons_succ] at g0 g1;obtain⟨q0,b0',_,w0⟩:=DataW.trod_int Tryz.underlying5 g0;obtain⟨q1,b1',_,w1⟩:=DataW.trod_int Tryz.underlying5 g1;injection b0' with b0';injection b1' with b1';subst b0' b1';obtain⟨h0,h1⟩:=u8_in w0;obtain⟨h2,h3⟩:=u8_in w1;refine⟨q0.toNat,q1.toNat,?_,by omega,by omega⟩;rw[Int.toNat_of_nonneg h0,Int.toNat_of_nonneg h2]
set_option maxRecDepth 100000 in
theorem nd1_of_trod {H:Type} {enc:TypeId × Value→H} {W:World} {base:Nat} {spare:Nat→Bool} {held:Bool} {r:Reach} {b0:Nat} {v:Value} {d:DataW H} {p:List MemPlace} (hv:Value.okWide Tryz.prog W r b0 33 v) (h:DataW.Trod enc Tryz.prog W base spare held 33 v d p):
  ∃n:Nd,v=.agg #[.int .i64 n.op,.bool n.num.neg,.string n.num.num,.string n.num.den,.string n.name]:=by
 obtain⟨fuel,hf⟩:=h;obtain⟨cs,rfl,hsz⟩:=okWide_struct Tryz.underlying33 hv;obtain⟨cs⟩:=cs;have hf':DataW.trod enc Tryz.prog W base spare held fuel 33 cs=some (d,p):=hf;obtain⟨n,rfl⟩:=nd_of_trod hf';exact⟨n,rfl⟩
theorem exprNear_types:∀t∈Tryz.f4.params.toList,Tryz.prog.readableRec t=true∧t<Tryz.prog.types.size:=by
 have hall:([27,28,33].all fun t=>Tryz.prog.readableRec t&&decide (t<Tryz.prog.types.size))=true:=by kernel_rfl
 rw[Tryz.params4];intro t ht;have hm:t∈[27,28,33]:=by simpa using ht
 simpa using List.all_eq_true.1 hall t hm
set_option maxRecDepth 100000 in
theorem exprNear_lifted (os:Os) (started:os.Started) (H:Type) (enc:TypeId × Value→H):
  ReturnsInHanded {} Tryz.checked os 4 .any (fun w args=>(Rows.exprNearSpec.pre enc Tryz.prog Tryz.f4 [] false w args∧laidMetH Tryz.prog lds w)∧sizedMet enc Tryz.prog Tryz.f4 (OpenSpec.ofChange Rows.exprNearSpec) false w args)
   (Rows.exprNearSpec.post enc Tryz.prog Tryz.f4 false true false false):=by
 refine returns_shaped (C:=Tryz.checked) (X:=fun w _=>laidMetH Tryz.prog lds w) (fun _ _ _ hh h=>h.of_heap hh) Tryz.own started (by kernel_rfl) Tryz.func4
  (ChangeSpec.witness_shaped (enc:=enc) (C:=Tryz.checked) (os:=os) (X:=fun w _=>laidMetH Tryz.prog lds w) false (World.laidAll Tryz.prog os lds) #[.slice none 0 0,.agg #[.int .u8 0,.int .u8 0],.agg #[.int .i64 0,.bool false,.string ⟨#[]⟩,.string ⟨#[]⟩,.string ⟨#[]⟩]] 8 (World.laidAll_os _ _ _)
    (World.shaped_of_ZipB (by kernel_rfl) (by kernel_rfl)) (by kernel_rfl) (by kernel_rfl) (by kernel_rfl) (world_met os _)) ?_
 intro W base args ds gs before hval0 hW hL hsh;have hval:∀(j:Nat) t v,Tryz.f4.params[j]?=some t→args[j]?=some v→Value.okWide Tryz.prog W .any base t v:=hval0;have hW':DataW.Whole enc Tryz.prog Tryz.f4.params.toList Rows.exprNearSpec.vars false W args.toList ds gs before:=hW;obtain⟨p,q,hA0,hV,rfl,_,_⟩:=hW;have hA:DataW.TrodAll enc Tryz.prog W 0 (fun _=>true) true Tryz.f4.params.toList args.toList ds p:=hA0;rw[Tryz.params4] at hA hval;obtain⟨v0,v1,v2,d0,d1,d2,p0,p1,p2,rfl,rfl,rfl,h0,h1,h2⟩:=trodAll_three hA;obtain⟨rfl,rfl⟩:=trodVars_none hV;obtain⟨l,A0,n0,c0,rfl,hE0⟩:=zz_of_trod (hval 0 27 v0 rfl rfl) h0;obtain⟨x,y,rfl,hx,hy⟩:=u82_of_trod (hval 1 28 v1 rfl rfl) h1;obtain⟨n,rfl⟩:=nd1_of_trod (hval 2 33 v2 rfl rfl) h2;obtain⟨nop,⟨nneg,nnum,nden⟩,nnm⟩:=n;refine (exprNear_core l A0 n0 c0 x y nop nneg nnum nden nnm W (laidE_of hL hsh) hE0 hx hy).mono fun e W' ⟨he,hb⟩=>?_
 subst he;exact⟨_,rfl,post_true (H:=H) (enc:=enc) (P:=Tryz.prog) (f:=Tryz.f4) (s:=Rows.exprNearSpec) (tb:=4) Tryz.laidOut rfl rfl rfl Tryz.underlying4 exprNear_types hW' hb⟩
theorem exprNear_holds:Rows.ExprNearSaid:=
 OpenClaim.holds_of_wide 4 Tryz.f4 rfl rfl rfl rfl rfl rfl rfl ⟨rfl,rfl,rfl,rfl,rfl⟩ rfl rfl rfl rfl rfl (by kernel_rfl) Tryz.func4 (by kernel_rfl)
  (of_decide_eq_true (by kernel_rfl)) (by unfold Func.isWrapper;first|(rw[if_pos (by decide+kernel)];kernel_rfl)|(rw[if_neg (by decide+kernel)];exact⟨rfl,rfl⟩))
  (fun os started H enc _=>exprNear_lifted os started H enc)
theorem exprNear_card:Rows.ExprNearCardSaid:=
 Claim7.holds_tied_plain_at .later [] [.data,.data,.data,.data,.sentinel,.sentinel,.widerDeep,.pinned] true Rows.exprNearCard.stood.harness true
  exprNear_holds (fun _ h=>by cases h) (by kernel_rfl) (fun _ h=>by cases h) exprNear_row_tie rfl ⟨rfl,rfl⟩ (by kernel_rfl) rfl
  (fun f fn hf hfn=>by
    obtain rfl:f=4:=Option.some.inj ((show Tryz.prog.funcNamed "tithing/tithinglaw07.ExprNear" =some 4 by kernel_rfl).symm.trans hf) |>.symm
    obtain rfl:fn=Tryz.f4:=(Option.some.inj (Tryz.func4.symm.trans hfn)).symm
    exact⟨by kernel_rfl,fun j t ht=>by
     rw[Tryz.params4] at ht;have hm:t∈[27,28,33]:=by simpa using Array.mem_of_getElem? ht
     have hall:([27,28,33].all fun u=> !Tryz.prog.wantsStandIn u)=true:=by kernel_rfl
     exact (show Tryz.prog.wantsStandIn t=false by simpa using List.all_eq_true.1 hall t hm)⟩)
  (by kernel_rfl)
end Go.Proofs.YtbicehdehiakgaaGreatDoor
