/- Part: V2. -/
import Derived.ProofKit
import Derived.OpenShut
import Derived.LaidMore
import Derived.Lay
import Derived.Stop.Joined
import Derived.Stop.LaidErr
import Derived.Test.YtjpbmbgincdjaaaGreatDoorRows
import Derived.Test.YtjpbmbgincdjaaaGreatDoorK21
set_option linter.all false
set_option maxRecDepth 100000
set_option maxHeartbeats 0
namespace Go.Proofs.YtjpbmbgincdjaaaGreatDoor
open Go.ChangeShapes Go.WideShapes Go.ChangeAt Go.RowKit List World Go.Proofs.Tryz
abbrev Qe:List (String × DataW Unit):=Rows.statuteChecksRow.laid
def Sh.data (s:Sh):DataW Unit:=.agg [.lit (.string s.word),.lit (.int .i64 (s.ops:Int)),.lit (.bool s.lit),.lit (.bool s.eH),.lit (.bool s.fQ)]
theorem ab8:(Rows.laid_internal_strconv_uint64pow10:DataW Unit)=Lib.tabData .u64 Lib.pow10Tab:=by kernel_rfl
theorem ab9:(Rows.laid_tithing_expr_table:DataW Unit)=.agg (iV.map Sh.data):=by kernel_rfl
section
variable {P:Program}
theorem cell_lt {w:World} {b o:Nat} {v:Value} (h:w.cell? ⟨b,o,none⟩=some v):b<w.heap.size:=block_lt_of_cell? _ _ h
theorem Qg {w:World} {g:Nat} {t:TypeId} {k:IntKind} {zero:Array Value} (h:w.ShapedOpen P) (hg:g<P.globals.size)
  (h0:((begin P (fun _ _=>0) default).world.heap[g]?).bind Obj.row?=some (zero,t)) (hz:zero.size=1)
  (hb:P.buildable t=true) (hc:P.cellTypes P.depth t=some [t]) (hu:P.underlying t=some (.int k)):∃n,w.cell? ⟨g,0,none⟩=some (.int k n):=by
 obtain⟨cs,hh,hs,hr⟩:=h.1 g zero t hg h0;obtain⟨ts,hts,_,hall⟩:=hr hb;rw[hc] at hts;cases hts;have h1:0<cs.size:=by omega
 obtain⟨u,hu',hok⟩:=hall 0 cs[0] (by simp[h1]);have:u=t:=by simpa using hu'.symm
 subst this;have hcell:w.cell? ⟨g,0,none⟩=some cs[0]:=by simp[World.cell?,hh,h1]
 rw[hcell];unfold Cell.ok at hok;rw[hu] at hok;cases hv:cs[0]<;>rw[hv] at hok<;>first|(simp only[Lit.ok] at hok;done)|skip
 all_goals first|(simp at hok;done)|(simp at hok;obtain⟨rfl,_⟩:=hok;exact⟨_,rfl⟩)|(simp at hok;subst hok;exact⟨_,rfl⟩)
theorem Jk {H:Type} {enc:TypeId × Value->H} {a:Assume} {C:Checked} {os:Os} {f:FuncId} {fn:Func} {s:ChangeSpec} {conds:List PathCond} {apart fresh handsOn again:Bool} {X:World->Array Value->Prop}
  (hX:∀(w w':World) (args:Array Value),w.heap=w'.heap->X w args->X w' args)
  (own:ownKnob C.prog.godebug=none) (started:os.Started) (noInit:C.prog.inits.idxOf? f=none) (hfn:C.prog.funcs[f]?=some fn)
  (witness:∃(w:World) (tape:Tape) (i:Input),w.os=os/\(w.forCall tape i).Shaped C.prog/\i.vars=[]/\Input.okWide C.prog (w.forCall tape i) .any w.heap.size f i/\
    ((s.pre enc C.prog fn conds apart (w.forCall tape i).memory i.args/\X (w.forCall tape i).memory i.args)/\sizedMet enc C.prog fn (OpenSpec.ofChange s) apart (w.forCall tape i).memory i.args)/\a.holds C.prog (lone (Frame.enter C.prog f i.args .normal) [] (w.forCall tape i)))
  (contract:∀(W:World) (base:Nat) (args:Array Value) (ds gs:List (DataW H)) (before:List MemPlace),
    (∀(j:Nat) t v,fn.params[j]?=some t->args[j]?=some v->Value.okWide C.prog W .any base t v)->
    DataW.Whole enc C.prog fn.params.toList s.vars apart W args.toList ds gs before->
    X W args->W.ShapedOpen C.prog->
    Calls C.prog f args W fun e W'=>∃v,e=.returned v/\s.post enc C.prog fn apart fresh handsOn again W args v W'):
  ReturnsInHanded a C os f .any (fun w args=>(s.pre enc C.prog fn conds apart w args/\X w args)/\sizedMet enc C.prog fn (OpenSpec.ofChange s) apart w args) (s.post enc C.prog fn apart fresh handsOn again):=by
 refine returnsInHanded_of_calls own started noInit witness ?_;intro w tape i _ hsh _ hok hpre hholds;obtain⟨_,_,_,fn',hfn',_,_,_,_,hval⟩:=hok;have e:fn'=fn:=Option.some.inj (hfn'.symm.trans hfn);subst e;obtain⟨⟨⟨ds,gs,before,hw,hc⟩,hx⟩,hz⟩:=hpre;have hw':=DataW.Whole.of_heap (w':=w.forCall tape i) (by rfl) hw;refine (contract (w.forCall tape i) w.heap.size i.args ds gs before hval hw' (hX _ _ _ (by rfl) hx) hsh).mono fun e W' ⟨v,he,hp⟩=>?_
 subst he;exact ChangeSpec.post_blind hp
end
section
variable {H:Type} {enc:TypeId × Value->H} {P:Program}
theorem Ak (hl:laidOutB P=true) {W W':World} (hb:Below W.heap.size W W') (sp:Nat->Bool):∀{ts:List TypeId} {vs:List Value} {ds:List (DataW H)} {ps:List MemPlace},(∀t∈ts,P.readableRec t=true/\t<P.types.size)->
  DataW.TrodAll enc P W 0 (fun _=>true) true ts vs ds ps->(∀x∈ps,x.block<W.heap.size)->(∀x∈ps,sp x.block=true)->DataW.TrodAll enc P W' 0 sp true ts vs ds ps
 |[],_,_,_,_,h,_,_=>by
  obtain⟨rfl,rfl,rfl⟩:=trodAll_nil h;exact rfl
 |t::ts,_,_,_,ht,h,h1,h2=>by
  obtain⟨v,vs1,d,ds1,a,b,rfl,rfl,rfl,g1,g2⟩:=trodAll_cons h;have r:=ht t (mem_cons_self ..);have k1:=WideElems.Trod_stays hl r.1 r.2 g1 (fun x hx=>hb.same (h1 x (mem_append_left _ hx))) (fun x hx=>h2 x (mem_append_left _ hx));have k2:=Ak hl hb sp (fun u hu=>ht u (mem_cons_of_mem _ hu)) g2 (fun x hx=>h1 x (mem_append_right _ hx)) (fun x hx=>h2 x (mem_append_right _ hx));exact⟨a,b,k1,k2,rfl⟩
theorem ZR {f:Func} {s:ChangeSpec} {apart fresh handsOn:Bool} {tb:TypeId} {W W':World} {args:Array Value} {ds:List (DataW H)} {before:List MemPlace} (hl:laidOutB P=true)
  (hv:s.vars=[]) (hfn:s.fn H ds={results:=[.lit (.bool true)],args:=ds}) (hrt:f.resultTypes=#[tb]) (hbt:P.underlying tb=some .bool)
  (hts:∀t∈f.params.toList,P.readableRec t=true/\t<P.types.size)
  (hW:DataW.Whole enc P f.params.toList s.vars apart W args.toList ds [] before) (hb:Below W.heap.size W W'):s.post enc P f apart fresh handsOn false W args (.bool true) W':=by
 have hlt:∀x∈before,x.block<W.heap.size:=fun x hx=>hW.lt x hx
 have hW0:=hW;obtain⟨p,q,hA,hV,hpq,hz,hn⟩:=hW;rw[hv] at hV;obtain⟨_,rfl⟩:=trodVars_none hV;obtain rfl:before=p:=by simpa using hpq
 have hargs:∀sp:Nat->Bool,(∀x∈before,sp x.block=true)->DataW.TrodAll enc P W' 0 sp true f.params.toList args.toList ds before:=fun sp hsp=>Ak hl hb sp hts hA hlt hsp
 have hres:∀(b:Nat) (sp:Nat->Bool) (hd:Bool),DataW.TrodAll enc P W' b sp hd f.resultTypes.toList ((Value.bool true).resultList f.resultTypes.size) [.lit (.bool true)] []:=by
  intro b sp hd;rw[hrt];exact trodAll_mk1 (shut_bool hbt _)
 have hvars:∀sp:Nat->Bool,DataW.TrodVars enc P W' sp s.vars [] []:=by
  intro sp;rw[hv];exact rfl
 have hfn2:s.fn H (ds++[])={results:=[.lit (.bool true)],args:=ds}:=by rw[append_nil];exact hfn
 have hold:∀x∈before,(fun b=>decide (b<W.heap.size)) x.block=true:=fun x hx=>by simpa using hlt x hx
 refine⟨ds,[],before,[],before,[],hW0,by rw[hfn2];exact hres _ _ _,by rw[hfn2];exact hargs _ hold,by rw[hfn2];exact hvars _,keptBut_mono (fun x hx=>⟨hx,Or.inr (Or.inl hx)⟩) (hb.frame _),fun h=>by cases h⟩
end
theorem ahZ {v:ByteArray} {l:List UInt8} (h:v.data.toList=l):v=⟨l.toArray⟩:=by subst h;obtain⟨⟨x⟩⟩:=v;rfl
theorem CS {l:List Value} {a j:Nat} {v:Value} (hj:j<5) (h:(((l.drop a).take 5).drop j).take 1=[v]):l[a+j]?=some v:=by
 have:=congrArg (·[0]?) h;simp only[getElem?_take,getElem?_drop,getElem?_cons_zero] at this;simpa [show j+0<5 from by omega,hj] using this
def Ty.data (t:Ty):DataW Unit:=.agg [.lit (.bool t.truth),.agg [.lit (.int .i64 t.aA),.lit (.int .i64 t.days)]]
theorem yO {W:World} {name:String} {G:Nat} {t:Ty} {rest:List (String × DataW Unit)} (h:laidMet prog ((name,t.data)::rest) W) (hG:prog.globalNamed name=some G) (hT:(prog.globals[G]?).map (·.type)=some 51):
  ∀i v,t.cells[i]?=some v->W.cell? ⟨G,i,none⟩=some v:=by
 obtain⟨ps,⟨g,ty,cs,fuel,p,q,hg,hty,hvar,hd,_,_⟩,_⟩:=h;obtain rfl:=Option.some.inj (hG.symm.trans hg);obtain rfl:=Option.some.inj (hT.symm.trans hty);intro i v hv;obtain⟨ys,n',_,ey,hyc,hyl,hf⟩:=DataW.trod_struct underlying51 hd;have e5:ys.map (·.1)=[.lit (.bool t.truth),.agg [.lit (.int .i64 t.aA),.lit (.int .i64 t.days)]]:=(DataW.agg.inj (Prod.mk.inj ey).1).symm
 obtain⟨y0,y1,rfl⟩:∃y0 y1,ys=[y0,y1]:=by
  match ys,hyl with
  |[y0,y1],_=>exact⟨_,_,rfl⟩
 simp only[map_cons,map_nil,List.cons.injEq,and_true] at e5;obtain⟨q0,q1⟩:=e5;rw[World.var?_cell hg hvar,<-Array.getElem?_toList];have f0:=hf 0 _ rfl;have f1:=hf 1 _ rfl;have k0:prog.cellsOf 4=1:=by kernel_rfl
 have k1:prog.cellsOf 49=2:=by kernel_rfl
 have k2:prog.cellsOf 3=1:=by kernel_rfl
 simp only[getElem_toArray,getElem_cons_zero,getElem_cons_succ] at f0 f1;rw[k0] at f0;rw[k1] at f1
 try simp only[getElem?_cons_zero,getElem?_cons_succ] at f0 f1
 have k3:prog.cellsOf 51=3:=by kernel_rfl
 rw[k3] at hyc;generalize cs.toList=L at*
 obtain⟨a0,a1,a2,rfl⟩:∃a0 a1 a2,L=[a0,a1,a2]:=by
  match L,hyc with
  |[a0,a1,a2],_=>exact⟨_,_,_,rfl⟩
 simp only[drop_zero,drop_succ_cons,take_succ_cons,take_zero] at f0 f1;obtain⟨b0,c0,d0⟩:=DataW.trod_bool underlying4 f0;obtain⟨zs,n2,_,ez,hzc,hzl,hz⟩:=DataW.trod_struct underlying49 f1;rw[ez] at q1;have e6:zs.map (·.1)=[.lit (.int .i64 t.aA),.lit (.int .i64 t.days)]:=DataW.agg.inj q1
 obtain⟨z0,z1,rfl⟩:∃z0 z1,zs=[z0,z1]:=by
  match zs,hzl with
  |[z0,z1],_=>exact⟨_,_,rfl⟩
 simp only[map_cons,map_nil,List.cons.injEq,and_true] at e6;obtain⟨r0,r1⟩:=e6;have g0:=hz 0 _ rfl;have g1:=hz 1 _ rfl;simp only[getElem_toArray,getElem_cons_zero,getElem_cons_succ] at g0 g1;rw[k2] at g0 g1
 try simp only[getElem?_cons_zero,getElem?_cons_succ,drop_zero,drop_succ_cons,take_succ_cons,take_zero] at g0 g1
 obtain⟨m1,c1,d1,_⟩:=DataW.trod_int underlying3 g0;obtain⟨m2,c2,d2,_⟩:=DataW.trod_int underlying3 g1;rw[d0] at q0;rw[d1] at r0;rw[d2] at r1;simp only[DataW.lit.injEq,Lit.int.injEq,Lit.bool.injEq,true_and] at q0 r0 r1;subst q0 r0 r1;injection c0 with c0 _;injection c1 with c1 _;injection c2 with c2 _;subst c0 c1 c2;exact hv
theorem acd {W:World} (h0:laidMetH prog Qe W) (hs:W.ShapedOpen prog):bT W:=by
 rw[MakeChecks.laidMetH_plain _ _ _ (by kernel_rfl)] at h0;have h:laidMet prog [("math/bits.deBruijn32tab",Rows.laid_math_bits_deBruijn32tab),("math/bits.deBruijn64tab",Rows.laid_math_bits_deBruijn64tab),("internal/strconv.uint64pow10",Rows.laid_internal_strconv_uint64pow10),("unicode/utf8.acceptRanges",Rows.laid_unicode_utf8_acceptRanges),("strconv.ErrRange",Rows.laid_strconv_ErrRange),("strconv.ErrSyntax",Rows.laid_strconv_ErrSyntax),("tithing/expr.table",Rows.laid_tithing_expr_table),("tithing/check.truth",Rows.laid_tithing_check_truth),("tithing/check.cash",Rows.laid_tithing_check_cash),("tithing/check.days",Rows.laid_tithing_check_days),("tithing/check.plain",Rows.laid_tithing_check_plain),("tithing/statute.cash",Rows.laid_tithing_statute_cash),("unicode/utf8.first",Rows.laid_unicode_utf8_first)] W:=h0;clear h0;have hp:=h.tail.tail;have ht:=h.tail.tail.tail.tail.tail.tail;have c1:=yO (t:=aB) (G:=6) h.tail.tail.tail.tail.tail.tail.tail (by kernel_rfl) (by kernel_rfl);have c2:=yO (t:=aV) (G:=3) h.tail.tail.tail.tail.tail.tail.tail.tail (by kernel_rfl) (by kernel_rfl);have c3:=yO (t:=jy) (G:=4) h.tail.tail.tail.tail.tail.tail.tail.tail.tail (by kernel_rfl) (by kernel_rfl);have c4:=yO (t:=aJ) (G:=5) h.tail.tail.tail.tail.tail.tail.tail.tail.tail.tail (by kernel_rfl) (by kernel_rfl);have c5:=yO (t:=aV) (G:=0) h.tail.tail.tail.tail.tail.tail.tail.tail.tail.tail.tail (by kernel_rfl) (by kernel_rfl);clear h;rw[ab8] at hp;rw[ab9] at ht;obtain⟨m,hm⟩:=Qg (g:=2) (t:=3) (k:=.i64) (zero:=#[.int .i64 0]) hs (of_decide_eq_true (by kernel_rfl)) (by kernel_rfl) rfl (by kernel_rfl) (by kernel_rfl) underlying3;have hcut:2<W.heap.size:=cell_lt hm;obtain⟨ps,⟨g,t,cs,fuel,p,q,hg,hty,hvar,hd,_,_⟩,_⟩:=ht;obtain rfl:=Option.some.inj ((show prog.globalNamed "tithing/expr.table" =some 1 by kernel_rfl).symm.trans hg);obtain rfl:=Option.some.inj ((show (prog.globals[1]?).map (·.type)=some 177 by kernel_rfl).symm.trans hty);obtain⟨xs,m',_,ex,hcl,hxl,hel⟩:=DataW.trod_array underlying177 hd;have w5:prog.cellsOf 176=5:=by kernel_rfl
 have ex1:xs.map (·.1)=iV.map Sh.data:=(DataW.agg.inj (Prod.mk.inj ex).1).symm
 have htab:∀i v,EF[i]?=some v->W.cell? ⟨1,i,none⟩=some v:=by
  intro i v hv;obtain⟨r,j,hj,rfl⟩:∃r j,j<5/\i=r*5+j:=⟨i / 5,i % 5,Nat.mod_lt _ (by omega),by omega⟩
  unfold EF at hv;rw[sS Sh.cells 5 (fun _=>rfl) _ _ _ hj] at hv;cases hr:iV[r]? with
  |none=>rw[hr] at hv;simp at hv
  |some s=>
   rw[hr] at hv;have hv:s.cells[j]?=some v:=hv;have hrl:r<25:=by have:=(List.getElem?_eq_some_iff.1 hr).1;simpa [iV] using this
   have hE:=hel r hrl;rw[w5] at hE;have e4:(xs.map (·.1))[r]?=(iV.map Sh.data)[r]?:=by rw[ex1]
   rw[getElem?_map,getElem?_map,hr,getElem?_eq_getElem (by omega:r<xs.length)] at e4;simp only[Option.map_some,Option.some.injEq] at e4;rw[getElem?_eq_getElem (by omega:r<xs.length)] at hE;generalize xs[r]=x at hE e4;obtain⟨ys,n',_,ey,hyc,hyl,hf⟩:=DataW.trod_struct underlying176 hE;rw[ey] at e4;have e5:ys.map (·.1)=[.lit (.string s.word),.lit (.int .i64 (s.ops:Int)),.lit (.bool s.lit),.lit (.bool s.eH),.lit (.bool s.fQ)]:=DataW.agg.inj e4
   obtain⟨y0,y1,y2,y3,y4,rfl⟩:∃y0 y1 y2 y3 y4,ys=[y0,y1,y2,y3,y4]:=by
    match ys,hyl with
    |[y0,y1,y2,y3,y4],_=>exact⟨_,_,_,_,_,rfl⟩
   simp only[map_cons,map_nil,List.cons.injEq,and_true] at e5;obtain⟨q0,q1,q2,q3,q4⟩:=e5;rw[World.var?_cell hg hvar,<-Array.getElem?_toList];have f0:=hf 0 _ rfl;have f1:=hf 1 _ rfl;have f2:=hf 2 _ rfl;have f3:=hf 3 _ rfl;have f4:=hf 4 _ rfl;have k0:prog.cellsOf 9=1:=by kernel_rfl
   have k1:prog.cellsOf 3=1:=by kernel_rfl
   have k2:prog.cellsOf 4=1:=by kernel_rfl
   simp only[getElem_toArray,getElem_cons_zero,getElem_cons_succ] at f0 f1 f2 f3 f4;rw[k0] at f0;rw[k1] at f1;rw[k2] at f2 f3 f4
   try simp only[getElem?_cons_zero,getElem?_cons_succ] at f0 f1 f2 f3 f4
   obtain⟨s0,a0,b0,_⟩:=DataW.trod_string underlying9 f0;obtain⟨n1,a1,b1,_⟩:=DataW.trod_int underlying3 f1;obtain⟨t2,a2,b2⟩:=DataW.trod_bool underlying4 f2;obtain⟨t3,a3,b3⟩:=DataW.trod_bool underlying4 f3;obtain⟨t4,a4,b4⟩:=DataW.trod_bool underlying4 f4;rw[b0] at q0;rw[b1] at q1;rw[b2] at q2;rw[b3] at q3;rw[b4] at q4;simp only[DataW.lit.injEq,Lit.string.injEq,Lit.int.injEq,Lit.bool.injEq,true_and] at q0 q1 q2 q3 q4;subst q1 q2 q3 q4;obtain rfl:=ahZ q0;unfold Sh.cells at hv;obtain rfl|rfl|rfl|rfl|rfl:j=0∨j=1∨j=2∨j=3∨j=4:=by omega
   ·rw[CS hj a0];exact hv
   ·rw[CS hj a1];exact hv
   ·rw[CS hj a2];exact hv
   ·rw[CS hj a3];exact hv
   ·rw[CS hj a4];exact hv
 refine⟨⟨⟨?_,hcut,m,hm⟩,cell_lt (htab 0 _ rfl),htab⟩,⟨cell_lt (c5 0 _ rfl),cell_lt (c2 0 _ rfl),cell_lt (c3 0 _ rfl),cell_lt (c4 0 _ rfl),cell_lt (c1 0 _ rfl)⟩,c5,c2,c3,c4,c1⟩;exact Lib.tabIs_of_head (g:=9) (by kernel_rfl) rfl underlying334 underlying291 (by kernel_rfl) (by kernel_rfl) hp
theorem ZT (os:Os) (args:Array Value):laidMetH prog Qe ((World.laidAll prog os Qe).forCall (fun _ _=>0) ⟨#[],args,[]⟩).memory:=by
 rw[MakeChecks.laidMetH_plain _ _ _ (by kernel_rfl)];exact laidMet_laidAll _ (by kernel_rfl) (by kernel_rfl)
theorem Tryz.laidOut:laidOutB prog=true:=by kernel_rfl
theorem Tryz.own:ownKnob prog.godebug=none:=by kernel_rfl
end Go.Proofs.YtjpbmbgincdjaaaGreatDoor
