/- A part of the proof: K3 K4 K5 K6 K8 K9 Y1 Y2 Y5. -/
import Derived.Deep.AppendLies
import Derived.Test.YtimokmplkpbmdaaGreatDoorB16
import Derived.Test.YtimokmplkpbmdaaGreatDoorB21
set_option linter.all false
set_option maxRecDepth 100000
set_option maxHeartbeats 0
namespace Go.Proofs.YtimokmplkpbmdaaGreatDoor
open Go.RowKit
def tys (l:List Ty):List Value:=l.flatMap Ty.cells
def sigB (k:Int):Bool:=decide (5<=k/\k<=8)||decide (k=24)
def tA (l:List Ty):Ty:=l.getD 0 tPlain
def tB (l:List Ty):Ty:=l.getD 1 tPlain
def tC (l:List Ty):Ty:=l.getD 2 tPlain
def ruleT (k:Int) (own:Ty) (l:List Ty):Ty × Bool:=
 if k=1 then (tCash,true) else if k=2 then (tDays,true) else if k=3 then (tPlain,true) else if k=4 then (tTruth,true)
 else if k<=8 then (own,true)
 else if k=11 then (⟨false,(tA l).money+(tB l).money,(tA l).days+(tB l).days⟩, !(tA l).truth&&(!(tB l).truth&&unitB ((tA l).money+(tB l).money) ((tA l).days+(tB l).days)))
 else if k=12 then (⟨false,(tA l).money-(tB l).money,(tA l).days-(tB l).days⟩, !(tA l).truth&&(!(tB l).truth&&unitB ((tA l).money-(tB l).money) ((tA l).days-(tB l).days)))
 else if k<=14 then (tA l,decide (tA l=tB l)&& !(tA l).truth)
 else if k=15 then (tB l,decide (tA l=tTruth)&&decide (tB l=tC l))
 else if k=16 then (tTruth,decide (tA l=tB l)&& !(tA l).truth)
 else if k=17 then (tTruth,decide (tA l=tB l))
 else if k<=20 then (tTruth,l.all fun t=>decide (t=tTruth))
 else if k<=23 then (tA l, !(tA l).truth)
 else (own,decide (tA l=own))
theorem rightB_rng {t:Ty} (h:rightB t=true):-3<=t.money/\t.money<=3/\-3<=t.days/\t.days<=3:=by
 unfold rightB at h;split at h
 ·have:=of_decide_eq_true h;rw[this];unfold tTruth;exact⟨by decide,by decide,by decide,by decide⟩
 ·unfold unitB at h;rw[Bool.and_eq_true,decide_eq_true_eq,decide_eq_true_eq] at h;omega
theorem Rd.ty {w:World} {A:Option Addr} {l:List Ty} (h:Rd w A (tys l)) {j:Nat} (hj:j<l.length):
  ∃b off,A=some ⟨b,off,none⟩/\b<w.heap.size/\w.cell? ⟨b,off+j*3,none⟩=some (.bool l[j].truth)/\w.cell? ⟨b,off+j*3+1,none⟩=some (.int .i64 l[j].money)/\w.cell? ⟨b,off+j*3+2,none⟩=some (.int .i64 l[j].days):=by
 obtain⟨b,off,hA,hb,hc⟩:=Rd.row Ty.cells 3 (fun _=>rfl) (by omega) h hj;exact⟨b,off,hA,hb,hc 0 _ rfl,hc 1 _ rfl,hc 2 _ rfl⟩
theorem mkf_run (fn:Fn) (a c:Array Value) (w:World):(Instr.makeFunc fn a c).run Tryz.prog w=.ok (.func fn a c) w:=rfl
theorem st_func (p:Addr) (fn:Fn) (a c:Array Value) (m:Mode) (w:World):(store p (.func fn a c) m).run Tryz.prog w=stored Tryz.prog w p (.func fn a c) m:=run_store _ w p _ m rfl
theorem kItself_any (t:Ty) (w:World):Calls Tryz.prog 192 #[t.v] w fun e w'=>e=.returned t.v/\Below w.heap.size w w':=by
 obtain⟨tr,m,d⟩:=t;unfold Ty.v;simp only
 have HB:=zH (((Below.refl w.heap.size w).alloc (Nat.le_refl _) (.cells #[.bool tr,.int .i64 m,.int .i64 d] 34)).alloc (by rw[World.size_alloc];omega) (.cells #[.bool tr,.int .i64 m,.int .i64 d] 34));go_enter Tryz.func192,Tryz.ntmps192;go_wp2;refine bodyPost_ret (v:=.agg #[.bool tr,.int .i64 m,.int .i64 d]) (by simp[results,Tryz.results192,go_sem]) rfl ?_;exact⟨rfl,HB.out⟩
theorem kDecision_any (t:Ty) (w:World) (hL:LaidK w):Calls Tryz.prog 195 #[t.v] w fun e w'=>e=.returned tTruth.v/\Below w.heap.size w w':=by
 obtain⟨tr,m,d⟩:=t;have hl:=(hL.alloc (.cells #[.bool tr,.int .i64 m,.int .i64 d] 34)).alloc (.cells #[.bool false,.int .i64 0,.int .i64 0] 34);have g0:=hl.truth 0 _ rfl;have g1:=hl.truth 1 _ rfl;have g2:=hl.truth 2 _ rfl;unfold tTruth at g0 g1 g2⊢;unfold Ty.v;simp only at g0 g1 g2⊢;clear hl hL;have HB:=zH (((Below.refl w.heap.size w).alloc (Nat.le_refl _) (.cells #[.bool tr,.int .i64 m,.int .i64 d] 34)).alloc (by rw[World.size_alloc];omega) (.cells #[.bool true,.int .i64 0,.int .i64 0] 34));go_enter Tryz.func195,Tryz.ntmps195;go_wp2;refine bodyPost_ret (v:=.agg #[.bool true,.int .i64 0,.int .i64 0]) (by simp[results,Tryz.results195,go_sem]) rfl ?_;exact⟨rfl,HB.out⟩
theorem kAlways_any (t:Ty) (w:World):Calls Tryz.prog 189 #[t.v] w fun e w'=>∃b,e=.returned (.agg #[.bool false,.func (.func 241) #[] #[.pointer (some ⟨b,0,none⟩)]])/\Blk w' b 34 t.cells/\w.heap.size<=b/\Below w.heap.size w w':=by
 obtain⟨tr,m,d⟩:=t;unfold Ty.v Ty.cells;simp only
 have HB:=fun v=>zH (((Below.refl w.heap.size w).alloc (Nat.le_refl _) (.cells #[.bool tr,.int .i64 m,.int .i64 d] 34)).alloc (by rw[World.size_alloc];omega) (.cells #[.bool false,v] 224))
 have HK:=fun o=>zH ((Blk.new w 34 #[.bool tr,.int .i64 m,.int .i64 d]).alloc o)
 have hmf:=mkf_run;have hsf:=st_func;go_enter Tryz.func189,Tryz.ntmps189;go_wp2;refine bodyPost_ret (v:=.agg #[.bool false,.func (.func 241) #[] #[.pointer (some ⟨w.heap.size,0,none⟩)]]) (by simp[results,Tryz.results189,go_sem]) rfl ?_;exact⟨_,rfl,(HK _).out,Nat.le_refl _,(HB _).out⟩
theorem kAlways1_any (t own:Ty) (x:Value) (b:Nat) (w:World) (h:Blk w b 34 t.cells):Calls Tryz.prog 241 #[own.v,x,.pointer (some ⟨b,0,none⟩)] w fun e w'=>e=.returned (.tuple #[t.v,.bool true])/\Below w.heap.size w w':=by
 obtain⟨tr,m,d⟩:=t;obtain⟨tr',m',d'⟩:=own;unfold Ty.v;unfold Ty.cells at h;simp only at h⊢;have hc:=((h.alloc (.cells #[.bool tr',.int .i64 m',.int .i64 d'] 34)).alloc (.cells #[.bool false,.int .i64 0,.int .i64 0] 34)).cells;have HB:=zH (((Below.refl w.heap.size w).alloc (Nat.le_refl _) (.cells #[.bool tr',.int .i64 m',.int .i64 d'] 34)).alloc (by rw[World.size_alloc];omega) (.cells #[.bool tr,.int .i64 m,.int .i64 d] 34));clear h;go_enter Tryz.func241,Tryz.ntmps241;go_wp2;refine bodyPost_ret (v:=.tuple #[.agg #[.bool tr,.int .i64 m,.int .i64 d],.bool true]) (by simp[results,Tryz.results241,go_sem]) rfl ?_;exact⟨rfl,HB.out⟩
theorem kNamed_any (w:World):Calls Tryz.prog 190 #[] w fun e w'=>e=.returned (.agg #[.bool true,.func (.func 242) #[] #[]])/\Below w.heap.size w w':=by
 have HB:=fun v=>zH ((Below.refl w.heap.size w).alloc (Nat.le_refl _) (.cells #[.bool true,v] 224))
 have hmf:=mkf_run;have hsf:=st_func;go_enter Tryz.func190,Tryz.ntmps190;go_wp2;refine bodyPost_ret (v:=.agg #[.bool true,.func (.func 242) #[] #[]]) (by simp[results,Tryz.results190,go_sem]) rfl ?_;exact⟨rfl,(HB _).out⟩
theorem kNamed1_any (own:Ty) (x:Value) (w:World):Calls Tryz.prog 242 #[own.v,x] w fun e w'=>e=.returned (.tuple #[own.v,.bool true])/\Below w.heap.size w w':=by
 obtain⟨tr,m,d⟩:=own;unfold Ty.v;simp only
 have HB:=zH (((Below.refl w.heap.size w).alloc (Nat.le_refl _) (.cells #[.bool tr,.int .i64 m,.int .i64 d] 34)).alloc (by rw[World.size_alloc];omega) (.cells #[.bool tr,.int .i64 m,.int .i64 d] 34));go_enter Tryz.func242,Tryz.ntmps242;go_wp2;refine bodyPost_ret (v:=.tuple #[.agg #[.bool tr,.int .i64 m,.int .i64 d],.bool true]) (by simp[results,Tryz.results242,go_sem]) rfl ?_;exact⟨rfl,HB.out⟩
theorem kAlike_any (f:Nat) (w:World):Calls Tryz.prog 191 #[.func (.func f) #[] #[]] w fun e w'=>∃b,e=.returned (.agg #[.bool false,.func (.func 243) #[] #[.pointer (some ⟨b,0,none⟩)]])/\Blk w' b 255 [.func (.func f) #[] #[]]/\w.heap.size<=b/\Below w.heap.size w w':=by
 have HB:=fun v=>zH (((Below.refl w.heap.size w).alloc (Nat.le_refl _) (.cells #[.func (.func f) #[] #[]] 255)).alloc (by rw[World.size_alloc];omega) (.cells #[.bool false,v] 224))
 have HK:=fun o=>zH ((Blk.new w 255 #[.func (.func f) #[] #[]]).alloc o)
 have hmf:=mkf_run;have hsf:=st_func;go_enter Tryz.func191,Tryz.ntmps191;go_wp2;refine bodyPost_ret (v:=.agg #[.bool false,.func (.func 243) #[] #[.pointer (some ⟨w.heap.size,0,none⟩)]]) (by simp[results,Tryz.results191,go_sem]) rfl ?_;exact⟨_,rfl,(HK _).out,Nat.le_refl _,(HB _).out⟩
theorem kProduct_any (s:Int) (w:World):Calls Tryz.prog 193 #[.int .i64 s] w fun e w'=>∃b,e=.returned (.agg #[.bool false,.func (.func 244) #[] #[.pointer (some ⟨b,0,none⟩)]])/\Blk w' b 3 [.int .i64 s]/\w.heap.size<=b/\Below w.heap.size w w':=by
 have HB:=fun v=>zH (((Below.refl w.heap.size w).alloc (Nat.le_refl _) (.cells #[.int .i64 s] 3)).alloc (by rw[World.size_alloc];omega) (.cells #[.bool false,v] 224))
 have HK:=fun o=>zH ((Blk.new w 3 #[.int .i64 s]).alloc o)
 have hmf:=mkf_run;have hsf:=st_func;go_enter Tryz.func193,Tryz.ntmps193;go_wp2;refine bodyPost_ret (v:=.agg #[.bool false,.func (.func 244) #[] #[.pointer (some ⟨w.heap.size,0,none⟩)]]) (by simp[results,Tryz.results193,go_sem]) rfl ?_;exact⟨_,rfl,(HK _).out,Nat.le_refl _,(HB _).out⟩
theorem kTruths_any (w:World):Calls Tryz.prog 197 #[] w fun e w'=>e=.returned (.agg #[.bool false,.func (.func 245) #[] #[]])/\Below w.heap.size w w':=by
 have HB:=fun v=>zH ((Below.refl w.heap.size w).alloc (Nat.le_refl _) (.cells #[.bool false,v] 224))
 have hmf:=mkf_run;have hsf:=st_func;go_enter Tryz.func197,Tryz.ntmps197;go_wp2;refine bodyPost_ret (v:=.agg #[.bool false,.func (.func 245) #[] #[]]) (by simp[results,Tryz.results197,go_sem]) rfl ?_;exact⟨rfl,(HB _).out⟩
theorem kRounded_any (w:World):Calls Tryz.prog 198 #[] w fun e w'=>e=.returned (.agg #[.bool false,.func (.func 246) #[] #[]])/\Below w.heap.size w w':=by
 have HB:=fun v=>zH ((Below.refl w.heap.size w).alloc (Nat.le_refl _) (.cells #[.bool false,v] 224))
 have hmf:=mkf_run;have hsf:=st_func;go_enter Tryz.func198,Tryz.ntmps198;go_wp2;refine bodyPost_ret (v:=.agg #[.bool false,.func (.func 246) #[] #[]]) (by simp[results,Tryz.results198,go_sem]) rfl ?_;exact⟨rfl,(HB _).out⟩
structure TyAt (w:World) (b off:Nat) (t:Ty):Prop where
 lt:b<w.heap.size
 c0:w.cell? ⟨b,off,none⟩=some (.bool t.truth)
 c1:w.cell? ⟨b,off+1,none⟩=some (.int .i64 t.money)
 c2:w.cell? ⟨b,off+2,none⟩=some (.int .i64 t.days)
theorem TyAt.below {w w':World} {b off:Nat} {t:Ty} (h:TyAt w b off t) (hb:Below w.heap.size w w'):TyAt w' b off t:=
 ⟨Nat.lt_of_lt_of_le h.lt hb.size,(hb.cell h.lt).trans h.c0,(hb.cell h.lt).trans h.c1,(hb.cell h.lt).trans h.c2⟩
theorem Rd.tyAt {w:World} {A:Option Addr} {l:List Ty} (h:Rd w A (tys l)) (hl:0<l.length):∃b off,A=some ⟨b,off,none⟩/\∀j (hj:j<l.length),TyAt w b (off+j*3) l[j]:=by
 obtain⟨b,off,hA,hb,_⟩:=h.ty hl;refine⟨b,off,hA,fun j hj=>?_⟩;obtain⟨b',off',hA',hb',h0,h1,h2⟩:=h.ty hj;rw[hA] at hA';injection hA' with hA';injection hA' with h3 h4;subst h3 h4;exact⟨hb',h0,h1,h2⟩
theorem below_st3 {w W:World} {B:Nat} (h:Below w.heap.size w W) (hB:w.heap.size<=B) (v0 v1 v2:Value):Below w.heap.size w (((W.setCell ⟨B,0,none⟩ v0).setCell ⟨B,1,none⟩ v1).setCell ⟨B,2,none⟩ v2):=
 ((h.setCell (p:=⟨B,0,none⟩) hB v0).setCell (p:=⟨B,1,none⟩) hB v1).setCell (p:=⟨B,2,none⟩) hB v2
theorem reB {P:Program} {ops:Array Oper} {Q:Exit->Act->World->Prop} {md:Region.Mode} {S:World->Prop} {x:Nat} {l:Array Bool} {i:Nat} {oi:Oper} {f:Nat} {a a':Act} {w:World} (h:wpAnyE P md ops Q S x f (l.setIfInBounds i true) a' w)
  (hn:ops.size-(f+1)=i:=by ((try simp only[List.size_toArray,List.length_cons,List.length_nil,Nat.reduceAdd,Nat.reduceSub]);rfl)) (hi:ops[i]?=some oi:=by rfl)
  (ha:a.put oi.dst undef=a':=by ((try simp only[Act.put,tk1,tk2,tk3,tk4,tk5,tk6]);rfl))
  (hs:Region.noSelect ops=true:=by kernel_rfl) (hf:Region.free md ops l i=true:=by kernel_rfl) (hr:(Region.ready md ops l).contains i=true:=by kernel_rfl)
  (hw:Region.wanted oi (yielded ops a.tmps)=false:=by kernel_rfl) (hS:S w:=by assumption) (hQ:∀c a w,Q (.panic c) (a.put oi.dst undef) w->Q (.panic c) a w:=by exact fun _ _ _ h=>h)
  (hx:(decide (ops.size<=x)||dep ops md l i ops.size x)=true:=by kernel_rfl):wpAnyE P md ops Q S x (f+1) l a w:=reN i h hi ha hs hf hr hw hS hQ hx
structure Fr2 (w:World) (own:Ty) (X:World):Prop where
 o:Blk X w.heap.size 34 [.bool own.truth,.int .i64 own.money,.int .i64 own.days]
 r:∃x y z,Blk X (w.heap.size+1) 34 [x,y,z]
 w:Below w.heap.size w X
section
variable {w W X:World} {own t:Ty} {b off:Nat}
theorem Fr2.new (h:(w.alloc (.cells #[.bool own.truth,.int .i64 own.money,.int .i64 own.days] 34)).alloc (.cells #[.bool false,.int .i64 0,.int .i64 0] 34)=W):Fr2 w own W:=by
 subst h;refine⟨(Blk.new w _ _).alloc _,?_,(zB w _).alloc (by rw[World.size_alloc];omega) _⟩;have h:=Blk.new (w.alloc (.cells #[.bool own.truth,.int .i64 own.money,.int .i64 own.days] 34)) 34 #[.bool false,.int .i64 0,.int .i64 0];rw[World.size_alloc] at h;exact⟨_,_,_,h⟩
theorem Fr2.below (h:Fr2 w own W) (hb:Below W.heap.size W X):Fr2 w own X:=by
 obtain⟨h1,⟨x,y,z,h2⟩,h3⟩:=h;exact⟨h1.below hb h1.lt,⟨x,y,z,h2.below hb h2.lt⟩,bstep h3 hb⟩
theorem Fr2.ty (h:Fr2 w own X) (q:TyAt w b off t):X.cell? ⟨b,off,none⟩=some (.bool t.truth)/\X.cell? ⟨b,off+1,none⟩=some (.int .i64 t.money)/\X.cell? ⟨b,off+2,none⟩=some (.int .i64 t.days):=
 have p:=q.below h.w;⟨p.c0,p.c1,p.c2⟩
theorem Fr2.put (h:Fr2 w own X) (v0 v1 v2:Value):Fr2 w own (((X.setCell ⟨w.heap.size+1,0,none⟩ v0).setCell ⟨w.heap.size+1,1,none⟩ v1).setCell ⟨w.heap.size+1,2,none⟩ v2):=by
 obtain⟨h1,⟨x,y,z,h2⟩,h3⟩:=h;have e:∀{Y:World} (i:Nat) (v:Value),Blk Y w.heap.size 34 [.bool own.truth,.int .i64 own.money,.int .i64 own.days]->Blk (Y.setCell ⟨w.heap.size+1,i,none⟩ v) w.heap.size 34 [.bool own.truth,.int .i64 own.money,.int .i64 own.days]:=fun i v hY=>((Onl.refl (w.heap.size+1) _).set _ _).blk hY (by omega)
 exact⟨e _ _ (e _ _ (e _ _ h1)),⟨v0,v1,v2,((h2.set 0 v0).set 1 v1).set 2 v2⟩,below_st3 h3 (by omega) _ _ _⟩
end
theorem kRounded1_any (own a:Ty) (A:Option Addr) (c:Nat) (w:World) (hr:Rd w A (tys [a])) (hc:1<=c):Calls Tryz.prog 246 #[own.v,.slice A 1 c] w fun e w'=>e=.returned (.tuple #[a.v,.bool (!a.truth)])/\Below w.heap.size w w':=by
 obtain⟨b,off,rfl,hat⟩:=hr.tyAt (by simp);have q0:=hat 0 (by simp);simp only[List.getElem_cons_zero,List.getElem_cons_succ,Nat.zero_mul,Nat.add_zero,Nat.one_mul] at q0;obtain⟨tr,m,d⟩:=own;obtain⟨at_,am,ad⟩:=a;have hc:=fun X (h:Fr2 w ⟨tr,m,d⟩ X)=>h.ty q0
 simp only[tTruth] at hc;unfold Ty.v;go_enter Tryz.func246,Tryz.ntmps246
 go_upto_region 1 with fail
 generalize hX:(w.alloc _).alloc _=W;have hfr:=Fr2.new (own:=⟨tr,m,d⟩) hX;clear hX;refine reS (Fr2 w ⟨tr,m,d⟩) 99 (hfr.below (drewN_below _ _ 1)) (fun X _ hS=>?_)
 iterate 8 refine reA ?_
 obtain⟨x0,x1,x2,hr⟩:=hS.r;have hcr:=hr.cells;have hfR:=hr.froz;refine reW 8 (fun _=>hS.put _ _ _) (fun h=>?_);have hS2:=h (by decide);refine reA ?_;refine reE ?_;go_wp2;refine bodyPost_ret (v:=.tuple #[.agg #[.bool at_,.int .i64 am,.int .i64 ad],.bool (!at_)]) (by simp[results,Tryz.results246,go_sem,hcr]) rfl ⟨rfl,?_⟩;exact below_st3 hS.w (by omega) _ _ _
theorem kRate1_any (own a:Ty) (A:Option Addr) (c:Nat) (w:World) (hr:Rd w A (tys [a])) (hc:1<=c):Calls Tryz.prog 199 #[own.v,.slice A 1 c] w fun e w'=>e=.returned (.tuple #[own.v,.bool (decide (a=own))])/\Below w.heap.size w w':=by
 obtain⟨b,off,rfl,hat⟩:=hr.tyAt (by simp);have q0:=hat 0 (by simp);simp only[List.getElem_cons_zero,List.getElem_cons_succ,Nat.zero_mul,Nat.add_zero,Nat.one_mul] at q0;obtain⟨tr,m,d⟩:=own;obtain⟨at_,am,ad⟩:=a;have hc:=fun X (h:Fr2 w ⟨tr,m,d⟩ X)=>And.intro (h.ty q0) (And.intro ((h.o.cells 0)) (And.intro ((h.o.cells 1)) ((h.o.cells 2))))
 simp only[tTruth] at hc;obtain⟨dq0,hdq0⟩:=zF (decide ((⟨at_,am,ad⟩:Ty)=⟨tr,m,d⟩));have HE0:=fun W=>eql_ty ⟨at_,am,ad⟩ ⟨tr,m,d⟩ W
 simp only[hdq0,Ty.v] at HE0⊢;clear hdq0;go_enter Tryz.func199,Tryz.ntmps199
 go_upto_region 1 with fail
 generalize hX:(w.alloc _).alloc _=W;have hfr:=Fr2.new (own:=⟨tr,m,d⟩) hX;clear hX;refine reS (Fr2 w ⟨tr,m,d⟩) 99 (hfr.below (drewN_below _ _ 1)) (fun X _ hS=>?_)
 iterate 6 refine reA ?_
 obtain⟨x0,x1,x2,hr⟩:=hS.r;have hcr:=hr.cells;have hfR:=hr.froz;refine reW 6 (fun _=>hS.put _ _ _) (fun h=>?_);have hS2:=h (by decide);refine reA ?_;refine reE ?_;go_wp2;refine bodyPost_ret (v:=.tuple #[.agg #[.bool tr,.int .i64 m,.int .i64 d],.bool dq0]) (by simp[results,Tryz.results199,go_sem,hcr]) rfl ⟨rfl,?_⟩;exact below_st3 hS.w (by omega) _ _ _
theorem kEqual_any (own a b':Ty) (A:Option Addr) (c:Nat) (w:World) (hL:LaidK w) (hr:Rd w A (tys [a,b'])) (hc:2<=c):Calls Tryz.prog 196 #[own.v,.slice A 2 c] w fun e w'=>e=.returned (.tuple #[tTruth.v,.bool (decide (a=b'))])/\Below w.heap.size w w':=by
 obtain⟨b,off,rfl,hat⟩:=hr.tyAt (by simp);have q0:=hat 0 (by simp);have q1:=hat 1 (by simp);simp only[List.getElem_cons_zero,List.getElem_cons_succ,Nat.zero_mul,Nat.add_zero,Nat.one_mul] at q0 q1;obtain⟨tr,m,d⟩:=own;obtain⟨at_,am,ad⟩:=a;obtain⟨bt,bm,bd⟩:=b';have hc:=fun X (h:Fr2 w ⟨tr,m,d⟩ X)=>And.intro (h.ty q0) (And.intro (h.ty q1) (And.intro ((hL.below h.w).truth 0 _ rfl) (And.intro ((hL.below h.w).truth 1 _ rfl) ((hL.below h.w).truth 2 _ rfl))))
 simp only[tTruth] at hc;unfold tTruth;obtain⟨dq0,hdq0⟩:=zF (decide ((⟨at_,am,ad⟩:Ty)=⟨bt,bm,bd⟩));have HE0:=fun W=>eql_ty ⟨at_,am,ad⟩ ⟨bt,bm,bd⟩ W
 simp only[hdq0,Ty.v] at HE0⊢;clear hdq0;go_enter Tryz.func196,Tryz.ntmps196
 go_upto_region 1 with fail
 generalize hX:(w.alloc _).alloc _=W;have hfr:=Fr2.new (own:=⟨tr,m,d⟩) hX;clear hX;refine reS (Fr2 w ⟨tr,m,d⟩) 99 (hfr.below (drewN_below _ _ 1)) (fun X _ hS=>?_)
 iterate 8 refine reA ?_
 obtain⟨x0,x1,x2,hr⟩:=hS.r;have hcr:=hr.cells;have hfR:=hr.froz;refine reW 8 (fun _=>hS.put _ _ _) (fun h=>?_);have hS2:=h (by decide);refine reA ?_;refine reE ?_;go_wp2;refine bodyPost_ret (v:=.tuple #[.agg #[.bool true,.int .i64 0,.int .i64 0],.bool dq0]) (by simp[results,Tryz.results196,go_sem,hcr]) rfl ⟨rfl,?_⟩;exact below_st3 hS.w (by omega) _ _ _
theorem kIf_any (own a b' c':Ty) (A:Option Addr) (c:Nat) (w:World) (hL:LaidK w) (hr:Rd w A (tys [a,b',c'])) (hc:3<=c):Calls Tryz.prog 194 #[own.v,.slice A 3 c] w fun e w'=>e=.returned (.tuple #[b'.v,.bool (decide (a=tTruth)&&decide (b'=c'))])/\Below w.heap.size w w':=by
 obtain⟨b,off,rfl,hat⟩:=hr.tyAt (by simp);have q0:=hat 0 (by simp);have q1:=hat 1 (by simp);have q2:=hat 2 (by simp);simp only[List.getElem_cons_zero,List.getElem_cons_succ,Nat.zero_mul,Nat.add_zero,Nat.one_mul] at q0 q1 q2;obtain⟨tr,m,d⟩:=own;obtain⟨at_,am,ad⟩:=a;obtain⟨bt,bm,bd⟩:=b';obtain⟨ct,cm,cd⟩:=c';have hc:=fun X (h:Fr2 w ⟨tr,m,d⟩ X)=>And.intro (h.ty q0) (And.intro (h.ty q1) (And.intro (h.ty q2) (And.intro ((hL.below h.w).truth 0 _ rfl) (And.intro ((hL.below h.w).truth 1 _ rfl) ((hL.below h.w).truth 2 _ rfl)))))
 simp only[tTruth] at hc;unfold tTruth;obtain⟨dq0,hdq0⟩:=zF (decide ((⟨at_,am,ad⟩:Ty)=⟨true,0,0⟩));have HE0:=fun W=>eql_ty ⟨at_,am,ad⟩ ⟨true,0,0⟩ W
 simp only[hdq0,Ty.v] at HE0⊢;obtain⟨dq1,hdq1⟩:=zF (decide ((⟨bt,bm,bd⟩:Ty)=⟨ct,cm,cd⟩));have HE1:=fun W=>eql_ty ⟨bt,bm,bd⟩ ⟨ct,cm,cd⟩ W
 simp only[hdq1,Ty.v] at HE1⊢;clear hdq0 hdq1;go_enter Tryz.func194,Tryz.ntmps194
 go_upto_region 1 with fail
 generalize hX:(w.alloc _).alloc _=W;have hfr:=Fr2.new (own:=⟨tr,m,d⟩) hX;clear hX;refine reS (Fr2 w ⟨tr,m,d⟩) 99 (hfr.below (drewN_below _ _ 1)) (fun X _ hS=>?_)
 iterate 9 refine reA ?_
 cases dq0
 iterate 7 refine reB ?_
 rotate_left
 iterate 7 refine reA ?_
 all_goals
  refine reA ?_;obtain⟨x0,x1,x2,hr⟩:=hS.r;have hcr:=hr.cells;have hfR:=hr.froz;refine reW 17 (fun _=>hS.put _ _ _) (fun h=>?_);have hS2:=h (by decide);refine reA ?_;refine reE ?_;go_wp2;refine bodyPost_ret (v:=.tuple #[.agg #[.bool bt,.int .i64 bm,.int .i64 bd],.bool _]) (by simp[results,Tryz.results194,go_sem,hcr]) rfl ⟨rfl,?_⟩;exact below_st3 hS.w (by omega) _ _ _
theorem kAlike_at (g:FuncId) (own a b' T:Ty) (A:Option Addr) (c fb:Nat) (w:World) (heg:∀args w,(callFunc g args).run Tryz.prog w=.ok (.enter g args) w) (HG:∀W,Below w.heap.size w W->Calls Tryz.prog g #[a.v] W fun e w'=>e=.returned T.v/\Below W.heap.size W w') (hr:Rd w A (tys [a,b'])) (hc:2<=c) (hfb:Blk w fb 255 [.func (.func g) #[] #[]]):Calls Tryz.prog 243 #[own.v,.slice A 2 c,.pointer (some ⟨fb,0,none⟩)] w fun e w'=>e=.returned (.tuple #[T.v,.bool (decide (a=b')&& !a.truth)])/\Below w.heap.size w w':=by
 obtain⟨b,off,rfl,hat⟩:=hr.tyAt (by simp);have q0:=hat 0 (by simp);have q1:=hat 1 (by simp);simp only[List.getElem_cons_zero,List.getElem_cons_succ,Nat.zero_mul,Nat.add_zero,Nat.one_mul] at q0 q1;obtain⟨tr,m,d⟩:=own;obtain⟨at_,am,ad⟩:=a;obtain⟨bt,bm,bd⟩:=b';have hc:=fun X (h:Fr2 w ⟨tr,m,d⟩ X)=>And.intro (h.ty q0) (And.intro (h.ty q1) ((hfb.below h.w hfb.lt).cells 0))
 simp only[tTruth] at hc;obtain⟨Tt,Tm,Td⟩:=T;obtain⟨dq0,hdq0⟩:=zF (decide ((⟨at_,am,ad⟩:Ty)=⟨bt,bm,bd⟩));have HE0:=fun W=>eql_ty ⟨at_,am,ad⟩ ⟨bt,bm,bd⟩ W
 simp only[hdq0,Ty.v] at HE0⊢;clear hdq0;simp only[Ty.v] at HG;go_enter Tryz.func243,Tryz.ntmps243
 go_upto_region 1 with fail
 generalize hX:(w.alloc _).alloc _=W;have hfr:=Fr2.new (own:=⟨tr,m,d⟩) hX;clear hX;refine reS (Fr2 w ⟨tr,m,d⟩) 99 (hfr.below (drewN_below _ _ 1)) (fun X _ hS=>?_)
 iterate 4 refine reA ?_
 refine reZ 5 ?_;refine reZ 6 ?_;refine reZ 7 ?_;refine reZ 8 ?_;refine reZ 9 ?_;refine reZ 10 ?_;refine reZ 11 ?_;refine reC 4 (HG X hS.w) ?_;rintro e X ⟨rfl,hb⟩;refine⟨_,rfl,hS.below hb,fun hS=>?_⟩;refine reA ?_;cases dq0
 iterate 5 refine reB ?_
 rotate_left
 iterate 5 refine reA ?_
 all_goals
  refine reA ?_;obtain⟨x0,x1,x2,hr⟩:=hS.r;have hcr:=hr.cells;have hfR:=hr.froz;refine reW 19 (fun _=>hS.put _ _ _) (fun h=>?_);have hS2:=h (by decide);refine reA ?_;refine reE ?_;go_wp2;refine bodyPost_ret (v:=.tuple #[.agg #[.bool Tt,.int .i64 Tm,.int .i64 Td],.bool _]) (by simp[results,Tryz.results243,go_sem,hcr]) rfl ⟨rfl,?_⟩;exact below_st3 hS.w (by omega) _ _ _
theorem kAlikeI_any (own a b':Ty) (A:Option Addr) (c fb:Nat) (w:World) (hr:Rd w A (tys [a,b'])) (hc:2<=c) (hfb:Blk w fb 255 [.func (.func 192) #[] #[]]):Calls Tryz.prog 243 #[own.v,.slice A 2 c,.pointer (some ⟨fb,0,none⟩)] w fun e w'=>e=.returned (.tuple #[a.v,.bool (decide (a=b')&& !a.truth)])/\Below w.heap.size w w':=
 kAlike_at _ own a b' a A c fb w (enters_of Tryz.func192 (by kernel_rfl) rfl) (fun W _=>kItself_any a W) hr hc hfb
theorem kAlikeD_any (own a b':Ty) (A:Option Addr) (c fb:Nat) (w:World) (hL:LaidK w) (hr:Rd w A (tys [a,b'])) (hc:2<=c) (hfb:Blk w fb 255 [.func (.func 195) #[] #[]]):Calls Tryz.prog 243 #[own.v,.slice A 2 c,.pointer (some ⟨fb,0,none⟩)] w fun e w'=>e=.returned (.tuple #[tTruth.v,.bool (decide (a=b')&& !a.truth)])/\Below w.heap.size w w':=
 kAlike_at _ own a b' tTruth A c fb w (enters_of Tryz.func195 (by kernel_rfl) rfl) (fun W hb=>kDecision_any a W (hL.below hb)) hr hc hfb
def prodT (s:Int) (a b:Ty):Ty:=⟨false,a.money+s*b.money,a.days+s*b.days⟩
structure Fr3 (w:World) (own:Ty) (G:Nat) (cs:List Value) (X:World):Prop where
 f:Fr2 w own X
 p:Blk X G 34 cs
 g:w.heap.size+2<=G
section
variable {w X Y:World} {own:Ty} {G:Nat} {cs:List Value}
theorem Fr3.below (h:Fr3 w own G cs X) (hb:Below X.heap.size X Y):Fr3 w own G cs Y:=⟨h.f.below hb,h.p.below hb h.p.lt,h.g⟩
theorem Fr3.set (h:Fr3 w own G cs X) (i:Nat) (v:Value):Fr3 w own G (cs.set i v) (X.setCell ⟨G,i,none⟩ v):=by
 obtain⟨⟨h1,⟨x,y,z,h2⟩,h3⟩,h4,h5⟩:=h;have on:=(Onl.refl G X).set i v;exact⟨⟨on.blk h1 (by omega),⟨x,y,z,on.blk h2 (by omega)⟩,h3.setCell (p:=⟨G,i,none⟩) (by show w.heap.size<=G;omega) v⟩,h4.set i v,h5⟩
theorem Fr3.put (h:Fr3 w own G cs X) (v0 v1 v2:Value):Fr3 w own G cs (((X.setCell ⟨w.heap.size+1,0,none⟩ v0).setCell ⟨w.heap.size+1,1,none⟩ v1).setCell ⟨w.heap.size+1,2,none⟩ v2):=
 ⟨h.f.put v0 v1 v2,((((Onl.refl _ X).set 0 v0).set 1 v1).set 2 v2).blk h.p (by have:=h.g;omega),h.g⟩
end
theorem kProd_any (own a b':Ty) (s:Int) (A:Option Addr) (c fb:Nat) (w:World) (hs:s=1∨s= -1) (ha:rightB a=true) (hb':rightB b'=true) (hr:Rd w A (tys [a,b'])) (hc:2<=c) (hfb:Blk w fb 3 [.int .i64 s]):Calls Tryz.prog 244 #[own.v,.slice A 2 c,.pointer (some ⟨fb,0,none⟩)] w fun e w'=>e=.returned (.tuple #[(prodT s a b').v,.bool (!a.truth&&(!b'.truth&&unitB (prodT s a b').money (prodT s a b').days))])/\Below w.heap.size w w':=by
 obtain⟨a1,a2,a3,a4⟩:=rightB_rng ha;obtain⟨c1,c2,c3,c4⟩:=rightB_rng hb';obtain⟨b,off,rfl,hat⟩:=hr.tyAt (by simp);have q0:=hat 0 (by simp);have q1:=hat 1 (by simp);simp only[List.getElem_cons_zero,List.getElem_cons_succ,Nat.zero_mul,Nat.add_zero,Nat.one_mul] at q0 q1;obtain⟨tr,m,d⟩:=own;obtain⟨at_,am,ad⟩:=a;obtain⟨bt,bm,bd⟩:=b';have hc:=fun X (h:Fr2 w ⟨tr,m,d⟩ X)=>And.intro (h.ty q0) (And.intro (h.ty q1) ((hfb.below h.w hfb.lt).cells 0))
 simp only at hc a1 a2 a3 a4 c1 c2 c3 c4;obtain⟨pm,hpm⟩:=zE (am+s*bm);obtain⟨pd,hpd⟩:=zE (ad+s*bd);have hw1:IntKind.i64.wrap (s*bm)=s*bm:=IntWalk.i64_in _ (by rcases hs with rfl|rfl<;>omega);have hw2:IntKind.i64.wrap (s*bd)=s*bd:=IntWalk.i64_in _ (by rcases hs with rfl|rfl<;>omega);have hw3:IntKind.i64.wrap (am+s*bm)=pm:=by rw[hpm];exact IntWalk.i64_in _ (by rcases hs with rfl|rfl<;>omega)
 have hw4:IntKind.i64.wrap (ad+s*bd)=pd:=by rw[hpd];exact IntWalk.i64_in _ (by rcases hs with rfl|rfl<;>omega)
 unfold prodT Ty.v;simp only[<-hpm,<-hpd]
 clear hs a1 a2 a3 a4 c1 c2 c3 c4 hpm hpd ha hb' hr hat q0 q1 hfb;go_enter Tryz.func244,Tryz.ntmps244
 go_upto_region 1 with fail
 generalize hX:(w.alloc _).alloc _=W;have hfr:=Fr2.new (own:=⟨tr,m,d⟩) hX;clear hX;refine reS (Fr2 w ⟨tr,m,d⟩) 99 (hfr.below (drewN_below _ _ 1)) (fun X _ hS=>?_)
 iterate 28 refine reA ?_
 refine reV 28 (fun _=>hS.below (zB _ _)) (fun hS1=>?_);generalize hX:X.alloc _=Z;have hz:=(zA hX).1;have h3:Fr3 w ⟨tr,m,d⟩ X.heap.size _ Z:=⟨hX ▸ hS1,hz,hS.r.elim fun x h=>h.elim fun y h=>h.elim fun z h=>h.lt⟩
 have cz:=hz.cells;have fz:=hz.froz;have h4:=((h3.set 0 (.bool false)).set 1 (.int .i64 pm)).set 2 (.int .i64 pd);refine reW 29 (fun _=>h4.f) (fun _=>?_);refine reE ?_;simp only[List.set_cons_zero,List.set_cons_succ] at h4;generalize X.heap.size=G at h4⊢;generalize World.setCell _ _ _=V at h4⊢;clear hS hS1 hX hz h3 cz fz hfr hw1 hw2 hw3 hw4
 go_upto_region 2 with fail
 have hc:=fun X (h:Fr3 w ⟨tr,m,d⟩ G [.bool false,.int .i64 pm,.int .i64 pd] X)=>And.intro (hc X h.f) (And.intro (h.p.cells 0) (And.intro (h.p.cells 1) (h.p.cells 2)))
 refine reS (Fr3 w ⟨tr,m,d⟩ G [.bool false,.int .i64 pm,.int .i64 pd]) 99 (h4.below (drewN_below _ _ 1)) (fun X _ hS=>?_)
 iterate 7 refine reA ?_
 cases at_;cases bt
 iterate 9 refine reA ?_
 refine reC 16 (kUnit_any pm pd X) ?_;rintro e X ⟨rfl,hb⟩;refine⟨_,rfl,hS.below hb,fun hS=>?_⟩;rotate_left
 iterate 7 refine reA ?_
 iterate 3 refine reB ?_
 rotate_left
 iterate 5 refine reB ?_
 iterate 2 refine reA ?_
 iterate 3 refine reB ?_
 all_goals
  refine reA ?_;obtain⟨x0,x1,x2,hr⟩:=hS.f.r;have hcr:=hr.cells;have hfR:=hr.froz;refine reW 18 (fun _=>hS.put _ _ _) (fun h=>?_);have hS2:=h (by decide);refine reA ?_;refine reE ?_;go_wp2;refine bodyPost_ret (v:=.tuple #[.agg #[.bool false,.int .i64 pm,.int .i64 pd],.bool _]) (by simp[results,Tryz.results244,go_sem,hcr]) rfl ⟨rfl,?_⟩;exact below_st3 hS.f.w (by omega) _ _ _
theorem kTruths1_any (own:Ty) (l:List Ty) (A:Option Addr) (k c:Nat) (w:World) (hL:LaidK w) (hk:k=l.length) (hm:k<=maxLen) (hr:Rd w A (tys l)):
  Calls Tryz.prog 245 #[own.v,.slice A k c] w fun e w'=>e=.returned (.tuple #[tTruth.v,.bool (l.all fun t=>decide (t=tTruth))])/\Below w.heap.size w w':=by
 obtain⟨tr,m,d⟩:=own;have HKL:=zH hk;have hc:=fun X (h:Fr2 w ⟨tr,m,d⟩ X)=>And.intro ((hL.below h.w).truth 0 _ rfl) (And.intro ((hL.below h.w).truth 1 _ rfl) ((hL.below h.w).truth 2 _ rfl))
 have HT:=zH (fun X (h:Fr2 w ⟨tr,m,d⟩ X) {j:Nat} (hj:j<l.length)=>(hr.below h.w).ty hj);have hng:¬(6=w.heap.size+1):=by have h1:=hL.lt.2.2.2.2;omega
 have hm2:k<=9223372036854775807:=by unfold maxLen at hm;omega
 unfold Ty.v;unfold tTruth at hc⊢;simp only at hc⊢;obtain⟨res,hres⟩:=zE (l.all fun t=>decide (t=(⟨true,0,0⟩:Ty)));rw[<-hres];have HRS:=zH hres;clear hr hL hm hk hres;go_enter Tryz.func245,Tryz.ntmps245
 go_upto_region 1 with fail
 generalize hX:(w.alloc _).alloc _=W;have hfr:=Fr2.new (own:=⟨tr,m,d⟩) hX;clear hX;go_wp2
 go_loopg [10] k (fun g iv wr=>∃j:Nat,j+g=k/\iv=.int .i64 j/\Hid (∀t∈l.take j,t=⟨true,0,0⟩)/\Fr2 w ⟨tr,m,d⟩ wr)
 case atStart=>exact⟨0,by omega,rfl,(fun t ht=>by cases ht),hfr⟩
 case round=>
  clear hfr;obtain⟨j,hj,rfl,hall,hfr⟩:=hrel;by_cases hlt:j<k
  ·have hjl:j<l.length:=by rw[<-HKL.out];exact hlt
   obtain⟨b,off,rfl,hb,d0,d1,d2⟩:=HT.out wr hfr hjl;have HX:Hid (l[j]∈l):=List.getElem_mem hjl;have HS:Hid (l.take (j+1)=l.take j++[l[j]]):=List.take_succ_eq_append_getElem hjl;generalize l[j]=t at*;obtain⟨tt,tm,td⟩:=t;obtain⟨dq,hdq⟩:=zF (decide ((⟨tt,tm,td⟩:Ty)=⟨true,0,0⟩));have HE:=fun W=>neq_ty ⟨tt,tm,td⟩ ⟨true,0,0⟩ W
   simp only[hdq,Ty.v] at HE;have hcc:=hc _ (hfr.below (zB wr (.cells #[.bool tt,.int .i64 tm,.int .i64 td] 34)));cases dq
   ·obtain rfl:res=false:=by
     rw[HRS.out,<-Bool.not_eq_true,List.all_eq_true];exact fun h=>of_decide_eq_false hdq (of_decide_eq_true (h _ HX.out))
    obtain⟨x0,x1,x2,hr⟩:=(hfr.below (zB wr (.cells #[.bool tt,.int .i64 tm,.int .i64 td] 34))).r;have hcr:=hr.cells;have hfR:=hr.froz;have hw:=hfr.w.alloc hfr.w.size (.cells #[.bool tt,.int .i64 tm,.int .i64 td] 34);clear HRS hall HS HX hdq HT hr;go_wp2;refine bodyPost_ret (v:=.tuple #[.agg #[.bool true,.int .i64 0,.int .i64 0],.bool false]) (by simp[results,Tryz.results245,go_sem,hcr]) rfl ⟨rfl,?_⟩;exact below_st3 hw (by omega) _ _ _
   ·have HA:Hid (∀t∈l.take (j+1),t=⟨true,0,0⟩):=fun t ht=>by
     rw[HS.out] at ht;rcases List.mem_append.1 ht with ht|ht
     ·exact hall.out t ht
     ·rw[List.mem_singleton.1 ht];exact of_decide_eq_true hdq
    have hf:=hfr.below (zB wr (.cells #[.bool tt,.int .i64 tm,.int .i64 td] 34));clear hall HS HX hdq;go_wp2
    go_roundg (k-(j+1))
    case measure=>omega
    case rel=>exact⟨j+1,by omega,by go_num,HA,hf⟩
  ·obtain rfl:j=k:=by omega
   obtain rfl:res=true:=by rw[HRS.out];exact List.all_eq_true.2 fun t ht=>decide_eq_true (hall.out t (by rw[HKL.out,List.take_length];exact ht))
   have hcc:=hc _ hfr;obtain⟨x0,x1,x2,hr⟩:=hfr.r;have hcr:=hr.cells;have hfR:=hr.froz;clear HRS hall HT hr;go_wp2;refine bodyPost_ret (v:=.tuple #[.agg #[.bool true,.int .i64 0,.int .i64 0],.bool true]) (by simp[results,Tryz.results245,go_sem,hcr]) rfl ⟨rfl,?_⟩;exact below_st3 hfr.w (by omega) _ _ _
def Keeps (lo:Nat) (w W:World):Prop:=w.heap.size<=W.heap.size/\∀b,lo<=b->b<w.heap.size->W.heap[b]?=w.heap[b]?
theorem Keeps.of {w W:World} (h:Below w.heap.size w W) (lo:Nat):Keeps lo w W:=⟨h.size,fun b _ hb=>h.block b hb⟩
theorem Keeps.trans {lo:Nat} {w W W':World} (h:Keeps lo w W) (h':Keeps lo W W'):Keeps lo w W':=
 ⟨Nat.le_trans h.1 h'.1,fun b h1 h2=>(h'.2 b h1 (Nat.lt_of_lt_of_le h2 h.1)).trans (h.2 b h1 h2)⟩
theorem Keeps.blk {lo b:Nat} {w W:World} {t:TypeId} {cs:List Value} (h:Keeps lo w W) (hb:Blk w b t cs) (hl:lo<=b):Blk W b t cs:=(h.2 b hl hb.lt).trans hb
theorem Keeps.cell {lo b:Nat} {w W:World} (h:Keeps lo w W) (hl:lo<=b) (hb:b<w.heap.size) (j:Nat):W.cell? ⟨b,j,none⟩=w.cell? ⟨b,j,none⟩:=World.cell?_of_block (h.2 b hl hb)
def RuleV (lo:Nat) (w:World) (k:Int) (f:Value):Prop:=∃g lb,f=.func (.func g) #[] lb/\(∀args w,(callFunc g args).run Tryz.prog w=.ok (.enter g args) w)/\
 ∀(own:Ty) (l:List Ty) (A:Option Addr) (n c:Nat) (W:World),Keeps lo w W->LaidK W->n=l.length->n<=c->n<=maxLen->Rd W A (tys l)->(∀t∈l,rightB t=true)->l.length=(shp k).ops->
  Calls Tryz.prog g (#[own.v,.slice A n c]++lb) W fun e w'=>e=.returned (.tuple #[(ruleT k own l).1.v,.bool (ruleT k own l).2])/\Below W.heap.size W w'
theorem RuleV.keeps {lo:Nat} {w w':World} {k:Int} {f:Value} (h:RuleV lo w k f) (hb:Keeps lo w w'):RuleV lo w' k f:=by
 obtain⟨g,lb,rfl,hg,hc⟩:=h;exact⟨g,lb,rfl,hg,fun own l A n c W hW=>hc own l A n c W (hb.trans hW)⟩
def RV (lo:Nat) (k:Int) (v:Value) (w:World):Prop:=∃f,v=.agg #[.bool (sigB k),f]/\RuleV lo w k f
theorem len1 {l:List Ty} (h:l.length=1):∃a,l=[a]:=List.length_eq_one_iff.1 h
theorem len2 {l:List Ty} (h:l.length=2):∃a b,l=[a,b]:=match l,h with|[a,b],_=>⟨a,b,rfl⟩
theorem len3 {l:List Ty} (h:l.length=3):∃a b c,l=[a,b,c]:=match l,h with|[a,b,c],_=>⟨a,b,c,rfl⟩
theorem rv1 (lo:Nat) (w:World) (b:Nat) (h:Blk w b 34 tCash.cells) (hlo:lo<=b):RuleV lo w 1 (.func (.func 241) #[] #[.pointer (some ⟨b,0,none⟩)]):=by
 refine⟨241,_,rfl,enters_of Tryz.func241 (by kernel_rfl) rfl,fun own l A n c W hW hLW hn hc hm hr hg hl=>?_⟩;exact kAlways1_any tCash own _ b W (hW.blk h hlo)
theorem rv2 (lo:Nat) (w:World) (b:Nat) (h:Blk w b 34 tDays.cells) (hlo:lo<=b):RuleV lo w 2 (.func (.func 241) #[] #[.pointer (some ⟨b,0,none⟩)]):=by
 refine⟨241,_,rfl,enters_of Tryz.func241 (by kernel_rfl) rfl,fun own l A n c W hW hLW hn hc hm hr hg hl=>?_⟩;exact kAlways1_any tDays own _ b W (hW.blk h hlo)
theorem rv3 (lo:Nat) (w:World) (b:Nat) (h:Blk w b 34 tPlain.cells) (hlo:lo<=b):RuleV lo w 3 (.func (.func 241) #[] #[.pointer (some ⟨b,0,none⟩)]):=by
 refine⟨241,_,rfl,enters_of Tryz.func241 (by kernel_rfl) rfl,fun own l A n c W hW hLW hn hc hm hr hg hl=>?_⟩;exact kAlways1_any tPlain own _ b W (hW.blk h hlo)
theorem rv4 (lo:Nat) (w:World) (b:Nat) (h:Blk w b 34 tTruth.cells) (hlo:lo<=b):RuleV lo w 4 (.func (.func 241) #[] #[.pointer (some ⟨b,0,none⟩)]):=by
 refine⟨241,_,rfl,enters_of Tryz.func241 (by kernel_rfl) rfl,fun own l A n c W hW hLW hn hc hm hr hg hl=>?_⟩;exact kAlways1_any tTruth own _ b W (hW.blk h hlo)
theorem rv5 (lo:Nat) (w:World) (k:Int) (h:k=5∨k=6∨k=7∨k=8):RuleV lo w k (.func (.func 242) #[] #[]):=by
 refine⟨242,_,rfl,enters_of Tryz.func242 (by kernel_rfl) rfl,fun own l A n c W hW hLW hn hc hm hr hg hl=>?_⟩;have e:ruleT k own l=(own,true):=by rcases h with rfl|rfl|rfl|rfl<;>rfl
 rw[e];exact kNamed1_any own _ W
theorem rv9 (lo:Nat) (w:World) (k:Int) (b:Nat) (h:k=9∨k=10∨k=13∨k=14) (hb:Blk w b 255 [.func (.func 192) #[] #[]]) (hlo:lo<=b):RuleV lo w k (.func (.func 243) #[] #[.pointer (some ⟨b,0,none⟩)]):=by
 refine⟨243,_,rfl,enters_of Tryz.func243 (by kernel_rfl) rfl,fun own l A n c W hW hLW hn hc hm hr hg hl=>?_⟩;obtain⟨x,y,rfl⟩:=len2 (hl.trans (by rcases h with rfl|rfl|rfl|rfl<;>rfl));have e:ruleT k own [x,y]=(x,decide (x=y)&& !x.truth):=by rcases h with rfl|rfl|rfl|rfl<;>rfl
 obtain rfl:n=2:=hn;rw[e];exact kAlikeI_any own x y A c b W hr hc (hW.blk hb hlo)
theorem rv11 (lo:Nat) (w:World) (b:Nat) (hb:Blk w b 3 [.int .i64 1]) (hlo:lo<=b):RuleV lo w 11 (.func (.func 244) #[] #[.pointer (some ⟨b,0,none⟩)]):=by
 refine⟨244,_,rfl,enters_of Tryz.func244 (by kernel_rfl) rfl,fun own l A n c W hW hLW hn hc hm hr hg hl=>?_⟩;obtain⟨x,y,rfl⟩:=len2 hl;obtain rfl:n=2:=hn
 have e:ruleT 11 own [x,y]=(prodT 1 x y, !x.truth&&(!y.truth&&unitB (prodT 1 x y).money (prodT 1 x y).days)):=by
  show ((⟨false,x.money+y.money,x.days+y.days⟩:Ty),_)=_
  have e1:prodT 1 x y=⟨false,x.money+y.money,x.days+y.days⟩:=by
   unfold prodT;simp only[Ty.mk.injEq,true_and];constructor<;>omega
  rw[e1];rfl
 rw[e];exact kProd_any own x y 1 A c b W (by omega) (hg x (by simp)) (hg y (by simp)) hr hc (hW.blk hb hlo)
theorem rv12 (lo:Nat) (w:World) (b:Nat) (hb:Blk w b 3 [.int .i64 (-1)]) (hlo:lo<=b):RuleV lo w 12 (.func (.func 244) #[] #[.pointer (some ⟨b,0,none⟩)]):=by
 refine⟨244,_,rfl,enters_of Tryz.func244 (by kernel_rfl) rfl,fun own l A n c W hW hLW hn hc hm hr hg hl=>?_⟩;obtain⟨x,y,rfl⟩:=len2 hl;obtain rfl:n=2:=hn
 have e:ruleT 12 own [x,y]=(prodT (-1) x y, !x.truth&&(!y.truth&&unitB (prodT (-1) x y).money (prodT (-1) x y).days)):=by
  show ((⟨false,x.money-y.money,x.days-y.days⟩:Ty),_)=_
  have e1:prodT (-1) x y=⟨false,x.money-y.money,x.days-y.days⟩:=by
   unfold prodT;simp only[Ty.mk.injEq,true_and];constructor<;>omega
  rw[e1];rfl
 rw[e];exact kProd_any own x y (-1) A c b W (by omega) (hg x (by simp)) (hg y (by simp)) hr hc (hW.blk hb hlo)
theorem rv15 (lo:Nat) (w:World):RuleV lo w 15 (.func (.func 194) #[] #[]):=by
 refine⟨194,_,rfl,enters_of Tryz.func194 (by kernel_rfl) rfl,fun own l A n c W hW hLW hn hc hm hr hg hl=>?_⟩;obtain⟨x,y,z,rfl⟩:=len3 hl;obtain rfl:n=3:=hn;exact kIf_any own x y z A c W hLW hr hc
theorem rv16 (lo:Nat) (w:World) (b:Nat) (hb:Blk w b 255 [.func (.func 195) #[] #[]]) (hlo:lo<=b):RuleV lo w 16 (.func (.func 243) #[] #[.pointer (some ⟨b,0,none⟩)]):=by
 refine⟨243,_,rfl,enters_of Tryz.func243 (by kernel_rfl) rfl,fun own l A n c W hW hLW hn hc hm hr hg hl=>?_⟩;obtain⟨x,y,rfl⟩:=len2 hl;obtain rfl:n=2:=hn;exact kAlikeD_any own x y A c b W hLW hr hc (hW.blk hb hlo)
theorem rv17 (lo:Nat) (w:World):RuleV lo w 17 (.func (.func 196) #[] #[]):=by
 refine⟨196,_,rfl,enters_of Tryz.func196 (by kernel_rfl) rfl,fun own l A n c W hW hLW hn hc hm hr hg hl=>?_⟩;obtain⟨x,y,rfl⟩:=len2 hl;obtain rfl:n=2:=hn;exact kEqual_any own x y A c W hLW hr hc
theorem rv18 (lo:Nat) (w:World) (k:Int) (h:k=18∨k=19∨k=20):RuleV lo w k (.func (.func 245) #[] #[]):=by
 refine⟨245,_,rfl,enters_of Tryz.func245 (by kernel_rfl) rfl,fun own l A n c W hW hLW hn hc hm hr hg hl=>?_⟩;have e:ruleT k own l=(tTruth,l.all fun t=>decide (t=tTruth)):=by rcases h with rfl|rfl|rfl<;>rfl
 rw[e];exact kTruths1_any own l A n c W hLW hn hm hr
theorem rv21 (lo:Nat) (w:World) (k:Int) (h:k=21∨k=22∨k=23):RuleV lo w k (.func (.func 246) #[] #[]):=by
 refine⟨246,_,rfl,enters_of Tryz.func246 (by kernel_rfl) rfl,fun own l A n c W hW hLW hn hc hm hr hg hl=>?_⟩;obtain⟨x,rfl⟩:=len1 (hl.trans (by rcases h with rfl|rfl|rfl<;>rfl));have e:ruleT k own [x]=(x, !x.truth):=by rcases h with rfl|rfl|rfl<;>rfl
 obtain rfl:n=1:=hn;rw[e];exact kRounded1_any own x A c W hr hc
theorem rv24 (lo:Nat) (w:World):RuleV lo w 24 (.func (.func 199) #[] #[]):=by
 refine⟨199,_,rfl,enters_of Tryz.func199 (by kernel_rfl) rfl,fun own l A n c W hW hLW hn hc hm hr hg hl=>?_⟩;obtain⟨x,rfl⟩:=len1 hl;obtain rfl:n=1:=hn;exact kRate1_any own x A c W hr hc
section
variable {P:Program} {ops:Array Oper} {Q:Exit->Act->World->Prop} {i:Nat} {o:Oper} {a:Act} {w w':World} {R:Value->World->Prop}
theorem eachC {fn:FuncId} {args:Array Value} {S:Ending->World->Prop} (c:Calls P fn args w S) (h:∀e w',S e w'->∃v,e=.returned v/\R v w'/\Below w.heap.size w w') (ho:ops[i]?=some o:=by rfl) (hw:Region.wanted o (yielded ops a.tmps)=true:=by kernel_rfl)
  (he:(execOp a.eval o).run P w=.ok (.enter fn args) w:=by (go_simp;all_goals first|with_reducible rfl|rfl)) (hd:o.dst=some (dstOf ops i):=by rfl):wpOp P ops Q i (fun a' w'=>∃v,a'=a.put (some (dstOf ops i)) v/\R v w'/\Below w.heap.size w w') a w:=by
 unfold wpOp;simp only[ho,hw,if_true,Oper.wp,he,Oper.upon]
 refine .inl (c.mono fun e w' hR=>?_);obtain⟨v,rfl,h1,h2⟩:=h e w' hR;exact⟨v,by rw[hd],h1,h2⟩
theorem eachV {v:Value} (hb:Below w.heap.size w w') (h:R v w') (ho:ops[i]?=some o:=by rfl) (hw:Region.wanted o (yielded ops a.tmps)=true:=by kernel_rfl)
  (he:(execOp a.eval o).run P w=.ok (.value v) w':=by (go_simp;all_goals first|with_reducible rfl|rfl)) (hd:o.dst=some (dstOf ops i):=by rfl):wpOp P ops Q i (fun a' w'=>∃v,a'=a.put (some (dstOf ops i)) v/\R v w'/\Below w.heap.size w w') a w:=by
 unfold wpOp;simp only[ho,hw,if_true,Oper.wp,he,Oper.upon]
 exact .inl ⟨v,by rw[hd],h,hb⟩
end
def RulesAt (lo:Nat) (w:World) (b:Nat):Prop:=lo<=b/\b<w.heap.size/\∀k:Nat,1<=k->k<=24->∃f,w.cell? ⟨b,2*k,none⟩=some (.bool (sigB k))/\w.cell? ⟨b,2*k+1,none⟩=some f/\RuleV lo w k f
theorem RulesAt.keeps {lo:Nat} {w w':World} {b:Nat} (h:RulesAt lo w b) (hb:Keeps lo w w'):RulesAt lo w' b:=
 ⟨h.1,Nat.lt_of_lt_of_le h.2.1 hb.1,fun k h1 h2=>by
   obtain⟨f,c0,c1,hv⟩:=h.2.2 k h1 h2;exact⟨f,(hb.cell h.1 h.2.1 _).trans c0,(hb.cell h.1 h.2.1 _).trans c1,hv.keeps hb⟩⟩
def ruleR (lo i:Nat) (v:Value) (w:World):Prop:=match i with
 |0=>v=tCash.v
 |1=>RV lo 1 v w
 |2=>v=tDays.v
 |3=>RV lo 2 v w
 |4=>v=tPlain.v
 |5=>RV lo 3 v w
 |6=>v=tTruth.v
 |7=>RV lo 4 v w
 |8=>RV lo 5 v w
 |9=>RV lo 6 v w
 |10=>RV lo 7 v w
 |11=>RV lo 8 v w
 |12=>RV lo 9 v w
 |13=>RV lo 10 v w
 |14=>RV lo 13 v w
 |15=>RV lo 14 v w
 |16=>RV lo 11 v w
 |17=>RV lo 12 v w
 |18=>RV lo 15 v w
 |19=>RV lo 16 v w
 |20=>RV lo 17 v w
 |21=>RV lo 18 v w
 |22=>RV lo 19 v w
 |23=>RV lo 20 v w
 |24=>RV lo 21 v w
 |25=>RV lo 22 v w
 |26=>RV lo 23 v w
 |27=>RV lo 24 v w
 |_=>∃b,v=.slice (some ⟨b,0,none⟩) 25 25/\RulesAt lo w b
theorem ruleR_mono (lo i:Nat) (v:Value) (w w':World) (h:ruleR lo i v w) (hb:Below w.heap.size w w'):ruleR lo i v w':=by
 have hV:∀k,RV lo k v w->RV lo k v w':=fun k ⟨f,e,hf⟩=>⟨f,e,hf.keeps (Keeps.of hb lo)⟩
 have hS:(∃b,v=.slice (some ⟨b,0,none⟩) 25 25/\RulesAt lo w b)->∃b,v=.slice (some ⟨b,0,none⟩) 25 25/\RulesAt lo w' b:=fun⟨b,e,hr⟩=>⟨b,e,hr.keeps (Keeps.of hb lo)⟩
 unfold ruleR at h⊢;split at h<;>first|exact h|exact hV _ h|exact hS h
theorem kRules_any (w:World) (hL:LaidK w):Calls Tryz.prog 159 #[] w fun e w'=>(∃b,e=.returned (.slice (some ⟨b,0,none⟩) 25 25)/\RulesAt w.heap.size w' b)/\Below w.heap.size w w':=by
 have HL:=zH hL;clear hL;go_enter Tryz.func159,Tryz.ntmps159
 go_upto_region 1 with fail
 refine region_each (n:=30) (by kernel_rfl) (by kernel_rfl) rfl (ruleR w.heap.size) (ruleR_mono _) ?_ ?_
 ·intro i o ho a1 W hb hdep;have HLW:=zH (HL.out.below hb);have HSW:Hid (w.heap.size<=W.heap.size):=hb.size;clear hb
  match i,ho with
  |0,ho=>
   injection ho with ho;subst ho;have g0:=HLW.out.cash 0 _ rfl;have g1:=HLW.out.cash 1 _ rfl;have g2:=HLW.out.cash 2 _ rfl;unfold tCash at g0 g1 g2;simp only at g0 g1 g2;exact eachV (Below.refl _ _) (v:=_) rfl
  |1,ho=>
   injection ho with ho;subst ho;have h:(a1.tmps[1]?).getD undef=tCash.v:=hdep ⟨0,.data⟩ (by simp) rfl;exact eachC (kAlways_any tCash W) fun e w' ⟨b,e1,hb,hlo,hbw⟩=>⟨_,e1,⟨_,rfl,rv1 _ _ b hb (Nat.le_trans HSW.out hlo)⟩,hbw⟩
  |2,ho=>
   injection ho with ho;subst ho;have g0:=HLW.out.days 0 _ rfl;have g1:=HLW.out.days 1 _ rfl;have g2:=HLW.out.days 2 _ rfl;unfold tDays at g0 g1 g2;simp only at g0 g1 g2;exact eachV (Below.refl _ _) (v:=_) rfl
  |3,ho=>
   injection ho with ho;subst ho;have h:(a1.tmps[3]?).getD undef=tDays.v:=hdep ⟨2,.data⟩ (by simp) rfl;exact eachC (kAlways_any tDays W) fun e w' ⟨b,e1,hb,hlo,hbw⟩=>⟨_,e1,⟨_,rfl,rv2 _ _ b hb (Nat.le_trans HSW.out hlo)⟩,hbw⟩
  |4,ho=>
   injection ho with ho;subst ho;have g0:=HLW.out.plain 0 _ rfl;have g1:=HLW.out.plain 1 _ rfl;have g2:=HLW.out.plain 2 _ rfl;unfold tPlain at g0 g1 g2;simp only at g0 g1 g2;exact eachV (Below.refl _ _) (v:=_) rfl
  |5,ho=>
   injection ho with ho;subst ho;have h:(a1.tmps[5]?).getD undef=tPlain.v:=hdep ⟨4,.data⟩ (by simp) rfl;exact eachC (kAlways_any tPlain W) fun e w' ⟨b,e1,hb,hlo,hbw⟩=>⟨_,e1,⟨_,rfl,rv3 _ _ b hb (Nat.le_trans HSW.out hlo)⟩,hbw⟩
  |6,ho=>
   injection ho with ho;subst ho;have g0:=HLW.out.truth 0 _ rfl;have g1:=HLW.out.truth 1 _ rfl;have g2:=HLW.out.truth 2 _ rfl;unfold tTruth at g0 g1 g2;simp only at g0 g1 g2;exact eachV (Below.refl _ _) (v:=_) rfl
  |7,ho=>
   injection ho with ho;subst ho;have h:(a1.tmps[7]?).getD undef=tTruth.v:=hdep ⟨6,.data⟩ (by simp) rfl;exact eachC (kAlways_any tTruth W) fun e w' ⟨b,e1,hb,hlo,hbw⟩=>⟨_,e1,⟨_,rfl,rv4 _ _ b hb (Nat.le_trans HSW.out hlo)⟩,hbw⟩
  |8,_=>exact eachC (kNamed_any W) fun e w' ⟨e1,hbw⟩=>⟨_,e1,⟨_,rfl,rv5 _ _ _ (by omega)⟩,hbw⟩
  |9,_=>exact eachC (kNamed_any W) fun e w' ⟨e1,hbw⟩=>⟨_,e1,⟨_,rfl,rv5 _ _ _ (by omega)⟩,hbw⟩
  |10,_=>exact eachC (kNamed_any W) fun e w' ⟨e1,hbw⟩=>⟨_,e1,⟨_,rfl,rv5 _ _ _ (by omega)⟩,hbw⟩
  |11,_=>exact eachC (kNamed_any W) fun e w' ⟨e1,hbw⟩=>⟨_,e1,⟨_,rfl,rv5 _ _ _ (by omega)⟩,hbw⟩
  |12,_=>exact eachC (kAlike_any _ W) fun e w' ⟨b,e1,hb,hlo,hbw⟩=>⟨_,e1,⟨_,rfl,rv9 _ _ _ b (by omega) hb (Nat.le_trans HSW.out hlo)⟩,hbw⟩
  |13,_=>exact eachC (kAlike_any _ W) fun e w' ⟨b,e1,hb,hlo,hbw⟩=>⟨_,e1,⟨_,rfl,rv9 _ _ _ b (by omega) hb (Nat.le_trans HSW.out hlo)⟩,hbw⟩
  |14,_=>exact eachC (kAlike_any _ W) fun e w' ⟨b,e1,hb,hlo,hbw⟩=>⟨_,e1,⟨_,rfl,rv9 _ _ _ b (by omega) hb (Nat.le_trans HSW.out hlo)⟩,hbw⟩
  |15,_=>exact eachC (kAlike_any _ W) fun e w' ⟨b,e1,hb,hlo,hbw⟩=>⟨_,e1,⟨_,rfl,rv9 _ _ _ b (by omega) hb (Nat.le_trans HSW.out hlo)⟩,hbw⟩
  |16,_=>exact eachC (kProduct_any _ W) fun e w' ⟨b,e1,hb,hlo,hbw⟩=>⟨_,e1,⟨_,rfl,rv11 _ _ b hb (Nat.le_trans HSW.out hlo)⟩,hbw⟩
  |17,_=>exact eachC (kProduct_any _ W) fun e w' ⟨b,e1,hb,hlo,hbw⟩=>⟨_,e1,⟨_,rfl,rv12 _ _ b hb (Nat.le_trans HSW.out hlo)⟩,hbw⟩
  |18,_=>exact eachV (Below.refl _ _) (v:=_) ⟨_,rfl,rv15 _ _⟩
  |19,_=>exact eachC (kAlike_any _ W) fun e w' ⟨b,e1,hb,hlo,hbw⟩=>⟨_,e1,⟨_,rfl,rv16 _ _ b hb (Nat.le_trans HSW.out hlo)⟩,hbw⟩
  |20,_=>exact eachV (Below.refl _ _) (v:=_) ⟨_,rfl,rv17 _ _⟩
  |21,_=>exact eachC (kTruths_any W) fun e w' ⟨e1,hbw⟩=>⟨_,e1,⟨_,rfl,rv18 _ _ _ (by omega)⟩,hbw⟩
  |22,_=>exact eachC (kTruths_any W) fun e w' ⟨e1,hbw⟩=>⟨_,e1,⟨_,rfl,rv18 _ _ _ (by omega)⟩,hbw⟩
  |23,_=>exact eachC (kTruths_any W) fun e w' ⟨e1,hbw⟩=>⟨_,e1,⟨_,rfl,rv18 _ _ _ (by omega)⟩,hbw⟩
  |24,_=>exact eachC (kRounded_any W) fun e w' ⟨e1,hbw⟩=>⟨_,e1,⟨_,rfl,rv21 _ _ _ (by omega)⟩,hbw⟩
  |25,_=>exact eachC (kRounded_any W) fun e w' ⟨e1,hbw⟩=>⟨_,e1,⟨_,rfl,rv21 _ _ _ (by omega)⟩,hbw⟩
  |26,_=>exact eachC (kRounded_any W) fun e w' ⟨e1,hbw⟩=>⟨_,e1,⟨_,rfl,rv21 _ _ _ (by omega)⟩,hbw⟩
  |27,_=>exact eachV (Below.refl _ _) (v:=_) ⟨_,rfl,rv24 _ _⟩
  |28,ho=>
   injection ho with ho;subst ho;obtain⟨f1,h1,r1⟩:RV w.heap.size 1 ((a1.tmps[2]?).getD undef) W:=hdep ⟨1,.data⟩ (by simp) rfl;obtain⟨f2,h2,r2⟩:RV w.heap.size 2 ((a1.tmps[4]?).getD undef) W:=hdep ⟨3,.data⟩ (by simp) rfl;obtain⟨f3,h3,r3⟩:RV w.heap.size 3 ((a1.tmps[6]?).getD undef) W:=hdep ⟨5,.data⟩ (by simp) rfl;obtain⟨f4,h4,r4⟩:RV w.heap.size 4 ((a1.tmps[8]?).getD undef) W:=hdep ⟨7,.data⟩ (by simp) rfl;obtain⟨f5,h5,r5⟩:RV w.heap.size 5 ((a1.tmps[9]?).getD undef) W:=hdep ⟨8,.data⟩ (by simp) rfl;obtain⟨f6,h6,r6⟩:RV w.heap.size 6 ((a1.tmps[10]?).getD undef) W:=hdep ⟨9,.data⟩ (by simp) rfl;obtain⟨f7,h7,r7⟩:RV w.heap.size 7 ((a1.tmps[11]?).getD undef) W:=hdep ⟨10,.data⟩ (by simp) rfl;obtain⟨f8,h8,r8⟩:RV w.heap.size 8 ((a1.tmps[12]?).getD undef) W:=hdep ⟨11,.data⟩ (by simp) rfl;obtain⟨f9,h9,r9⟩:RV w.heap.size 9 ((a1.tmps[13]?).getD undef) W:=hdep ⟨12,.data⟩ (by simp) rfl;obtain⟨f10,h10,r10⟩:RV w.heap.size 10 ((a1.tmps[14]?).getD undef) W:=hdep ⟨13,.data⟩ (by simp) rfl;obtain⟨f13,h13,r13⟩:RV w.heap.size 13 ((a1.tmps[15]?).getD undef) W:=hdep ⟨14,.data⟩ (by simp) rfl;obtain⟨f14,h14,r14⟩:RV w.heap.size 14 ((a1.tmps[16]?).getD undef) W:=hdep ⟨15,.data⟩ (by simp) rfl;obtain⟨f11,h11,r11⟩:RV w.heap.size 11 ((a1.tmps[17]?).getD undef) W:=hdep ⟨16,.data⟩ (by simp) rfl;obtain⟨f12,h12,r12⟩:RV w.heap.size 12 ((a1.tmps[18]?).getD undef) W:=hdep ⟨17,.data⟩ (by simp) rfl;obtain⟨f15,h15,r15⟩:RV w.heap.size 15 ((a1.tmps[19]?).getD undef) W:=hdep ⟨18,.data⟩ (by simp) rfl;obtain⟨f16,h16,r16⟩:RV w.heap.size 16 ((a1.tmps[20]?).getD undef) W:=hdep ⟨19,.data⟩ (by simp) rfl;obtain⟨f17,h17,r17⟩:RV w.heap.size 17 ((a1.tmps[21]?).getD undef) W:=hdep ⟨20,.data⟩ (by simp) rfl;obtain⟨f18,h18,r18⟩:RV w.heap.size 18 ((a1.tmps[22]?).getD undef) W:=hdep ⟨21,.data⟩ (by simp) rfl;obtain⟨f19,h19,r19⟩:RV w.heap.size 19 ((a1.tmps[23]?).getD undef) W:=hdep ⟨22,.data⟩ (by simp) rfl;obtain⟨f20,h20,r20⟩:RV w.heap.size 20 ((a1.tmps[24]?).getD undef) W:=hdep ⟨23,.data⟩ (by simp) rfl;obtain⟨f21,h21,r21⟩:RV w.heap.size 21 ((a1.tmps[25]?).getD undef) W:=hdep ⟨24,.data⟩ (by simp) rfl;obtain⟨f22,h22,r22⟩:RV w.heap.size 22 ((a1.tmps[26]?).getD undef) W:=hdep ⟨25,.data⟩ (by simp) rfl;obtain⟨f23,h23,r23⟩:RV w.heap.size 23 ((a1.tmps[27]?).getD undef) W:=hdep ⟨26,.data⟩ (by simp) rfl;obtain⟨f24,h24,r24⟩:RV w.heap.size 24 ((a1.tmps[28]?).getD undef) W:=hdep ⟨27,.data⟩ (by simp) rfl;refine wpOp_step rfl (fun K hK=>?_);rw[if_pos (by rfl)];have HK:=zH hK;clear hK hdep;go_simp;generalize hX:W.alloc _=X;obtain⟨hz,hbe⟩:=zA hX;have hc:=hz.cells;have hk:=Keeps.of hbe w.heap.size;refine HK.out _ _ ⟨_,rfl,⟨_,rfl,HSW.out,hz.lt,fun k h1 h2=>?_⟩,hbe⟩
   match k,h1,h2 with
   |0,h1,_=>omega
   |1,_,_=>exact⟨f1,hc 2,hc 3,r1.keeps hk⟩
   |2,_,_=>exact⟨f2,hc 4,hc 5,r2.keeps hk⟩
   |3,_,_=>exact⟨f3,hc 6,hc 7,r3.keeps hk⟩
   |4,_,_=>exact⟨f4,hc 8,hc 9,r4.keeps hk⟩
   |5,_,_=>exact⟨f5,hc 10,hc 11,r5.keeps hk⟩
   |6,_,_=>exact⟨f6,hc 12,hc 13,r6.keeps hk⟩
   |7,_,_=>exact⟨f7,hc 14,hc 15,r7.keeps hk⟩
   |8,_,_=>exact⟨f8,hc 16,hc 17,r8.keeps hk⟩
   |9,_,_=>exact⟨f9,hc 18,hc 19,r9.keeps hk⟩
   |10,_,_=>exact⟨f10,hc 20,hc 21,r10.keeps hk⟩
   |11,_,_=>exact⟨f11,hc 22,hc 23,r11.keeps hk⟩
   |12,_,_=>exact⟨f12,hc 24,hc 25,r12.keeps hk⟩
   |13,_,_=>exact⟨f13,hc 26,hc 27,r13.keeps hk⟩
   |14,_,_=>exact⟨f14,hc 28,hc 29,r14.keeps hk⟩
   |15,_,_=>exact⟨f15,hc 30,hc 31,r15.keeps hk⟩
   |16,_,_=>exact⟨f16,hc 32,hc 33,r16.keeps hk⟩
   |17,_,_=>exact⟨f17,hc 34,hc 35,r17.keeps hk⟩
   |18,_,_=>exact⟨f18,hc 36,hc 37,r18.keeps hk⟩
   |19,_,_=>exact⟨f19,hc 38,hc 39,r19.keeps hk⟩
   |20,_,_=>exact⟨f20,hc 40,hc 41,r20.keeps hk⟩
   |21,_,_=>exact⟨f21,hc 42,hc 43,r21.keeps hk⟩
   |22,_,_=>exact⟨f22,hc 44,hc 45,r22.keeps hk⟩
   |23,_,_=>exact⟨f23,hc 46,hc 47,r23.keeps hk⟩
   |24,_,_=>exact⟨f24,hc 48,hc 49,r24.keeps hk⟩
   |k+25,_,h2=>omega
  |29,ho=>
   injection ho with ho;subst ho;obtain⟨b,h,hr⟩:∃b,(a1.tmps[29]?).getD undef=.slice (some ⟨b,0,none⟩) 25 25/\RulesAt w.heap.size W b:=hdep ⟨28,.data⟩ (by simp) rfl;exact eachV (Below.refl _ _) (v:=_) ⟨b,rfl,hr⟩
  |i+30,ho=>cases ho
 ·intro a1 W hsz hdf hb hall;obtain⟨b,h,hr⟩:∃b,(a1.tmps[0]?).getD undef=.slice (some ⟨b,0,none⟩) 25 25/\RulesAt w.heap.size W b:=hall 29 (by decide);clear hall;go_wp2;exact bodyPost_ret (v:=.slice (some ⟨b,0,none⟩) 25 25) (by simp[results,Tryz.results159,go_sem,h]) hdf ⟨⟨b,rfl,hr⟩,hb⟩
def ownT (sg:List Sg) (n:Nd):Option Ty:=if sigB n.op then sigOf sg n else some tPlain
def rowT (ts:List Ty) (row:List Nat):List Ty:=row.map fun k=>ts.getD k tPlain
def tyGo (sg:List Sg):List Nd->List (List Nat)->List Ty->List Ty × Int
 |n::r,a::ar,ts=>match ownT sg n with
  |none=>([],12)
  |some own=>if (ruleT n.op own (rowT ts a)).2 then tyGo sg r ar (ts++[(ruleT n.op own (rowT ts a)).1]) else ([],13)
 |_,_,ts=>(ts,0)
def typesE (sg:List Sg) (e:List Nd):List Ty × Int:=if checkE e=0 then tyGo sg e (argsE e) [] else ([],checkE e)
def typeE (sg:List Sg) (e:List Nd):Ty × Int:=let r:=typesE sg e;if r.2=0 then (r.1.getD (r.1.length-1) tPlain,0) else (tPlain,r.2)
theorem runA_ok:∀(e:List Nd) (k:Nat) (st:List Nat),chk e st.length=0->(∀x∈st,x<k)->∀j (hj:j<e.length),∃row,(runA e k st)[j]?=some row/\row.length=(shp e[j].op).ops/\(∀x∈row,x<k+j)/\wrongN e[j]=0
 |[],_,_,_,_,j,hj=>by simp at hj
 |n::r,k,st,h,hst,j,hj=>by
  obtain⟨h1,h2,h3⟩:=chk_zero h;cases j with
  |zero=>exact⟨_,rfl,by rw[List.length_reverse,List.length_take];exact Nat.min_eq_left h2,fun x hx=>hst x (List.mem_of_mem_take (List.mem_reverse.1 hx)),h1⟩
  |succ j=>
   have ih:=runA_ok r (k+1) (k::st.drop (shp n.op).ops) (by rw[List.length_cons,List.length_drop];exact h3)
    (fun x hx=>by rcases List.mem_cons.1 hx with rfl|hx
                  ·omega
                  ·exact Nat.lt_succ_of_lt (hst x (List.mem_of_mem_drop hx))) j (by simpa using hj)
   obtain⟨row,e1,e2,e3,e4⟩:=ih;exact⟨row,e1,e2,fun x hx=>by have:=e3 x hx;omega,e4⟩
theorem argsE_ok {e:List Nd} (h:checkE e=0) (j:Nat) (hj:j<e.length):∃row,(argsE e)[j]?=some row/\row.length=(shp e[j].op).ops/\(∀x∈row,x<j)/\wrongN e[j]=0:=by
 unfold checkE at h;split at h
 ·cases h
 ·obtain⟨row,h1,h2,h3,h4⟩:=runA_ok e 0 [] h (fun x hx=>by cases hx) j hj;exact⟨row,h1,h2,fun x hx=>by have:=h3 x hx;omega,h4⟩
theorem checkE_pos {e:List Nd} (h:checkE e=0):0<e.length/\e.length<=60:=by
 unfold checkE at h;split at h
 ·cases h
 ·refine⟨?_,by omega⟩;cases e with
  |nil=>rw[chk] at h;simp at h
  |cons n r=>simp
theorem wrong_op {n:Nd} (h:wrongN n=0):1<=n.op/\n.op<=24:=by
 unfold wrongN at h;split at h
 ·cases h
 ·next h'=>
  exact⟨by have:¬n.op<1:=fun h1=>h' (Or.inl h1);omega,by have:¬24<n.op:=fun h1=>h' (Or.inr (Or.inl h1));omega⟩
theorem right_plain:rightB tPlain=true:=by decide
theorem right_getD {l:List Ty} (h:∀t∈l,rightB t=true) (i:Nat):rightB (l.getD i tPlain)=true:=by
 rw[List.getD_eq_getElem?_getD];rcases Nat.lt_or_ge i l.length with hi|hi
 ·rw[List.getElem?_eq_getElem hi];exact h _ (List.getElem_mem hi)
 ·rw[List.getElem?_eq_none hi];exact right_plain
theorem sigOf_right {sg:List Sg} {n:Nd} {t:Ty} (h:sigOf sg n=some t):rightB t=true:=by
 unfold sigOf at h;obtain⟨s,hs,rfl⟩:=Option.map_eq_some_iff.1 h;have:=List.find?_some hs;unfold sigFit at this;simp only[Bool.and_eq_true] at this;exact this.2.2.1
theorem ownT_right {sg:List Sg} {n:Nd} {t:Ty} (h:ownT sg n=some t):rightB t=true:=by
 unfold ownT at h;split at h
 ·exact sigOf_right h
 ·injection h with h;subst h;exact right_plain
theorem ruleT_right (k:Int) (own:Ty) (l:List Ty) (ho:rightB own=true) (hl:∀t∈l,rightB t=true) (h:(ruleT k own l).2=true):rightB (ruleT k own l).1=true:=by
 have hA:=right_getD hl 0;have hB:=right_getD hl 1;have ht:rightB tTruth=true:=by decide
 revert h
 unfold ruleT;by_cases h1:k=1
 ·rw[if_pos h1];intro _;decide
 rw[if_neg h1];clear h1;by_cases h1:k=2
 ·rw[if_pos h1];intro _;decide
 rw[if_neg h1];clear h1;by_cases h1:k=3
 ·rw[if_pos h1];intro _;decide
 rw[if_neg h1];clear h1;by_cases h1:k=4
 ·rw[if_pos h1];intro _;decide
 rw[if_neg h1];clear h1;by_cases h1:k<=8
 ·rw[if_pos h1];intro _;exact ho
 rw[if_neg h1];clear h1;by_cases h1:k=11
 ·rw[if_pos h1];intro h;simp only[Bool.and_eq_true] at h;exact h.2.2
 rw[if_neg h1];clear h1;by_cases h1:k=12
 ·rw[if_pos h1];intro h;simp only[Bool.and_eq_true] at h;exact h.2.2
 rw[if_neg h1];clear h1;by_cases h1:k<=14
 ·rw[if_pos h1];intro _;exact hA
 rw[if_neg h1];clear h1;by_cases h1:k=15
 ·rw[if_pos h1];intro _;exact hB
 rw[if_neg h1];clear h1;by_cases h1:k=16
 ·rw[if_pos h1];intro _;exact ht
 rw[if_neg h1];clear h1;by_cases h1:k=17
 ·rw[if_pos h1];intro _;exact ht
 rw[if_neg h1];clear h1;by_cases h1:k<=20
 ·rw[if_pos h1];intro _;exact ht
 rw[if_neg h1];clear h1;by_cases h1:k<=23
 ·rw[if_pos h1];intro _;exact hA
 rw[if_neg h1];clear h1;intro _;exact ho
theorem tyGo_cons {sg:List Sg} {n:Nd} {r:List Nd} {a:List Nat} {ar:List (List Nat)} {ts:List Ty} {own:Ty} (h:ownT sg n=some own) (h2:(ruleT n.op own (rowT ts a)).2=true):
  tyGo sg (n::r) (a::ar) ts=tyGo sg r ar (ts++[(ruleT n.op own (rowT ts a)).1]):=by
 rw[tyGo,h];simp only[h2,if_true]
theorem tyGo_none {sg:List Sg} {n:Nd} {r:List Nd} {a:List Nat} {ar:List (List Nat)} {ts:List Ty} (h:ownT sg n=none):tyGo sg (n::r) (a::ar) ts=([],12):=by rw[tyGo,h]
theorem tyGo_bad {sg:List Sg} {n:Nd} {r:List Nd} {a:List Nat} {ar:List (List Nat)} {ts:List Ty} {own:Ty} (h:ownT sg n=some own) (h2:(ruleT n.op own (rowT ts a)).2=false):
  tyGo sg (n::r) (a::ar) ts=([],13):=by
 rw[tyGo,h];simp only[h2];rfl
theorem tyGo_len {sg:List Sg}:∀(r:List Nd) (ar:List (List Nat)) (ts:List Ty),ar.length=r.length->(tyGo sg r ar ts).2=0->(tyGo sg r ar ts).1.length=ts.length+r.length
 |[],[],ts,_,_=>rfl
 |n::r,a::ar,ts,hl,h=>by
  cases ho:ownT sg n with
  |none=>rw[tyGo_none ho] at h;cases h
  |some own=>
   cases h2:(ruleT n.op own (rowT ts a)).2 with
   |false=>rw[tyGo_bad ho h2] at h;cases h
   |true=>
    rw[tyGo_cons ho h2] at h⊢;rw[tyGo_len r ar _ (by simpa using hl) h];simp;omega
 |[],a::ar,ts,hl,_=>by simp at hl
 |n::r,[],ts,hl,_=>by simp at hl
def BoolIs (b:Bool) (w:World) (e:Ending) (w':World):Prop:=e=.returned (.bool b)/\Below w.heap.size w w'
theorem xNamed_any (n:Int) (w:World):Calls Tryz.prog 232 #[.int .i64 n] w (BoolIs (sigB n) w):=by
 unfold sigB;obtain⟨a,ha⟩:=zF (decide (n≥5));obtain⟨b,hb⟩:=zF (decide (n<=8));rw[Bool.decide_and,show decide (5<=n)=a from ha,hb];cases a<;>cases b<;>simp only[decide_eq_true_eq,decide_eq_false_iff_not] at ha hb
 all_goals
  go_enter Tryz.func232,Tryz.ntmps232;go_wp2;go_ret;exact⟨rfl,Below.refl _ _⟩
theorem xUnit_any (m d:Int) (w:World):Calls Tryz.prog 259 #[.agg #[.int .i64 m,.int .i64 d]] w (BoolIs (unitB m d) w):=by
 have hu:unitB m d=(decide (m≥-3)&&(decide (m<=3)&&(decide (d≥-3)&&decide (d<=3)))):=by
  unfold unitB;rw[Bool.eq_iff_iff];simp only[Bool.and_eq_true,decide_eq_true_eq];omega
 rw[hu];obtain⟨a,ha⟩:=zF (decide (m≥-3));obtain⟨b,hb⟩:=zF (decide (m<=3));obtain⟨c,hc⟩:=zF (decide (d≥-3));obtain⟨f,hf⟩:=zF (decide (d<=3));rw[ha,hb,hc,hf];clear hu;cases a<;>cases b<;>cases c<;>cases f<;>simp only[decide_eq_true_eq,decide_eq_false_iff_not] at ha hb hc hf
 all_goals try (exfalso;omega)
 all_goals
  go_enter Tryz.func259,Tryz.ntmps259
  go_upto_region 1 with fail
  generalize hX:w.alloc _=X;obtain⟨hk,hw⟩:=zA hX;have hk:=hk.cells;clear hX;go_wp2;go_ret;exact⟨rfl,hw⟩
theorem xRight_any (t:Ty) (w:World):Calls Tryz.prog 233 #[t.v] w (BoolIs (rightB t) w):=by
 obtain⟨t,m,d⟩:=t;unfold Ty.v rightB;simp only
 cases t
 ·simp only[Bool.false_eq_true,if_false]
  have HU:=zH (fun W=>xUnit_any m d W);go_enter Tryz.func233,Tryz.ntmps233
  go_upto_region 1 with fail
  generalize hX:w.alloc _=X;obtain⟨hk,hw⟩:=zA hX;have hk:=hk.cells;clear hX;go_wp2_with fail;refine (HU.out _).mono ?_;rintro e w1 ⟨rfl,hb⟩;go_wp2;go_ret;exact⟨rfl,bstep hw hb⟩
 ·rw[if_pos rfl,show decide ((⟨true,m,d⟩:Ty)=tTruth)=(decide (m=0)&&decide (d=0)) by unfold tTruth;rw[Bool.eq_iff_iff];simp];obtain⟨a,ha⟩:=zF (decide (m=0));obtain⟨b,hb⟩:=zF (decide (d=0));rw[ha,hb];cases a<;>cases b<;>simp only[decide_eq_true_eq,decide_eq_false_iff_not] at ha hb
  all_goals
   go_enter Tryz.func233,Tryz.ntmps233
   go_upto_region 1 with fail
   generalize hX:w.alloc _=X;obtain⟨hk,hw⟩:=zA hX;have hk:=hk.cells;clear hX;go_wp2;go_ret
   first|exact⟨rfl,hw⟩|exact⟨rfl,bstep hw (zB _ _)⟩
def fitR (op:Int) (nm:ByteArray) (s:Sg):Bool:=decide (s.op=op)&&(decide (s.name=nm)&&(sigB op&&(rightB s.ty&&(decide (op≠24)|| !s.ty.truth))))
def refF (l:List Sg) (op:Int) (nm:ByteArray):Option Ty:=(l.find? (fitR op nm)).map Sg.ty
theorem refF_eq (l:List Sg) (n:Nd):refF l n.op n.name=if sigB n.op then sigOf l n else none:=by
 unfold refF sigOf;cases h:sigB n.op
 ·rw[if_neg (by decide),List.find?_eq_none.2 (fun s _=>by unfold fitR;rw[h];simp)];rfl
 ·rw[if_pos rfl];congr 2
  funext s
  unfold fitR sigFit;rw[h];by_cases h1:s.op=n.op<;>simp[h1]
def FindIs (q:Option Ty) (w:World) (e:Ending) (w':World):Prop:=e=.returned (.tuple #[(q.getD tPlain).v,.bool q.isSome])/\Below w.heap.size w w'
theorem xFind_any (l:List Sg) (A:Option Addr) (k c:Nat) (nop:Int) (nnm:ByteArray) (w:World) (hk:k=l.length) (hm:k<=maxLen) (hr:Rd w A (sgs l)):
  Calls Tryz.prog 180 #[.slice A k c,.int .i64 nop,.string nnm] w (FindIs (refF l nop nnm) w):=by
 have HKL:=zH hk;have hm2:k<=9223372036854775807:=by unfold maxLen at hm;omega
 clear hk hm;go_enter Tryz.func180,Tryz.ntmps180
 go_upto_region 1 with fail
 generalize hX:w.alloc _=W;obtain⟨hk0,hbw⟩:=zA hX;have hle:w.heap.size<=w.heap.size:=Nat.le_refl _;generalize hB:w.heap.size=B at hk0 hle⊢;clear hX;rw[<-hB] at hle;go_wp2
 go_loopg [8] k (fun g iv wr=>∃j:Nat,j+g=k/\iv=.int .i64 j/\Below W.heap.size W wr/\Hid ((l.drop j).find? (fitR nop nnm)=l.find? (fitR nop nnm)))
 case atStart=>exact⟨0,by omega,rfl,Below.refl _ _,rfl⟩
 case round=>
  obtain⟨j,hj,rfl,hbr,hf⟩:=hrel;have hmB:=hk0.below hbr hk0.lt
  have HBE:Hid (∀X v0 v1 v2,Below W.heap.size W X->Below w.heap.size w (((X.setCell ⟨B,0,none⟩ v0).setCell ⟨B,1,none⟩ v1).setCell ⟨B,2,none⟩ v2)):=fun X v0 v1 v2 h=>by
   have h:=bstep hbw h;have hl:w.heap.size<=B:=Nat.le_of_eq hB;exact ((h.setCell (p:=⟨B,0,none⟩) hl v0).setCell (p:=⟨B,1,none⟩) hl v1).setCell (p:=⟨B,2,none⟩) hl v2
  by_cases hlt:j<k
  ·have hjl:j<l.length:=by rw[<-HKL.out];exact hlt
   obtain⟨b,off,hA,hb,hc⟩:=Rd.row Sg.cells 5 (fun _=>rfl) (by omega) hr hjl;subst hA;have hf2:=hf.out;rw[List.drop_eq_getElem_cons hjl,List.find?_cons] at hf2;replace hf:=zH hf2;generalize l[j]=s at*;obtain⟨sop,snm,⟨st,sm,sd⟩⟩:=s;have hbr0:=bstep hbw hbr;have d0:=(hbr0.cell (p:=⟨b,off+j*5+0,none⟩) hb).trans (hc 0 _ rfl);have d1:=(hbr0.cell (p:=⟨b,off+j*5+1,none⟩) hb).trans (hc 1 _ rfl);have d2:=(hbr0.cell (p:=⟨b,off+j*5+2,none⟩) hb).trans (hc 2 _ rfl);have d3:=(hbr0.cell (p:=⟨b,off+j*5+3,none⟩) hb).trans (hc 3 _ rfl);have d4:=(hbr0.cell (p:=⟨b,off+j*5+4,none⟩) hb).trans (hc 4 _ rfl);simp only[Nat.add_zero] at d0;clear hc hbr0 hf2 hmB
   go_upto_region 5 with fail
   generalize hX:wr.alloc _=W5;obtain⟨hk5,hb5⟩:=zA hX;replace hbr:=bstep hbr hb5;generalize wr.heap.size=N at hk5⊢;clear hX hb5 d0 d1 d2 d3 d4
   go_cut [8,48] from 10 to 50 (fun jv qv X=>jv=.int .i64 (j:Int)/\qv=.bool (fitR nop nnm ⟨sop,snm,⟨st,sm,sd⟩⟩)/\Below W5.heap.size W5 X)
   case first=>
    have hc2:=hk5.cells;by_cases h1:sop=nop
    ·subst h1;by_cases h2:snm=nnm
     ·subst h2;have HE:Hid (fitR sop snm ⟨sop,snm,⟨st,sm,sd⟩⟩=(sigB sop&&(rightB ⟨st,sm,sd⟩&&(decide (sop≠24)|| !st)))):=by show _=_;unfold fitR;simp
      obtain⟨o,ho⟩:=zF (sigB sop);obtain⟨r,hr'⟩:=zF (rightB ⟨st,sm,sd⟩);rw[ho,hr'] at HE;go_wp2_with fail;refine (xNamed_any sop _).mono ?_;rw[ho];rintro e w6 ⟨rfl,hb6⟩;have hc2:=(hk5.below hb6 hk5.lt).cells;clear ho;cases o
      ·go_wp2
       go_meet
       case rel=>exact⟨rfl,by rw[HE.out];rfl,hb6⟩
      ·go_wp2_with fail;refine (xRight_any ⟨st,sm,sd⟩ _).mono ?_;rw[hr'];rintro e w7 ⟨rfl,hb7⟩;replace hb6:=bstep hb6 hb7;have hc2:=(hk5.below hb6 hk5.lt).cells;clear hr' hb7;cases r
       ·go_wp2
        go_meet
        case rel=>exact⟨rfl,by rw[HE.out];rfl,hb6⟩
       ·by_cases h3:sop=24
        ·subst h3;go_wp2
         go_meet
         case rel=>exact⟨rfl,by rw[HE.out];rfl,hb6⟩
        ·have h3b:(sop !=24)=true:=by simp[h3]
         have h3c:(sop==24)=false:=by simp[h3]
         rw[decide_eq_true h3] at HE;clear h3;go_wp2
         go_meet
         case rel=>exact⟨rfl,by rw[HE.out];rfl,hb6⟩
     ·have h2b:¬(snm.toList=nnm.toList):=fun h=>h2 (by rw[ByteArray.toList_eq,ByteArray.toList_eq] at h;exact ByteArray.ext (Array.toList_inj.1 h))
      have h2c:(snm.toList==nnm.toList)=false:=beq_eq_false_iff_ne.2 h2b;have HE:Hid (fitR sop nnm ⟨sop,snm,⟨st,sm,sd⟩⟩=false):=by show _=_;unfold fitR;simp[h2]
      go_wp2
      go_meet
      case rel=>exact⟨rfl,by rw[HE.out],Below.refl _ _⟩
    ·have h1b:(sop==nop)=false:=beq_eq_false_iff_ne.2 h1;have HE:Hid (fitR nop nnm ⟨sop,snm,⟨st,sm,sd⟩⟩=false):=by show _=_;unfold fitR;simp[h1]
     go_wp2
     go_meet
     case rel=>exact⟨rfl,by rw[HE.out],Below.refl _ _⟩
   case rest=>
    obtain⟨rfl,hq,hbc⟩:=hcut;have hf2:=hf.out;have hm2':=hk5.below hbc hk5.lt;replace hbr:=bstep hbr hbc;cases hff:fitR nop nnm ⟨sop,snm,⟨st,sm,sd⟩⟩
    ·rw[hff] at hf2 hq;subst hq;replace hf:=zH hf2;clear hm2' hbc hf2 hff;go_wp2
     go_roundg (k-(j+1))
     case measure=>omega
     case rel=>exact⟨j+1,by omega,by go_num,hbr,hf⟩
    ·rw[hff] at hf2 hq;subst hq;have HQ:Hid (refF l nop nnm=some ⟨st,sm,sd⟩):=by show _=_;unfold refF;rw[<-hf2];rfl
     have hmB:=hk0.below hbr hk0.lt;have hc1:=hmB.cells;have hf1:=hmB.froz;have hc2:=hm2'.cells;clear hm2' hbc hmB hf2 hf hff hB;go_wp2;refine bodyPost_ret (v:=.tuple #[.agg #[.bool st,.int .i64 sm,.int .i64 sd],.bool true]) (by simp[results,Tryz.results180,go_sem,hc1]) rfl ⟨by rw[HQ.out];rfl,HBE.out _ _ _ _ hbr⟩
  ·obtain rfl:j=k:=by omega
   have hf2:=hf.out;rw[HKL.out,List.drop_length] at hf2;have HQ:Hid (refF l nop nnm=none):=by show _=_;unfold refF;rw[<-hf2];rfl
   have hc1:=hmB.cells;have hf1:=hmB.froz;clear hmB hf2 hf hB;go_wp2;refine bodyPost_ret (v:=.tuple #[.agg #[.bool false,.int .i64 0,.int .i64 0],.bool false]) (by simp[results,Tryz.results180,go_sem,hc1]) rfl ⟨by rw[HQ.out];rfl,HBE.out _ _ _ _ hbr⟩
structure TsAt (w:World) (ts:List Ty) (A:Option Addr) (n c:Nat):Prop where
 len:n=ts.length
 cap:n<=c
 max:c<=maxLen
 rd:Rd w A (tys ts)
theorem TsAt.below {w w':World} {ts:List Ty} {A:Option Addr} {n c:Nat} (h:TsAt w ts A n c) (hb:Below w.heap.size w w'):TsAt w' ts A n c:=⟨h.len,h.cap,h.max,h.rd.below hb⟩
theorem TsAt.at {w:World} {ts:List Ty} {A:Option Addr} {n c j:Nat} (k:TsAt w ts A n c) (hj:j<n):∃b off,A=some ⟨b,off,none⟩/\b<w.heap.size/\∀X,Below w.heap.size w X->X.cell? ⟨b,off+j*3,none⟩=some (.bool (ts.getD j tPlain).truth)/\X.cell? ⟨b,off+j*3+1,none⟩=some (.int .i64 (ts.getD j tPlain).money)/\X.cell? ⟨b,off+j*3+2,none⟩=some (.int .i64 (ts.getD j tPlain).days):=by
 have hx:j<ts.length:=by rw[<-k.len];exact hj
 obtain⟨b,off,hA,hb,hc⟩:=Rd.row Ty.cells 3 (fun _=>rfl) (by omega) k.rd hx;have e:ts.getD j tPlain=ts[j]:=by rw[List.getD_eq_getElem?_getD,List.getElem?_eq_getElem hx];rfl
 rw[e];have hd:=fun X (hX:Below w.heap.size w X) i v hv=>(hX.cell (p:=⟨b,off+j*3+i,none⟩) hb).trans (hc i v hv)
 exact⟨b,off,hA,hb,fun X hX=>⟨hd X hX 0 _ rfl,hd X hX 1 _ rfl,hd X hX 2 _ rfl⟩⟩
end Go.Proofs.YtimokmplkpbmdaaGreatDoor
