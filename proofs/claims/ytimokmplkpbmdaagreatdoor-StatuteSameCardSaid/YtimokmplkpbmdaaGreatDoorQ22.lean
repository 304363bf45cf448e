/- A part of the proof: K3 K4 K5 K6 K8 K9 Y1 Y2 Y5. -/
import Derived.Deep.AppendLies
import Derived.Test.YtimokmplkpbmdaaGreatDoorQ16
import Derived.Test.YtimokmplkpbmdaaGreatDoorQ21
set_option linter.all false
set_option maxRecDepth 100000
set_option maxHeartbeats 0
namespace Go.Proofs.YtimokmplkpbmdaaGreatDoor
open Go.RowKit
def tys (l:List Ty):List Value:=l.flatMap Ty.cells
def jL (k:Int):Bool:=decide (5<=k/\k<=8)||decide (k=24)
def tA (l:List Ty):Ty:=l.getD 0 bV
def tB (l:List Ty):Ty:=l.getD 1 bV
def tC (l:List Ty):Ty:=l.getD 2 bV
def fH (k:Int) (own:Ty) (l:List Ty):Ty × Bool:=
 if k=1 then (bT,true) else if k=2 then (ug,true) else if k=3 then (bV,true) else if k=4 then (bG,true)
 else if k<=8 then (own,true)
 else if k=11 then (⟨false,(tA l).aN+(tB l).aN,(tA l).days+(tB l).days⟩, !(tA l).truth&&(!(tB l).truth&&gu ((tA l).aN+(tB l).aN) ((tA l).days+(tB l).days)))
 else if k=12 then (⟨false,(tA l).aN-(tB l).aN,(tA l).days-(tB l).days⟩, !(tA l).truth&&(!(tB l).truth&&gu ((tA l).aN-(tB l).aN) ((tA l).days-(tB l).days)))
 else if k<=14 then (tA l,decide (tA l=tB l)&& !(tA l).truth)
 else if k=15 then (tB l,decide (tA l=bG)&&decide (tB l=tC l))
 else if k=16 then (bG,decide (tA l=tB l)&& !(tA l).truth)
 else if k=17 then (bG,decide (tA l=tB l))
 else if k<=20 then (bG,l.all fun t=>decide (t=bG))
 else if k<=23 then (tA l, !(tA l).truth)
 else (own,decide (tA l=own))
theorem GZ {t:Ty} (h:bH t=true):-3<=t.aN/\t.aN<=3/\-3<=t.days/\t.days<=3:=by
 unfold bH at h;split at h
 ·have:=of_decide_eq_true h;rw[this];unfold bG;exact⟨by decide,by decide,by decide,by decide⟩
 ·unfold gu at h;rw[Bool.and_eq_true,decide_eq_true_eq,decide_eq_true_eq] at h;omega
theorem Rd.ty {w:World} {A:Option Addr} {l:List Ty} (h:Rd w A (tys l)) {j:Nat} (hj:j<l.length):
  ∃b off,A=some ⟨b,off,none⟩/\b<w.heap.size/\w.cell? ⟨b,off+j*3,none⟩=some (.bool l[j].truth)/\w.cell? ⟨b,off+j*3+1,none⟩=some (.int .i64 l[j].aN)/\w.cell? ⟨b,off+j*3+2,none⟩=some (.int .i64 l[j].days):=by
 obtain⟨b,off,hA,hb,hc⟩:=Rd.row Ty.cells 3 (fun _=>rfl) (by omega) h hj;exact⟨b,off,hA,hb,hc 0 _ rfl,hc 1 _ rfl,hc 2 _ rfl⟩
theorem sO (fn:Fn) (a c:Array Value) (w:World):(Instr.makeFunc fn a c).run Tryz.prog w=.ok (.func fn a c) w:=rfl
theorem sQ (p:Addr) (fn:Fn) (a c:Array Value) (m:Mode) (w:World):(store p (.func fn a c) m).run Tryz.prog w=stored Tryz.prog w p (.func fn a c) m:=run_store _ w p _ m rfl
theorem Pn (t:Ty) (w:World):Calls Tryz.prog 192 #[t.v] w fun e w'=>e=.returned t.v/\Below w.heap.size w w':=by
 obtain⟨tr,m,d⟩:=t;unfold Ty.v;simp only
 have HB:=zH (((Below.refl w.heap.size w).alloc (Nat.le_refl _) (.cells #[.bool tr,.int .i64 m,.int .i64 d] 34)).alloc (by rw[World.size_alloc];omega) (.cells #[.bool tr,.int .i64 m,.int .i64 d] 34));go_enter Tryz.func192,Tryz.ntmps192;go_wp2;refine bodyPost_ret (v:=.agg #[.bool tr,.int .i64 m,.int .i64 d]) (by simp[results,Tryz.results192,go_sem]) rfl ?_;exact⟨rfl,HB.out⟩
theorem KP (t:Ty) (w:World) (hL:cZ w):Calls Tryz.prog 195 #[t.v] w fun e w'=>e=.returned bG.v/\Below w.heap.size w w':=by
 obtain⟨tr,m,d⟩:=t;have hl:=(hL.alloc (.cells #[.bool tr,.int .i64 m,.int .i64 d] 34)).alloc (.cells #[.bool false,.int .i64 0,.int .i64 0] 34);have g0:=hl.truth 0 _ rfl;have g1:=hl.truth 1 _ rfl;have g2:=hl.truth 2 _ rfl;unfold bG at g0 g1 g2⊢;unfold Ty.v;simp only at g0 g1 g2⊢;clear hl hL;have HB:=zH (((Below.refl w.heap.size w).alloc (Nat.le_refl _) (.cells #[.bool tr,.int .i64 m,.int .i64 d] 34)).alloc (by rw[World.size_alloc];omega) (.cells #[.bool true,.int .i64 0,.int .i64 0] 34));go_enter Tryz.func195,Tryz.ntmps195;go_wp2;refine bodyPost_ret (v:=.agg #[.bool true,.int .i64 0,.int .i64 0]) (by simp[results,Tryz.results195,go_sem]) rfl ?_;exact⟨rfl,HB.out⟩
theorem uh (t:Ty) (w:World):Calls Tryz.prog 189 #[t.v] w fun e w'=>∃b,e=.returned (.agg #[.bool false,.func (.func 241) #[] #[.pointer (some ⟨b,0,none⟩)]])/\aj w' b 34 t.cells/\w.heap.size<=b/\Below w.heap.size w w':=by
 obtain⟨tr,m,d⟩:=t;unfold Ty.v Ty.cells;simp only
 have HB:=fun v=>zH (((Below.refl w.heap.size w).alloc (Nat.le_refl _) (.cells #[.bool tr,.int .i64 m,.int .i64 d] 34)).alloc (by rw[World.size_alloc];omega) (.cells #[.bool false,v] 224))
 have HK:=fun o=>zH ((aj.new w 34 #[.bool tr,.int .i64 m,.int .i64 d]).alloc o)
 have hmf:=sO;have hsf:=sQ;go_enter Tryz.func189,Tryz.ntmps189;go_wp2;refine bodyPost_ret (v:=.agg #[.bool false,.func (.func 241) #[] #[.pointer (some ⟨w.heap.size,0,none⟩)]]) (by simp[results,Tryz.results189,go_sem]) rfl ?_;exact⟨_,rfl,(HK _).out,Nat.le_refl _,(HB _).out⟩
theorem qZ (t own:Ty) (x:Value) (b:Nat) (w:World) (h:aj w b 34 t.cells):Calls Tryz.prog 241 #[own.v,x,.pointer (some ⟨b,0,none⟩)] w fun e w'=>e=.returned (.tuple #[t.v,.bool true])/\Below w.heap.size w w':=by
 obtain⟨tr,m,d⟩:=t;obtain⟨tr',m',d'⟩:=own;unfold Ty.v;unfold Ty.cells at h;simp only at h⊢;have hc:=((h.alloc (.cells #[.bool tr',.int .i64 m',.int .i64 d'] 34)).alloc (.cells #[.bool false,.int .i64 0,.int .i64 0] 34)).cells;have HB:=zH (((Below.refl w.heap.size w).alloc (Nat.le_refl _) (.cells #[.bool tr',.int .i64 m',.int .i64 d'] 34)).alloc (by rw[World.size_alloc];omega) (.cells #[.bool tr,.int .i64 m,.int .i64 d] 34));clear h;go_enter Tryz.func241,Tryz.ntmps241;go_wp2;refine bodyPost_ret (v:=.tuple #[.agg #[.bool tr,.int .i64 m,.int .i64 d],.bool true]) (by simp[results,Tryz.results241,go_sem]) rfl ?_;exact⟨rfl,HB.out⟩
theorem vN (w:World):Calls Tryz.prog 190 #[] w fun e w'=>e=.returned (.agg #[.bool true,.func (.func 242) #[] #[]])/\Below w.heap.size w w':=by
 have HB:=fun v=>zH ((Below.refl w.heap.size w).alloc (Nat.le_refl _) (.cells #[.bool true,v] 224))
 have hmf:=sO;have hsf:=sQ;go_enter Tryz.func190,Tryz.ntmps190;go_wp2;refine bodyPost_ret (v:=.agg #[.bool true,.func (.func 242) #[] #[]]) (by simp[results,Tryz.results190,go_sem]) rfl ?_;exact⟨rfl,(HB _).out⟩
theorem Po (own:Ty) (x:Value) (w:World):Calls Tryz.prog 242 #[own.v,x] w fun e w'=>e=.returned (.tuple #[own.v,.bool true])/\Below w.heap.size w w':=by
 obtain⟨tr,m,d⟩:=own;unfold Ty.v;simp only
 have HB:=zH (((Below.refl w.heap.size w).alloc (Nat.le_refl _) (.cells #[.bool tr,.int .i64 m,.int .i64 d] 34)).alloc (by rw[World.size_alloc];omega) (.cells #[.bool tr,.int .i64 m,.int .i64 d] 34));go_enter Tryz.func242,Tryz.ntmps242;go_wp2;refine bodyPost_ret (v:=.tuple #[.agg #[.bool tr,.int .i64 m,.int .i64 d],.bool true]) (by simp[results,Tryz.results242,go_sem]) rfl ?_;exact⟨rfl,HB.out⟩
theorem rC (f:Nat) (w:World):Calls Tryz.prog 191 #[.func (.func f) #[] #[]] w fun e w'=>∃b,e=.returned (.agg #[.bool false,.func (.func 243) #[] #[.pointer (some ⟨b,0,none⟩)]])/\aj w' b 255 [.func (.func f) #[] #[]]/\w.heap.size<=b/\Below w.heap.size w w':=by
 have HB:=fun v=>zH (((Below.refl w.heap.size w).alloc (Nat.le_refl _) (.cells #[.func (.func f) #[] #[]] 255)).alloc (by rw[World.size_alloc];omega) (.cells #[.bool false,v] 224))
 have HK:=fun o=>zH ((aj.new w 255 #[.func (.func f) #[] #[]]).alloc o)
 have hmf:=sO;have hsf:=sQ;go_enter Tryz.func191,Tryz.ntmps191;go_wp2;refine bodyPost_ret (v:=.agg #[.bool false,.func (.func 243) #[] #[.pointer (some ⟨w.heap.size,0,none⟩)]]) (by simp[results,Tryz.results191,go_sem]) rfl ?_;exact⟨_,rfl,(HK _).out,Nat.le_refl _,(HB _).out⟩
theorem Cb (s:Int) (w:World):Calls Tryz.prog 193 #[.int .i64 s] w fun e w'=>∃b,e=.returned (.agg #[.bool false,.func (.func 244) #[] #[.pointer (some ⟨b,0,none⟩)]])/\aj w' b 3 [.int .i64 s]/\w.heap.size<=b/\Below w.heap.size w w':=by
 have HB:=fun v=>zH (((Below.refl w.heap.size w).alloc (Nat.le_refl _) (.cells #[.int .i64 s] 3)).alloc (by rw[World.size_alloc];omega) (.cells #[.bool false,v] 224))
 have HK:=fun o=>zH ((aj.new w 3 #[.int .i64 s]).alloc o)
 have hmf:=sO;have hsf:=sQ;go_enter Tryz.func193,Tryz.ntmps193;go_wp2;refine bodyPost_ret (v:=.agg #[.bool false,.func (.func 244) #[] #[.pointer (some ⟨w.heap.size,0,none⟩)]]) (by simp[results,Tryz.results193,go_sem]) rfl ?_;exact⟨_,rfl,(HK _).out,Nat.le_refl _,(HB _).out⟩
theorem yE (w:World):Calls Tryz.prog 197 #[] w fun e w'=>e=.returned (.agg #[.bool false,.func (.func 245) #[] #[]])/\Below w.heap.size w w':=by
 have HB:=fun v=>zH ((Below.refl w.heap.size w).alloc (Nat.le_refl _) (.cells #[.bool false,v] 224))
 have hmf:=sO;have hsf:=sQ;go_enter Tryz.func197,Tryz.ntmps197;go_wp2;refine bodyPost_ret (v:=.agg #[.bool false,.func (.func 245) #[] #[]]) (by simp[results,Tryz.results197,go_sem]) rfl ?_;exact⟨rfl,(HB _).out⟩
theorem wS (w:World):Calls Tryz.prog 198 #[] w fun e w'=>e=.returned (.agg #[.bool false,.func (.func 246) #[] #[]])/\Below w.heap.size w w':=by
 have HB:=fun v=>zH ((Below.refl w.heap.size w).alloc (Nat.le_refl _) (.cells #[.bool false,v] 224))
 have hmf:=sO;have hsf:=sQ;go_enter Tryz.func198,Tryz.ntmps198;go_wp2;refine bodyPost_ret (v:=.agg #[.bool false,.func (.func 246) #[] #[]]) (by simp[results,Tryz.results198,go_sem]) rfl ?_;exact⟨rfl,(HB _).out⟩
structure MQ (w:World) (b off:Nat) (t:Ty):Prop where
 lt:b<w.heap.size
 c0:w.cell? ⟨b,off,none⟩=some (.bool t.truth)
 c1:w.cell? ⟨b,off+1,none⟩=some (.int .i64 t.aN)
 c2:w.cell? ⟨b,off+2,none⟩=some (.int .i64 t.days)
theorem MQ.below {w w':World} {b off:Nat} {t:Ty} (h:MQ w b off t) (hb:Below w.heap.size w w'):MQ w' b off t:=
 ⟨Nat.lt_of_lt_of_le h.lt hb.size,(hb.cell h.lt).trans h.c0,(hb.cell h.lt).trans h.c1,(hb.cell h.lt).trans h.c2⟩
theorem Rd.IV {w:World} {A:Option Addr} {l:List Ty} (h:Rd w A (tys l)) (hl:0<l.length):∃b off,A=some ⟨b,off,none⟩/\∀j (hj:j<l.length),MQ w b (off+j*3) l[j]:=by
 obtain⟨b,off,hA,hb,_⟩:=h.ty hl;refine⟨b,off,hA,fun j hj=>?_⟩;obtain⟨b',off',hA',hb',h0,h1,h2⟩:=h.ty hj;rw[hA] at hA';injection hA' with hA';injection hA' with h3 h4;subst h3 h4;exact⟨hb',h0,h1,h2⟩
theorem gY {w W:World} {B:Nat} (h:Below w.heap.size w W) (hB:w.heap.size<=B) (v0 v1 v2:Value):Below w.heap.size w (((W.setCell ⟨B,0,none⟩ v0).setCell ⟨B,1,none⟩ v1).setCell ⟨B,2,none⟩ v2):=
 ((h.setCell (p:=⟨B,0,none⟩) hB v0).setCell (p:=⟨B,1,none⟩) hB v1).setCell (p:=⟨B,2,none⟩) hB v2
theorem Cc {P:Program} {ops:Array Oper} {Q:Exit->Act->World->Prop} {md:Region.Mode} {S:World->Prop} {x:Nat} {l:Array Bool} {i:Nat} {oi:Oper} {f:Nat} {a a':Act} {w:World} (h:dw P md ops Q S x f (l.setIfInBounds i true) a' w)
  (hn:ops.size-(f+1)=i:=by ((try simp only[List.size_toArray,List.length_cons,List.length_nil,Nat.reduceAdd,Nat.reduceSub]);rfl)) (hi:ops[i]?=some oi:=by rfl)
  (ha:a.put oi.dst undef=a':=by ((try simp only[Act.put,tk1,tk2,tk3,tk4,gU,gV]);rfl))
  (hs:Region.noSelect ops=true:=by kernel_rfl) (hf:Region.free md ops l i=true:=by kernel_rfl) (hr:(Region.ready md ops l).contains i=true:=by kernel_rfl)
  (hw:Region.wanted oi (yielded ops a.tmps)=false:=by kernel_rfl) (hS:S w:=by assumption) (hQ:∀c a w,Q (.panic c) (a.put oi.dst undef) w->Q (.panic c) a w:=by exact fun _ _ _ h=>h)
  (hx:(decide (ops.size<=x)||dep ops md l i ops.size x)=true:=by kernel_rfl):dw P md ops Q S x (f+1) l a w:=oh i h hi ha hs hf hr hw hS hQ hx
structure jS (w:World) (own:Ty) (X:World):Prop where
 o:aj X w.heap.size 34 [.bool own.truth,.int .i64 own.aN,.int .i64 own.days]
 r:∃x y z,aj X (w.heap.size+1) 34 [x,y,z]
 w:Below w.heap.size w X
section
variable {w W X:World} {own t:Ty} {b off:Nat}
theorem jS.new (h:(w.alloc (.cells #[.bool own.truth,.int .i64 own.aN,.int .i64 own.days] 34)).alloc (.cells #[.bool false,.int .i64 0,.int .i64 0] 34)=W):jS w own W:=by
 subst h;refine⟨(aj.new w _ _).alloc _,?_,(zB w _).alloc (by rw[World.size_alloc];omega) _⟩;have h:=aj.new (w.alloc (.cells #[.bool own.truth,.int .i64 own.aN,.int .i64 own.days] 34)) 34 #[.bool false,.int .i64 0,.int .i64 0];rw[World.size_alloc] at h;exact⟨_,_,_,h⟩
theorem jS.below (h:jS w own W) (hb:Below W.heap.size W X):jS w own X:=by
 obtain⟨h1,⟨x,y,z,h2⟩,h3⟩:=h;exact⟨h1.below hb h1.lt,⟨x,y,z,h2.below hb h2.lt⟩,ah h3 hb⟩
theorem jS.ty (h:jS w own X) (q:MQ w b off t):X.cell? ⟨b,off,none⟩=some (.bool t.truth)/\X.cell? ⟨b,off+1,none⟩=some (.int .i64 t.aN)/\X.cell? ⟨b,off+2,none⟩=some (.int .i64 t.days):=
 have p:=q.below h.w;⟨p.c0,p.c1,p.c2⟩
theorem jS.put (h:jS w own X) (v0 v1 v2:Value):jS w own (((X.setCell ⟨w.heap.size+1,0,none⟩ v0).setCell ⟨w.heap.size+1,1,none⟩ v1).setCell ⟨w.heap.size+1,2,none⟩ v2):=by
 obtain⟨h1,⟨x,y,z,h2⟩,h3⟩:=h;have e:∀{Y:World} (i:Nat) (v:Value),aj Y w.heap.size 34 [.bool own.truth,.int .i64 own.aN,.int .i64 own.days]->aj (Y.setCell ⟨w.heap.size+1,i,none⟩ v) w.heap.size 34 [.bool own.truth,.int .i64 own.aN,.int .i64 own.days]:=fun i v hY=>((aF.refl (w.heap.size+1) _).set _ _).blk hY (by omega)
 exact⟨e _ _ (e _ _ (e _ _ h1)),⟨v0,v1,v2,((h2.set 0 v0).set 1 v1).set 2 v2⟩,gY h3 (by omega) _ _ _⟩
end
theorem KQ (own a:Ty) (A:Option Addr) (c:Nat) (w:World) (hr:Rd w A (tys [a])) (hc:1<=c):Calls Tryz.prog 246 #[own.v,.slice A 1 c] w fun e w'=>e=.returned (.tuple #[a.v,.bool (!a.truth)])/\Below w.heap.size w w':=by
 obtain⟨b,off,rfl,hat⟩:=hr.IV (by simp);have q0:=hat 0 (by simp);simp only[List.getElem_cons_zero,List.getElem_cons_succ,Nat.zero_mul,Nat.add_zero,Nat.one_mul] at q0;obtain⟨tr,m,d⟩:=own;obtain⟨at_,am,ad⟩:=a;have hc:=fun X (h:jS w ⟨tr,m,d⟩ X)=>h.ty q0
 simp only[bG] at hc;unfold Ty.v;go_enter Tryz.func246,Tryz.ntmps246
 go_upto_region 1 with fail
 generalize hX:(w.alloc _).alloc _=W;have hfr:=jS.new (own:=⟨tr,m,d⟩) hX;clear hX;refine dN (jS w ⟨tr,m,d⟩) 99 (hfr.below (ak _ _ 1)) (fun X _ hS=>?_)
 iterate 8 refine aW ?_
 obtain⟨x0,x1,x2,hr⟩:=hS.r;have hcr:=hr.cells;have MR:=hr.aI;refine iL 8 (fun _=>hS.put _ _ _) (fun h=>?_);have hS2:=h (by decide);refine aW ?_;refine dH ?_;go_wp2;refine bodyPost_ret (v:=.tuple #[.agg #[.bool at_,.int .i64 am,.int .i64 ad],.bool (!at_)]) (by simp[results,Tryz.results246,go_sem,hcr]) rfl ⟨rfl,?_⟩;exact gY hS.w (by omega) _ _ _
theorem Ua (own a:Ty) (A:Option Addr) (c:Nat) (w:World) (hr:Rd w A (tys [a])) (hc:1<=c):Calls Tryz.prog 199 #[own.v,.slice A 1 c] w fun e w'=>e=.returned (.tuple #[own.v,.bool (decide (a=own))])/\Below w.heap.size w w':=by
 obtain⟨b,off,rfl,hat⟩:=hr.IV (by simp);have q0:=hat 0 (by simp);simp only[List.getElem_cons_zero,List.getElem_cons_succ,Nat.zero_mul,Nat.add_zero,Nat.one_mul] at q0;obtain⟨tr,m,d⟩:=own;obtain⟨at_,am,ad⟩:=a;have hc:=fun X (h:jS w ⟨tr,m,d⟩ X)=>And.intro (h.ty q0) (And.intro ((h.o.cells 0)) (And.intro ((h.o.cells 1)) ((h.o.cells 2))))
 simp only[bG] at hc;obtain⟨MV,wU⟩:=zF (decide ((⟨at_,am,ad⟩:Ty)=⟨tr,m,d⟩));have Ce:=fun W=>uI ⟨at_,am,ad⟩ ⟨tr,m,d⟩ W
 simp only[wU,Ty.v] at Ce⊢;clear wU;go_enter Tryz.func199,Tryz.ntmps199
 go_upto_region 1 with fail
 generalize hX:(w.alloc _).alloc _=W;have hfr:=jS.new (own:=⟨tr,m,d⟩) hX;clear hX;refine dN (jS w ⟨tr,m,d⟩) 99 (hfr.below (ak _ _ 1)) (fun X _ hS=>?_)
 iterate 6 refine aW ?_
 obtain⟨x0,x1,x2,hr⟩:=hS.r;have hcr:=hr.cells;have MR:=hr.aI;refine iL 6 (fun _=>hS.put _ _ _) (fun h=>?_);have hS2:=h (by decide);refine aW ?_;refine dH ?_;go_wp2;refine bodyPost_ret (v:=.tuple #[.agg #[.bool tr,.int .i64 m,.int .i64 d],.bool MV]) (by simp[results,Tryz.results199,go_sem,hcr]) rfl ⟨rfl,?_⟩;exact gY hS.w (by omega) _ _ _
theorem Ub (own a b':Ty) (A:Option Addr) (c:Nat) (w:World) (hL:cZ w) (hr:Rd w A (tys [a,b'])) (hc:2<=c):Calls Tryz.prog 196 #[own.v,.slice A 2 c] w fun e w'=>e=.returned (.tuple #[bG.v,.bool (decide (a=b'))])/\Below w.heap.size w w':=by
 obtain⟨b,off,rfl,hat⟩:=hr.IV (by simp);have q0:=hat 0 (by simp);have q1:=hat 1 (by simp);simp only[List.getElem_cons_zero,List.getElem_cons_succ,Nat.zero_mul,Nat.add_zero,Nat.one_mul] at q0 q1;obtain⟨tr,m,d⟩:=own;obtain⟨at_,am,ad⟩:=a;obtain⟨bt,bm,bd⟩:=b';have hc:=fun X (h:jS w ⟨tr,m,d⟩ X)=>And.intro (h.ty q0) (And.intro (h.ty q1) (And.intro ((hL.below h.w).truth 0 _ rfl) (And.intro ((hL.below h.w).truth 1 _ rfl) ((hL.below h.w).truth 2 _ rfl))))
 simp only[bG] at hc;unfold bG;obtain⟨MV,wU⟩:=zF (decide ((⟨at_,am,ad⟩:Ty)=⟨bt,bm,bd⟩));have Ce:=fun W=>uI ⟨at_,am,ad⟩ ⟨bt,bm,bd⟩ W
 simp only[wU,Ty.v] at Ce⊢;clear wU;go_enter Tryz.func196,Tryz.ntmps196
 go_upto_region 1 with fail
 generalize hX:(w.alloc _).alloc _=W;have hfr:=jS.new (own:=⟨tr,m,d⟩) hX;clear hX;refine dN (jS w ⟨tr,m,d⟩) 99 (hfr.below (ak _ _ 1)) (fun X _ hS=>?_)
 iterate 8 refine aW ?_
 obtain⟨x0,x1,x2,hr⟩:=hS.r;have hcr:=hr.cells;have MR:=hr.aI;refine iL 8 (fun _=>hS.put _ _ _) (fun h=>?_);have hS2:=h (by decide);refine aW ?_;refine dH ?_;go_wp2;refine bodyPost_ret (v:=.tuple #[.agg #[.bool true,.int .i64 0,.int .i64 0],.bool MV]) (by simp[results,Tryz.results196,go_sem,hcr]) rfl ⟨rfl,?_⟩;exact gY hS.w (by omega) _ _ _
theorem acN (own a b' c':Ty) (A:Option Addr) (c:Nat) (w:World) (hL:cZ w) (hr:Rd w A (tys [a,b',c'])) (hc:3<=c):Calls Tryz.prog 194 #[own.v,.slice A 3 c] w fun e w'=>e=.returned (.tuple #[b'.v,.bool (decide (a=bG)&&decide (b'=c'))])/\Below w.heap.size w w':=by
 obtain⟨b,off,rfl,hat⟩:=hr.IV (by simp);have q0:=hat 0 (by simp);have q1:=hat 1 (by simp);have q2:=hat 2 (by simp);simp only[List.getElem_cons_zero,List.getElem_cons_succ,Nat.zero_mul,Nat.add_zero,Nat.one_mul] at q0 q1 q2;obtain⟨tr,m,d⟩:=own;obtain⟨at_,am,ad⟩:=a;obtain⟨bt,bm,bd⟩:=b';obtain⟨ct,cm,cd⟩:=c';have hc:=fun X (h:jS w ⟨tr,m,d⟩ X)=>And.intro (h.ty q0) (And.intro (h.ty q1) (And.intro (h.ty q2) (And.intro ((hL.below h.w).truth 0 _ rfl) (And.intro ((hL.below h.w).truth 1 _ rfl) ((hL.below h.w).truth 2 _ rfl)))))
 simp only[bG] at hc;unfold bG;obtain⟨MV,wU⟩:=zF (decide ((⟨at_,am,ad⟩:Ty)=⟨true,0,0⟩));have Ce:=fun W=>uI ⟨at_,am,ad⟩ ⟨true,0,0⟩ W
 simp only[wU,Ty.v] at Ce⊢;obtain⟨dq1,aeu⟩:=zF (decide ((⟨bt,bm,bd⟩:Ty)=⟨ct,cm,cd⟩));have nR:=fun W=>uI ⟨bt,bm,bd⟩ ⟨ct,cm,cd⟩ W
 simp only[aeu,Ty.v] at nR⊢;clear wU aeu;go_enter Tryz.func194,Tryz.ntmps194
 go_upto_region 1 with fail
 generalize hX:(w.alloc _).alloc _=W;have hfr:=jS.new (own:=⟨tr,m,d⟩) hX;clear hX;refine dN (jS w ⟨tr,m,d⟩) 99 (hfr.below (ak _ _ 1)) (fun X _ hS=>?_)
 iterate 9 refine aW ?_
 cases MV
 iterate 7 refine Cc ?_
 rotate_left
 iterate 7 refine aW ?_
 all_goals
  refine aW ?_;obtain⟨x0,x1,x2,hr⟩:=hS.r;have hcr:=hr.cells;have MR:=hr.aI;refine iL 17 (fun _=>hS.put _ _ _) (fun h=>?_);have hS2:=h (by decide);refine aW ?_;refine dH ?_;go_wp2;refine bodyPost_ret (v:=.tuple #[.agg #[.bool bt,.int .i64 bm,.int .i64 bd],.bool _]) (by simp[results,Tryz.results194,go_sem,hcr]) rfl ⟨rfl,?_⟩;exact gY hS.w (by omega) _ _ _
theorem JM (g:FuncId) (own a b' T:Ty) (A:Option Addr) (c fb:Nat) (w:World) (heg:∀args w,(callFunc g args).run Tryz.prog w=.ok (.enter g args) w) (HG:∀W,Below w.heap.size w W->Calls Tryz.prog g #[a.v] W fun e w'=>e=.returned T.v/\Below W.heap.size W w') (hr:Rd w A (tys [a,b'])) (hc:2<=c) (hfb:aj w fb 255 [.func (.func g) #[] #[]]):Calls Tryz.prog 243 #[own.v,.slice A 2 c,.pointer (some ⟨fb,0,none⟩)] w fun e w'=>e=.returned (.tuple #[T.v,.bool (decide (a=b')&& !a.truth)])/\Below w.heap.size w w':=by
 obtain⟨b,off,rfl,hat⟩:=hr.IV (by simp);have q0:=hat 0 (by simp);have q1:=hat 1 (by simp);simp only[List.getElem_cons_zero,List.getElem_cons_succ,Nat.zero_mul,Nat.add_zero,Nat.one_mul] at q0 q1;obtain⟨tr,m,d⟩:=own;obtain⟨at_,am,ad⟩:=a;obtain⟨bt,bm,bd⟩:=b';have hc:=fun X (h:jS w ⟨tr,m,d⟩ X)=>And.intro (h.ty q0) (And.intro (h.ty q1) ((hfb.below h.w hfb.lt).cells 0))
 simp only[bG] at hc;obtain⟨Tt,Tm,Td⟩:=T;obtain⟨MV,wU⟩:=zF (decide ((⟨at_,am,ad⟩:Ty)=⟨bt,bm,bd⟩));have Ce:=fun W=>uI ⟨at_,am,ad⟩ ⟨bt,bm,bd⟩ W
 simp only[wU,Ty.v] at Ce⊢;clear wU;simp only[Ty.v] at HG;go_enter Tryz.func243,Tryz.ntmps243
 go_upto_region 1 with fail
 generalize hX:(w.alloc _).alloc _=W;have hfr:=jS.new (own:=⟨tr,m,d⟩) hX;clear hX;refine dN (jS w ⟨tr,m,d⟩) 99 (hfr.below (ak _ _ 1)) (fun X _ hS=>?_)
 iterate 4 refine aW ?_
 refine aG 5 ?_;refine aG 6 ?_;refine aG 7 ?_;refine aG 8 ?_;refine aG 9 ?_;refine aG 10 ?_;refine aG 11 ?_;refine cO 4 (HG X hS.w) ?_;rintro e X ⟨rfl,hb⟩;refine⟨_,rfl,hS.below hb,fun hS=>?_⟩;refine aW ?_;cases MV
 iterate 5 refine Cc ?_
 rotate_left
 iterate 5 refine aW ?_
 all_goals
  refine aW ?_;obtain⟨x0,x1,x2,hr⟩:=hS.r;have hcr:=hr.cells;have MR:=hr.aI;refine iL 19 (fun _=>hS.put _ _ _) (fun h=>?_);have hS2:=h (by decide);refine aW ?_;refine dH ?_;go_wp2;refine bodyPost_ret (v:=.tuple #[.agg #[.bool Tt,.int .i64 Tm,.int .i64 Td],.bool _]) (by simp[results,Tryz.results243,go_sem,hcr]) rfl ⟨rfl,?_⟩;exact gY hS.w (by omega) _ _ _
theorem Pq (own a b':Ty) (A:Option Addr) (c fb:Nat) (w:World) (hr:Rd w A (tys [a,b'])) (hc:2<=c) (hfb:aj w fb 255 [.func (.func 192) #[] #[]]):Calls Tryz.prog 243 #[own.v,.slice A 2 c,.pointer (some ⟨fb,0,none⟩)] w fun e w'=>e=.returned (.tuple #[a.v,.bool (decide (a=b')&& !a.truth)])/\Below w.heap.size w w':=
 JM _ own a b' a A c fb w (enters_of Tryz.func192 (by kernel_rfl) rfl) (fun W _=>Pn a W) hr hc hfb
theorem Px (own a b':Ty) (A:Option Addr) (c fb:Nat) (w:World) (hL:cZ w) (hr:Rd w A (tys [a,b'])) (hc:2<=c) (hfb:aj w fb 255 [.func (.func 195) #[] #[]]):Calls Tryz.prog 243 #[own.v,.slice A 2 c,.pointer (some ⟨fb,0,none⟩)] w fun e w'=>e=.returned (.tuple #[bG.v,.bool (decide (a=b')&& !a.truth)])/\Below w.heap.size w w':=
 JM _ own a b' bG A c fb w (enters_of Tryz.func195 (by kernel_rfl) rfl) (fun W hb=>KP a W (hL.below hb)) hr hc hfb
def nT (s:Int) (a b:Ty):Ty:=⟨false,a.aN+s*b.aN,a.days+s*b.days⟩
structure Ba (w:World) (own:Ty) (G:Nat) (cs:List Value) (X:World):Prop where
 f:jS w own X
 p:aj X G 34 cs
 g:w.heap.size+2<=G
section
variable {w X Y:World} {own:Ty} {G:Nat} {cs:List Value}
theorem Ba.below (h:Ba w own G cs X) (hb:Below X.heap.size X Y):Ba w own G cs Y:=⟨h.f.below hb,h.p.below hb h.p.lt,h.g⟩
theorem Ba.set (h:Ba w own G cs X) (i:Nat) (v:Value):Ba w own G (cs.set i v) (X.setCell ⟨G,i,none⟩ v):=by
 obtain⟨⟨h1,⟨x,y,z,h2⟩,h3⟩,h4,h5⟩:=h;have on:=(aF.refl G X).set i v;exact⟨⟨on.blk h1 (by omega),⟨x,y,z,on.blk h2 (by omega)⟩,h3.setCell (p:=⟨G,i,none⟩) (by show w.heap.size<=G;omega) v⟩,h4.set i v,h5⟩
theorem Ba.put (h:Ba w own G cs X) (v0 v1 v2:Value):Ba w own G cs (((X.setCell ⟨w.heap.size+1,0,none⟩ v0).setCell ⟨w.heap.size+1,1,none⟩ v1).setCell ⟨w.heap.size+1,2,none⟩ v2):=
 ⟨h.f.put v0 v1 v2,((((aF.refl _ X).set 0 v0).set 1 v1).set 2 v2).blk h.p (by have:=h.g;omega),h.g⟩
end
theorem JO (own a b':Ty) (s:Int) (A:Option Addr) (c fb:Nat) (w:World) (hs:s=1∨s= -1) (ha:bH a=true) (hb':bH b'=true) (hr:Rd w A (tys [a,b'])) (hc:2<=c) (hfb:aj w fb 3 [.int .i64 s]):Calls Tryz.prog 244 #[own.v,.slice A 2 c,.pointer (some ⟨fb,0,none⟩)] w fun e w'=>e=.returned (.tuple #[(nT s a b').v,.bool (!a.truth&&(!b'.truth&&gu (nT s a b').aN (nT s a b').days))])/\Below w.heap.size w w':=by
 obtain⟨a1,a2,a3,a4⟩:=GZ ha;obtain⟨c1,c2,c3,c4⟩:=GZ hb';obtain⟨b,off,rfl,hat⟩:=hr.IV (by simp);have q0:=hat 0 (by simp);have q1:=hat 1 (by simp);simp only[List.getElem_cons_zero,List.getElem_cons_succ,Nat.zero_mul,Nat.add_zero,Nat.one_mul] at q0 q1;obtain⟨tr,m,d⟩:=own;obtain⟨at_,am,ad⟩:=a;obtain⟨bt,bm,bd⟩:=b';have hc:=fun X (h:jS w ⟨tr,m,d⟩ X)=>And.intro (h.ty q0) (And.intro (h.ty q1) ((hfb.below h.w hfb.lt).cells 0))
 simp only at hc a1 a2 a3 a4 c1 c2 c3 c4;obtain⟨pm,hpm⟩:=zE (am+s*bm);obtain⟨pd,Gz⟩:=zE (ad+s*bd);have hw1:IntKind.i64.wrap (s*bm)=s*bm:=IntWalk.i64_in _ (by rcases hs with rfl|rfl<;>omega);have hw2:IntKind.i64.wrap (s*bd)=s*bd:=IntWalk.i64_in _ (by rcases hs with rfl|rfl<;>omega);have hw3:IntKind.i64.wrap (am+s*bm)=pm:=by rw[hpm];exact IntWalk.i64_in _ (by rcases hs with rfl|rfl<;>omega)
 have hw4:IntKind.i64.wrap (ad+s*bd)=pd:=by rw[Gz];exact IntWalk.i64_in _ (by rcases hs with rfl|rfl<;>omega)
 unfold nT Ty.v;simp only[<-hpm,<-Gz]
 clear hs a1 a2 a3 a4 c1 c2 c3 c4 hpm Gz ha hb' hr hat q0 q1 hfb;go_enter Tryz.func244,Tryz.ntmps244
 go_upto_region 1 with fail
 generalize hX:(w.alloc _).alloc _=W;have hfr:=jS.new (own:=⟨tr,m,d⟩) hX;clear hX;refine dN (jS w ⟨tr,m,d⟩) 99 (hfr.below (ak _ _ 1)) (fun X _ hS=>?_)
 iterate 28 refine aW ?_
 refine iy 28 (fun _=>hS.below (zB _ _)) (fun hS1=>?_);generalize hX:X.alloc _=Z;have hz:=(zA hX).1;have h3:Ba w ⟨tr,m,d⟩ X.heap.size _ Z:=⟨hX ▸ hS1,hz,hS.r.elim fun x h=>h.elim fun y h=>h.elim fun z h=>h.lt⟩
 have cz:=hz.cells;have fz:=hz.aI;have h4:=((h3.set 0 (.bool false)).set 1 (.int .i64 pm)).set 2 (.int .i64 pd);refine iL 29 (fun _=>h4.f) (fun _=>?_);refine dH ?_;simp only[List.set_cons_zero,List.set_cons_succ] at h4;generalize X.heap.size=G at h4⊢;generalize World.setCell _ _ _=V at h4⊢;clear hS hS1 hX hz h3 cz fz hfr hw1 hw2 hw3 hw4
 go_upto_region 2 with fail
 have hc:=fun X (h:Ba w ⟨tr,m,d⟩ G [.bool false,.int .i64 pm,.int .i64 pd] X)=>And.intro (hc X h.f) (And.intro (h.p.cells 0) (And.intro (h.p.cells 1) (h.p.cells 2)))
 refine dN (Ba w ⟨tr,m,d⟩ G [.bool false,.int .i64 pm,.int .i64 pd]) 99 (h4.below (ak _ _ 1)) (fun X _ hS=>?_)
 iterate 7 refine aW ?_
 cases at_;cases bt
 iterate 9 refine aW ?_
 refine cO 16 (xM pm pd X) ?_;rintro e X ⟨rfl,hb⟩;refine⟨_,rfl,hS.below hb,fun hS=>?_⟩;rotate_left
 iterate 7 refine aW ?_
 iterate 3 refine Cc ?_
 rotate_left
 iterate 5 refine Cc ?_
 iterate 2 refine aW ?_
 iterate 3 refine Cc ?_
 all_goals
  refine aW ?_;obtain⟨x0,x1,x2,hr⟩:=hS.f.r;have hcr:=hr.cells;have MR:=hr.aI;refine iL 18 (fun _=>hS.put _ _ _) (fun h=>?_);have hS2:=h (by decide);refine aW ?_;refine dH ?_;go_wp2;refine bodyPost_ret (v:=.tuple #[.agg #[.bool false,.int .i64 pm,.int .i64 pd],.bool _]) (by simp[results,Tryz.results244,go_sem,hcr]) rfl ⟨rfl,?_⟩;exact gY hS.f.w (by omega) _ _ _
theorem MW (own:Ty) (l:List Ty) (A:Option Addr) (k c:Nat) (w:World) (hL:cZ w) (hk:k=l.length) (hm:k<=maxLen) (hr:Rd w A (tys l)):
  Calls Tryz.prog 245 #[own.v,.slice A k c] w fun e w'=>e=.returned (.tuple #[bG.v,.bool (l.all fun t=>decide (t=bG))])/\Below w.heap.size w w':=by
 obtain⟨tr,m,d⟩:=own;have jG:=zH hk;have hc:=fun X (h:jS w ⟨tr,m,d⟩ X)=>And.intro ((hL.below h.w).truth 0 _ rfl) (And.intro ((hL.below h.w).truth 1 _ rfl) ((hL.below h.w).truth 2 _ rfl))
 have HT:=zH (fun X (h:jS w ⟨tr,m,d⟩ X) {j:Nat} (hj:j<l.length)=>(hr.below h.w).ty hj);have Gw:¬(6=w.heap.size+1):=by have h1:=hL.lt.2.2.2.2;omega
 have hm2:k<=9223372036854775807:=by unfold maxLen at hm;omega
 unfold Ty.v;unfold bG at hc⊢;simp only at hc⊢;obtain⟨res,hres⟩:=zE (l.all fun t=>decide (t=(⟨true,0,0⟩:Ty)));rw[<-hres];have LX:=zH hres;clear hr hL hm hk hres;go_enter Tryz.func245,Tryz.ntmps245
 go_upto_region 1 with fail
 generalize hX:(w.alloc _).alloc _=W;have hfr:=jS.new (own:=⟨tr,m,d⟩) hX;clear hX;go_wp2
 go_loopg [10] k (fun g iv wr=>∃j:Nat,j+g=k/\iv=.int .i64 j/\Hid (∀t∈l.take j,t=⟨true,0,0⟩)/\jS w ⟨tr,m,d⟩ wr)
 case atStart=>exact⟨0,by omega,rfl,(fun t ht=>by cases ht),hfr⟩
 case round=>
  clear hfr;obtain⟨j,hj,rfl,hall,hfr⟩:=hrel;by_cases hlt:j<k
  ·have hjl:j<l.length:=by rw[<-jG.out];exact hlt
   obtain⟨b,off,rfl,hb,d0,d1,d2⟩:=HT.out wr hfr hjl;have HX:Hid (l[j]∈l):=List.getElem_mem hjl;have HS:Hid (l.take (j+1)=l.take j++[l[j]]):=List.take_succ_eq_append_getElem hjl;generalize l[j]=t at*;obtain⟨tt,tm,td⟩:=t;obtain⟨dq,jY⟩:=zF (decide ((⟨tt,tm,td⟩:Ty)=⟨true,0,0⟩));have HE:=fun W=>yU ⟨tt,tm,td⟩ ⟨true,0,0⟩ W
   simp only[jY,Ty.v] at HE;have hcc:=hc _ (hfr.below (zB wr (.cells #[.bool tt,.int .i64 tm,.int .i64 td] 34)));cases dq
   ·obtain rfl:res=false:=by
     rw[LX.out,<-Bool.not_eq_true,List.all_eq_true];exact fun h=>of_decide_eq_false jY (of_decide_eq_true (h _ HX.out))
    obtain⟨x0,x1,x2,hr⟩:=(hfr.below (zB wr (.cells #[.bool tt,.int .i64 tm,.int .i64 td] 34))).r;have hcr:=hr.cells;have MR:=hr.aI;have hw:=hfr.w.alloc hfr.w.size (.cells #[.bool tt,.int .i64 tm,.int .i64 td] 34);clear LX hall HS HX jY HT hr;go_wp2;refine bodyPost_ret (v:=.tuple #[.agg #[.bool true,.int .i64 0,.int .i64 0],.bool false]) (by simp[results,Tryz.results245,go_sem,hcr]) rfl ⟨rfl,?_⟩;exact gY hw (by omega) _ _ _
   ·have HA:Hid (∀t∈l.take (j+1),t=⟨true,0,0⟩):=fun t ht=>by
     rw[HS.out] at ht;rcases List.mem_append.1 ht with ht|ht
     ·exact hall.out t ht
     ·rw[List.mem_singleton.1 ht];exact of_decide_eq_true jY
    have hf:=hfr.below (zB wr (.cells #[.bool tt,.int .i64 tm,.int .i64 td] 34));clear hall HS HX jY;go_wp2
    go_roundg (k-(j+1))
    case measure=>omega
    case rel=>exact⟨j+1,by omega,by go_num,HA,hf⟩
  ·obtain rfl:j=k:=by omega
   obtain rfl:res=true:=by rw[LX.out];exact List.all_eq_true.2 fun t ht=>decide_eq_true (hall.out t (by rw[jG.out,List.take_length];exact ht))
   have hcc:=hc _ hfr;obtain⟨x0,x1,x2,hr⟩:=hfr.r;have hcr:=hr.cells;have MR:=hr.aI;clear LX hall HT hr;go_wp2;refine bodyPost_ret (v:=.tuple #[.agg #[.bool true,.int .i64 0,.int .i64 0],.bool true]) (by simp[results,Tryz.results245,go_sem,hcr]) rfl ⟨rfl,?_⟩;exact gY hfr.w (by omega) _ _ _
def Keeps (lo:Nat) (w W:World):Prop:=w.heap.size<=W.heap.size/\∀b,lo<=b->b<w.heap.size->W.heap[b]?=w.heap[b]?
theorem Keeps.of {w W:World} (h:Below w.heap.size w W) (lo:Nat):Keeps lo w W:=⟨h.size,fun b _ hb=>h.block b hb⟩
theorem Keeps.trans {lo:Nat} {w W W':World} (h:Keeps lo w W) (h':Keeps lo W W'):Keeps lo w W':=
 ⟨Nat.le_trans h.1 h'.1,fun b h1 h2=>(h'.2 b h1 (Nat.lt_of_lt_of_le h2 h.1)).trans (h.2 b h1 h2)⟩
theorem Keeps.blk {lo b:Nat} {w W:World} {t:TypeId} {cs:List Value} (h:Keeps lo w W) (hb:aj w b t cs) (hl:lo<=b):aj W b t cs:=(h.2 b hl hb.lt).trans hb
theorem Keeps.cell {lo b:Nat} {w W:World} (h:Keeps lo w W) (hl:lo<=b) (hb:b<w.heap.size) (j:Nat):W.cell? ⟨b,j,none⟩=w.cell? ⟨b,j,none⟩:=World.cell?_of_block (h.2 b hl hb)
def jV (lo:Nat) (w:World) (k:Int) (f:Value):Prop:=∃g lb,f=.func (.func g) #[] lb/\(∀args w,(callFunc g args).run Tryz.prog w=.ok (.enter g args) w)/\
 ∀(own:Ty) (l:List Ty) (A:Option Addr) (n c:Nat) (W:World),Keeps lo w W->cZ W->n=l.length->n<=c->n<=maxLen->Rd W A (tys l)->(∀t∈l,bH t=true)->l.length=(aB k).ops->
  Calls Tryz.prog g (#[own.v,.slice A n c]++lb) W fun e w'=>e=.returned (.tuple #[(fH k own l).1.v,.bool (fH k own l).2])/\Below W.heap.size W w'
theorem jV.keeps {lo:Nat} {w w':World} {k:Int} {f:Value} (h:jV lo w k f) (hb:Keeps lo w w'):jV lo w' k f:=by
 obtain⟨g,lb,rfl,hg,hc⟩:=h;exact⟨g,lb,rfl,hg,fun own l A n c W hW=>hc own l A n c W (hb.trans hW)⟩
def RV (lo:Nat) (k:Int) (v:Value) (w:World):Prop:=∃f,v=.agg #[.bool (jL k),f]/\jV lo w k f
theorem len1 {l:List Ty} (h:l.length=1):∃a,l=[a]:=List.length_eq_one_iff.1 h
theorem len2 {l:List Ty} (h:l.length=2):∃a b,l=[a,b]:=match l,h with|[a,b],_=>⟨a,b,rfl⟩
theorem ah2 {l:List Ty} (h:l.length=3):∃a b c,l=[a,b,c]:=match l,h with|[a,b,c],_=>⟨a,b,c,rfl⟩
theorem rv1 (lo:Nat) (w:World) (b:Nat) (h:aj w b 34 bT.cells) (hlo:lo<=b):jV lo w 1 (.func (.func 241) #[] #[.pointer (some ⟨b,0,none⟩)]):=by
 refine⟨241,_,rfl,enters_of Tryz.func241 (by kernel_rfl) rfl,fun own l A n c W hW lX hn hc hm hr hg hl=>?_⟩;exact qZ bT own _ b W (hW.blk h hlo)
theorem rv2 (lo:Nat) (w:World) (b:Nat) (h:aj w b 34 ug.cells) (hlo:lo<=b):jV lo w 2 (.func (.func 241) #[] #[.pointer (some ⟨b,0,none⟩)]):=by
 refine⟨241,_,rfl,enters_of Tryz.func241 (by kernel_rfl) rfl,fun own l A n c W hW lX hn hc hm hr hg hl=>?_⟩;exact qZ ug own _ b W (hW.blk h hlo)
theorem rv3 (lo:Nat) (w:World) (b:Nat) (h:aj w b 34 bV.cells) (hlo:lo<=b):jV lo w 3 (.func (.func 241) #[] #[.pointer (some ⟨b,0,none⟩)]):=by
 refine⟨241,_,rfl,enters_of Tryz.func241 (by kernel_rfl) rfl,fun own l A n c W hW lX hn hc hm hr hg hl=>?_⟩;exact qZ bV own _ b W (hW.blk h hlo)
theorem rv4 (lo:Nat) (w:World) (b:Nat) (h:aj w b 34 bG.cells) (hlo:lo<=b):jV lo w 4 (.func (.func 241) #[] #[.pointer (some ⟨b,0,none⟩)]):=by
 refine⟨241,_,rfl,enters_of Tryz.func241 (by kernel_rfl) rfl,fun own l A n c W hW lX hn hc hm hr hg hl=>?_⟩;exact qZ bG own _ b W (hW.blk h hlo)
theorem rv5 (lo:Nat) (w:World) (k:Int) (h:k=5∨k=6∨k=7∨k=8):jV lo w k (.func (.func 242) #[] #[]):=by
 refine⟨242,_,rfl,enters_of Tryz.func242 (by kernel_rfl) rfl,fun own l A n c W hW lX hn hc hm hr hg hl=>?_⟩;have e:fH k own l=(own,true):=by rcases h with rfl|rfl|rfl|rfl<;>rfl
 rw[e];exact Po own _ W
theorem rv9 (lo:Nat) (w:World) (k:Int) (b:Nat) (h:k=9∨k=10∨k=13∨k=14) (hb:aj w b 255 [.func (.func 192) #[] #[]]) (hlo:lo<=b):jV lo w k (.func (.func 243) #[] #[.pointer (some ⟨b,0,none⟩)]):=by
 refine⟨243,_,rfl,enters_of Tryz.func243 (by kernel_rfl) rfl,fun own l A n c W hW lX hn hc hm hr hg hl=>?_⟩;obtain⟨x,y,rfl⟩:=len2 (hl.trans (by rcases h with rfl|rfl|rfl|rfl<;>rfl));have e:fH k own [x,y]=(x,decide (x=y)&& !x.truth):=by rcases h with rfl|rfl|rfl|rfl<;>rfl
 obtain rfl:n=2:=hn;rw[e];exact Pq own x y A c b W hr hc (hW.blk hb hlo)
theorem ah3 (lo:Nat) (w:World) (b:Nat) (hb:aj w b 3 [.int .i64 1]) (hlo:lo<=b):jV lo w 11 (.func (.func 244) #[] #[.pointer (some ⟨b,0,none⟩)]):=by
 refine⟨244,_,rfl,enters_of Tryz.func244 (by kernel_rfl) rfl,fun own l A n c W hW lX hn hc hm hr hg hl=>?_⟩;obtain⟨x,y,rfl⟩:=len2 hl;obtain rfl:n=2:=hn
 have e:fH 11 own [x,y]=(nT 1 x y, !x.truth&&(!y.truth&&gu (nT 1 x y).aN (nT 1 x y).days)):=by
  show ((⟨false,x.aN+y.aN,x.days+y.days⟩:Ty),_)=_
  have e1:nT 1 x y=⟨false,x.aN+y.aN,x.days+y.days⟩:=by
   unfold nT;simp only[Ty.mk.injEq,true_and];constructor<;>omega
  rw[e1];rfl
 rw[e];exact JO own x y 1 A c b W (by omega) (hg x (by simp)) (hg y (by simp)) hr hc (hW.blk hb hlo)
theorem ah4 (lo:Nat) (w:World) (b:Nat) (hb:aj w b 3 [.int .i64 (-1)]) (hlo:lo<=b):jV lo w 12 (.func (.func 244) #[] #[.pointer (some ⟨b,0,none⟩)]):=by
 refine⟨244,_,rfl,enters_of Tryz.func244 (by kernel_rfl) rfl,fun own l A n c W hW lX hn hc hm hr hg hl=>?_⟩;obtain⟨x,y,rfl⟩:=len2 hl;obtain rfl:n=2:=hn
 have e:fH 12 own [x,y]=(nT (-1) x y, !x.truth&&(!y.truth&&gu (nT (-1) x y).aN (nT (-1) x y).days)):=by
  show ((⟨false,x.aN-y.aN,x.days-y.days⟩:Ty),_)=_
  have e1:nT (-1) x y=⟨false,x.aN-y.aN,x.days-y.days⟩:=by
   unfold nT;simp only[Ty.mk.injEq,true_and];constructor<;>omega
  rw[e1];rfl
 rw[e];exact JO own x y (-1) A c b W (by omega) (hg x (by simp)) (hg y (by simp)) hr hc (hW.blk hb hlo)
theorem ah5 (lo:Nat) (w:World):jV lo w 15 (.func (.func 194) #[] #[]):=by
 refine⟨194,_,rfl,enters_of Tryz.func194 (by kernel_rfl) rfl,fun own l A n c W hW lX hn hc hm hr hg hl=>?_⟩;obtain⟨x,y,z,rfl⟩:=ah2 hl;obtain rfl:n=3:=hn;exact acN own x y z A c W lX hr hc
theorem ah6 (lo:Nat) (w:World) (b:Nat) (hb:aj w b 255 [.func (.func 195) #[] #[]]) (hlo:lo<=b):jV lo w 16 (.func (.func 243) #[] #[.pointer (some ⟨b,0,none⟩)]):=by
 refine⟨243,_,rfl,enters_of Tryz.func243 (by kernel_rfl) rfl,fun own l A n c W hW lX hn hc hm hr hg hl=>?_⟩;obtain⟨x,y,rfl⟩:=len2 hl;obtain rfl:n=2:=hn;exact Px own x y A c b W lX hr hc (hW.blk hb hlo)
theorem ah7 (lo:Nat) (w:World):jV lo w 17 (.func (.func 196) #[] #[]):=by
 refine⟨196,_,rfl,enters_of Tryz.func196 (by kernel_rfl) rfl,fun own l A n c W hW lX hn hc hm hr hg hl=>?_⟩;obtain⟨x,y,rfl⟩:=len2 hl;obtain rfl:n=2:=hn;exact Ub own x y A c W lX hr hc
theorem ZA (lo:Nat) (w:World) (k:Int) (h:k=18∨k=19∨k=20):jV lo w k (.func (.func 245) #[] #[]):=by
 refine⟨245,_,rfl,enters_of Tryz.func245 (by kernel_rfl) rfl,fun own l A n c W hW lX hn hc hm hr hg hl=>?_⟩;have e:fH k own l=(bG,l.all fun t=>decide (t=bG)):=by rcases h with rfl|rfl|rfl<;>rfl
 rw[e];exact MW own l A n c W lX hn hm hr
theorem ZB (lo:Nat) (w:World) (k:Int) (h:k=21∨k=22∨k=23):jV lo w k (.func (.func 246) #[] #[]):=by
 refine⟨246,_,rfl,enters_of Tryz.func246 (by kernel_rfl) rfl,fun own l A n c W hW lX hn hc hm hr hg hl=>?_⟩;obtain⟨x,rfl⟩:=len1 (hl.trans (by rcases h with rfl|rfl|rfl<;>rfl));have e:fH k own [x]=(x, !x.truth):=by rcases h with rfl|rfl|rfl<;>rfl
 obtain rfl:n=1:=hn;rw[e];exact KQ own x A c W hr hc
theorem ah8 (lo:Nat) (w:World):jV lo w 24 (.func (.func 199) #[] #[]):=by
 refine⟨199,_,rfl,enters_of Tryz.func199 (by kernel_rfl) rfl,fun own l A n c W hW lX hn hc hm hr hg hl=>?_⟩;obtain⟨x,rfl⟩:=len1 hl;obtain rfl:n=1:=hn;exact Ua own x A c W hr hc
section
variable {P:Program} {ops:Array Oper} {Q:Exit->Act->World->Prop} {i:Nat} {o:Oper} {a:Act} {w w':World} {R:Value->World->Prop}
theorem jl {fn:FuncId} {args:Array Value} {S:Ending->World->Prop} (c:Calls P fn args w S) (h:∀e w',S e w'->∃v,e=.returned v/\R v w'/\Below w.heap.size w w') (ho:ops[i]?=some o:=by rfl) (hw:Region.wanted o (yielded ops a.tmps)=true:=by kernel_rfl)
  (he:(execOp a.eval o).run P w=.ok (.enter fn args) w:=by (go_simp;all_goals first|with_reducible rfl|rfl)) (hd:o.dst=some (kT ops i):=by rfl):wpOp P ops Q i (fun a' w'=>∃v,a'=a.put (some (kT ops i)) v/\R v w'/\Below w.heap.size w w') a w:=by
 unfold wpOp;simp only[ho,hw,if_true,Oper.wp,he,Oper.upon]
 refine .inl (c.mono fun e w' hR=>?_);obtain⟨v,rfl,h1,h2⟩:=h e w' hR;exact⟨v,by rw[hd],h1,h2⟩
theorem xP {v:Value} (hb:Below w.heap.size w w') (h:R v w') (ho:ops[i]?=some o:=by rfl) (hw:Region.wanted o (yielded ops a.tmps)=true:=by kernel_rfl)
  (he:(execOp a.eval o).run P w=.ok (.value v) w':=by (go_simp;all_goals first|with_reducible rfl|rfl)) (hd:o.dst=some (kT ops i):=by rfl):wpOp P ops Q i (fun a' w'=>∃v,a'=a.put (some (kT ops i)) v/\R v w'/\Below w.heap.size w w') a w:=by
 unfold wpOp;simp only[ho,hw,if_true,Oper.wp,he,Oper.upon]
 exact .inl ⟨v,by rw[hd],h,hb⟩
end
def oW (lo:Nat) (w:World) (b:Nat):Prop:=lo<=b/\b<w.heap.size/\∀k:Nat,1<=k->k<=24->∃f,w.cell? ⟨b,2*k,none⟩=some (.bool (jL k))/\w.cell? ⟨b,2*k+1,none⟩=some f/\jV lo w k f
theorem oW.keeps {lo:Nat} {w w':World} {b:Nat} (h:oW lo w b) (hb:Keeps lo w w'):oW lo w' b:=
 ⟨h.1,Nat.lt_of_lt_of_le h.2.1 hb.1,fun k h1 h2=>by
   obtain⟨f,c0,c1,hv⟩:=h.2.2 k h1 h2;exact⟨f,(hb.cell h.1 h.2.1 _).trans c0,(hb.cell h.1 h.2.1 _).trans c1,hv.keeps hb⟩⟩
def KX (lo i:Nat) (v:Value) (w:World):Prop:=match i with
 |0=>v=bT.v
 |1=>RV lo 1 v w
 |2=>v=ug.v
 |3=>RV lo 2 v w
 |4=>v=bV.v
 |5=>RV lo 3 v w
 |6=>v=bG.v
 |7=>RV lo 4 v w
 |8=>RV lo 5 v w
 |9=>RV lo 6 v w
 |10=>RV lo 7 v w
 |11=>RV lo 8 v w
 |12=>RV lo 9 v w
 |13=>RV lo 10 v w
 |14=>RV lo 13 v w
 |15=>RV lo 14 v w
 |16=>RV lo 11 v w
 |17=>RV lo 12 v w
 |18=>RV lo 15 v w
 |19=>RV lo 16 v w
 |20=>RV lo 17 v w
 |21=>RV lo 18 v w
 |22=>RV lo 19 v w
 |23=>RV lo 20 v w
 |24=>RV lo 21 v w
 |25=>RV lo 22 v w
 |26=>RV lo 23 v w
 |27=>RV lo 24 v w
 |_=>∃b,v=.slice (some ⟨b,0,none⟩) 25 25/\oW lo w b
theorem Uc (lo i:Nat) (v:Value) (w w':World) (h:KX lo i v w) (hb:Below w.heap.size w w'):KX lo i v w':=by
 have hV:∀k,RV lo k v w->RV lo k v w':=fun k ⟨f,e,hf⟩=>⟨f,e,hf.keeps (Keeps.of hb lo)⟩
 have hS:(∃b,v=.slice (some ⟨b,0,none⟩) 25 25/\oW lo w b)->∃b,v=.slice (some ⟨b,0,none⟩) 25 25/\oW lo w' b:=fun⟨b,e,hr⟩=>⟨b,e,hr.keeps (Keeps.of hb lo)⟩
 unfold KX at h⊢;split at h<;>first|exact h|exact hV _ h|exact hS h
theorem Ud (w:World) (hL:cZ w):Calls Tryz.prog 159 #[] w fun e w'=>(∃b,e=.returned (.slice (some ⟨b,0,none⟩) 25 25)/\oW w.heap.size w' b)/\Below w.heap.size w w':=by
 have HL:=zH hL;clear hL;go_enter Tryz.func159,Tryz.ntmps159
 go_upto_region 1 with fail
 refine Pg (n:=30) (by kernel_rfl) (by kernel_rfl) rfl (KX w.heap.size) (Uc _) ?_ ?_
 ·intro i o ho a1 W hb iq;have eG:=zH (HL.out.below hb);have Bc:Hid (w.heap.size<=W.heap.size):=hb.size;clear hb
  match i,ho with
  |0,ho=>
   injection ho with ho;subst ho;have g0:=eG.out.cash 0 _ rfl;have g1:=eG.out.cash 1 _ rfl;have g2:=eG.out.cash 2 _ rfl;unfold bT at g0 g1 g2;simp only at g0 g1 g2;exact xP (Below.refl _ _) (v:=_) rfl
  |1,ho=>
   injection ho with ho;subst ho;have h:(a1.tmps[1]?).getD undef=bT.v:=iq ⟨0,.data⟩ (by simp) rfl;exact jl (uh bT W) fun e w' ⟨b,e1,hb,hlo,hbw⟩=>⟨_,e1,⟨_,rfl,rv1 _ _ b hb (Nat.le_trans Bc.out hlo)⟩,hbw⟩
  |2,ho=>
   injection ho with ho;subst ho;have g0:=eG.out.days 0 _ rfl;have g1:=eG.out.days 1 _ rfl;have g2:=eG.out.days 2 _ rfl;unfold ug at g0 g1 g2;simp only at g0 g1 g2;exact xP (Below.refl _ _) (v:=_) rfl
  |3,ho=>
   injection ho with ho;subst ho;have h:(a1.tmps[3]?).getD undef=ug.v:=iq ⟨2,.data⟩ (by simp) rfl;exact jl (uh ug W) fun e w' ⟨b,e1,hb,hlo,hbw⟩=>⟨_,e1,⟨_,rfl,rv2 _ _ b hb (Nat.le_trans Bc.out hlo)⟩,hbw⟩
  |4,ho=>
   injection ho with ho;subst ho;have g0:=eG.out.plain 0 _ rfl;have g1:=eG.out.plain 1 _ rfl;have g2:=eG.out.plain 2 _ rfl;unfold bV at g0 g1 g2;simp only at g0 g1 g2;exact xP (Below.refl _ _) (v:=_) rfl
  |5,ho=>
   injection ho with ho;subst ho;have h:(a1.tmps[5]?).getD undef=bV.v:=iq ⟨4,.data⟩ (by simp) rfl;exact jl (uh bV W) fun e w' ⟨b,e1,hb,hlo,hbw⟩=>⟨_,e1,⟨_,rfl,rv3 _ _ b hb (Nat.le_trans Bc.out hlo)⟩,hbw⟩
  |6,ho=>
   injection ho with ho;subst ho;have g0:=eG.out.truth 0 _ rfl;have g1:=eG.out.truth 1 _ rfl;have g2:=eG.out.truth 2 _ rfl;unfold bG at g0 g1 g2;simp only at g0 g1 g2;exact xP (Below.refl _ _) (v:=_) rfl
  |7,ho=>
   injection ho with ho;subst ho;have h:(a1.tmps[7]?).getD undef=bG.v:=iq ⟨6,.data⟩ (by simp) rfl;exact jl (uh bG W) fun e w' ⟨b,e1,hb,hlo,hbw⟩=>⟨_,e1,⟨_,rfl,rv4 _ _ b hb (Nat.le_trans Bc.out hlo)⟩,hbw⟩
  |8,_=>exact jl (vN W) fun e w' ⟨e1,hbw⟩=>⟨_,e1,⟨_,rfl,rv5 _ _ _ (by omega)⟩,hbw⟩
  |9,_=>exact jl (vN W) fun e w' ⟨e1,hbw⟩=>⟨_,e1,⟨_,rfl,rv5 _ _ _ (by omega)⟩,hbw⟩
  |10,_=>exact jl (vN W) fun e w' ⟨e1,hbw⟩=>⟨_,e1,⟨_,rfl,rv5 _ _ _ (by omega)⟩,hbw⟩
  |11,_=>exact jl (vN W) fun e w' ⟨e1,hbw⟩=>⟨_,e1,⟨_,rfl,rv5 _ _ _ (by omega)⟩,hbw⟩
  |12,_=>exact jl (rC _ W) fun e w' ⟨b,e1,hb,hlo,hbw⟩=>⟨_,e1,⟨_,rfl,rv9 _ _ _ b (by omega) hb (Nat.le_trans Bc.out hlo)⟩,hbw⟩
  |13,_=>exact jl (rC _ W) fun e w' ⟨b,e1,hb,hlo,hbw⟩=>⟨_,e1,⟨_,rfl,rv9 _ _ _ b (by omega) hb (Nat.le_trans Bc.out hlo)⟩,hbw⟩
  |14,_=>exact jl (rC _ W) fun e w' ⟨b,e1,hb,hlo,hbw⟩=>⟨_,e1,⟨_,rfl,rv9 _ _ _ b (by omega) hb (Nat.le_trans Bc.out hlo)⟩,hbw⟩
  |15,_=>exact jl (rC _ W) fun e w' ⟨b,e1,hb,hlo,hbw⟩=>⟨_,e1,⟨_,rfl,rv9 _ _ _ b (by omega) hb (Nat.le_trans Bc.out hlo)⟩,hbw⟩
  |16,_=>exact jl (Cb _ W) fun e w' ⟨b,e1,hb,hlo,hbw⟩=>⟨_,e1,⟨_,rfl,ah3 _ _ b hb (Nat.le_trans Bc.out hlo)⟩,hbw⟩
  |17,_=>exact jl (Cb _ W) fun e w' ⟨b,e1,hb,hlo,hbw⟩=>⟨_,e1,⟨_,rfl,ah4 _ _ b hb (Nat.le_trans Bc.out hlo)⟩,hbw⟩
  |18,_=>exact xP (Below.refl _ _) (v:=_) ⟨_,rfl,ah5 _ _⟩
  |19,_=>exact jl (rC _ W) fun e w' ⟨b,e1,hb,hlo,hbw⟩=>⟨_,e1,⟨_,rfl,ah6 _ _ b hb (Nat.le_trans Bc.out hlo)⟩,hbw⟩
  |20,_=>exact xP (Below.refl _ _) (v:=_) ⟨_,rfl,ah7 _ _⟩
  |21,_=>exact jl (yE W) fun e w' ⟨e1,hbw⟩=>⟨_,e1,⟨_,rfl,ZA _ _ _ (by omega)⟩,hbw⟩
  |22,_=>exact jl (yE W) fun e w' ⟨e1,hbw⟩=>⟨_,e1,⟨_,rfl,ZA _ _ _ (by omega)⟩,hbw⟩
  |23,_=>exact jl (yE W) fun e w' ⟨e1,hbw⟩=>⟨_,e1,⟨_,rfl,ZA _ _ _ (by omega)⟩,hbw⟩
  |24,_=>exact jl (wS W) fun e w' ⟨e1,hbw⟩=>⟨_,e1,⟨_,rfl,ZB _ _ _ (by omega)⟩,hbw⟩
  |25,_=>exact jl (wS W) fun e w' ⟨e1,hbw⟩=>⟨_,e1,⟨_,rfl,ZB _ _ _ (by omega)⟩,hbw⟩
  |26,_=>exact jl (wS W) fun e w' ⟨e1,hbw⟩=>⟨_,e1,⟨_,rfl,ZB _ _ _ (by omega)⟩,hbw⟩
  |27,_=>exact xP (Below.refl _ _) (v:=_) ⟨_,rfl,ah8 _ _⟩
  |28,ho=>
   injection ho with ho;subst ho;obtain⟨f1,h1,r1⟩:RV w.heap.size 1 ((a1.tmps[2]?).getD undef) W:=iq ⟨1,.data⟩ (by simp) rfl;obtain⟨f2,h2,r2⟩:RV w.heap.size 2 ((a1.tmps[4]?).getD undef) W:=iq ⟨3,.data⟩ (by simp) rfl;obtain⟨f3,h3,r3⟩:RV w.heap.size 3 ((a1.tmps[6]?).getD undef) W:=iq ⟨5,.data⟩ (by simp) rfl;obtain⟨f4,h4,r4⟩:RV w.heap.size 4 ((a1.tmps[8]?).getD undef) W:=iq ⟨7,.data⟩ (by simp) rfl;obtain⟨f5,h5,r5⟩:RV w.heap.size 5 ((a1.tmps[9]?).getD undef) W:=iq ⟨8,.data⟩ (by simp) rfl;obtain⟨f6,h6,r6⟩:RV w.heap.size 6 ((a1.tmps[10]?).getD undef) W:=iq ⟨9,.data⟩ (by simp) rfl;obtain⟨f7,h7,r7⟩:RV w.heap.size 7 ((a1.tmps[11]?).getD undef) W:=iq ⟨10,.data⟩ (by simp) rfl;obtain⟨f8,h8,r8⟩:RV w.heap.size 8 ((a1.tmps[12]?).getD undef) W:=iq ⟨11,.data⟩ (by simp) rfl;obtain⟨f9,h9,r9⟩:RV w.heap.size 9 ((a1.tmps[13]?).getD undef) W:=iq ⟨12,.data⟩ (by simp) rfl;obtain⟨f10,h10,r10⟩:RV w.heap.size 10 ((a1.tmps[14]?).getD undef) W:=iq ⟨13,.data⟩ (by simp) rfl;obtain⟨f13,h13,r13⟩:RV w.heap.size 13 ((a1.tmps[15]?).getD undef) W:=iq ⟨14,.data⟩ (by simp) rfl;obtain⟨f14,h14,r14⟩:RV w.heap.size 14 ((a1.tmps[16]?).getD undef) W:=iq ⟨15,.data⟩ (by simp) rfl;obtain⟨f11,h11,r11⟩:RV w.heap.size 11 ((a1.tmps[17]?).getD undef) W:=iq ⟨16,.data⟩ (by simp) rfl;obtain⟨f12,h12,r12⟩:RV w.heap.size 12 ((a1.tmps[18]?).getD undef) W:=iq ⟨17,.data⟩ (by simp) rfl;obtain⟨f15,h15,r15⟩:RV w.heap.size 15 ((a1.tmps[19]?).getD undef) W:=iq ⟨18,.data⟩ (by simp) rfl;obtain⟨f16,h16,r16⟩:RV w.heap.size 16 ((a1.tmps[20]?).getD undef) W:=iq ⟨19,.data⟩ (by simp) rfl;obtain⟨f17,h17,r17⟩:RV w.heap.size 17 ((a1.tmps[21]?).getD undef) W:=iq ⟨20,.data⟩ (by simp) rfl;obtain⟨f18,h18,r18⟩:RV w.heap.size 18 ((a1.tmps[22]?).getD undef) W:=iq ⟨21,.data⟩ (by simp) rfl;obtain⟨f19,h19,r19⟩:RV w.heap.size 19 ((a1.tmps[23]?).getD undef) W:=iq ⟨22,.data⟩ (by simp) rfl;obtain⟨f20,h20,r20⟩:RV w.heap.size 20 ((a1.tmps[24]?).getD undef) W:=iq ⟨23,.data⟩ (by simp) rfl;obtain⟨f21,h21,r21⟩:RV w.heap.size 21 ((a1.tmps[25]?).getD undef) W:=iq ⟨24,.data⟩ (by simp) rfl;obtain⟨f22,h22,r22⟩:RV w.heap.size 22 ((a1.tmps[26]?).getD undef) W:=iq ⟨25,.data⟩ (by simp) rfl;obtain⟨f23,h23,r23⟩:RV w.heap.size 23 ((a1.tmps[27]?).getD undef) W:=iq ⟨26,.data⟩ (by simp) rfl;obtain⟨f24,uN,r24⟩:RV w.heap.size 24 ((a1.tmps[28]?).getD undef) W:=iq ⟨27,.data⟩ (by simp) rfl;refine wpOp_step rfl (fun K hK=>?_);rw[if_pos (by rfl)];have HK:=zH hK;clear hK iq;go_simp;generalize hX:W.alloc _=X;obtain⟨hz,hbe⟩:=zA hX;have hc:=hz.cells;have hk:=Keeps.of hbe w.heap.size;refine HK.out _ _ ⟨_,rfl,⟨_,rfl,Bc.out,hz.lt,fun k h1 h2=>?_⟩,hbe⟩
   match k,h1,h2 with
   |0,h1,_=>omega
   |1,_,_=>exact⟨f1,hc 2,hc 3,r1.keeps hk⟩
   |2,_,_=>exact⟨f2,hc 4,hc 5,r2.keeps hk⟩
   |3,_,_=>exact⟨f3,hc 6,hc 7,r3.keeps hk⟩
   |4,_,_=>exact⟨f4,hc 8,hc 9,r4.keeps hk⟩
   |5,_,_=>exact⟨f5,hc 10,hc 11,r5.keeps hk⟩
   |6,_,_=>exact⟨f6,hc 12,hc 13,r6.keeps hk⟩
   |7,_,_=>exact⟨f7,hc 14,hc 15,r7.keeps hk⟩
   |8,_,_=>exact⟨f8,hc 16,hc 17,r8.keeps hk⟩
   |9,_,_=>exact⟨f9,hc 18,hc 19,r9.keeps hk⟩
   |10,_,_=>exact⟨f10,hc 20,hc 21,r10.keeps hk⟩
   |11,_,_=>exact⟨f11,hc 22,hc 23,r11.keeps hk⟩
   |12,_,_=>exact⟨f12,hc 24,hc 25,r12.keeps hk⟩
   |13,_,_=>exact⟨f13,hc 26,hc 27,r13.keeps hk⟩
   |14,_,_=>exact⟨f14,hc 28,hc 29,r14.keeps hk⟩
   |15,_,_=>exact⟨f15,hc 30,hc 31,r15.keeps hk⟩
   |16,_,_=>exact⟨f16,hc 32,hc 33,r16.keeps hk⟩
   |17,_,_=>exact⟨f17,hc 34,hc 35,r17.keeps hk⟩
   |18,_,_=>exact⟨f18,hc 36,hc 37,r18.keeps hk⟩
   |19,_,_=>exact⟨f19,hc 38,hc 39,r19.keeps hk⟩
   |20,_,_=>exact⟨f20,hc 40,hc 41,r20.keeps hk⟩
   |21,_,_=>exact⟨f21,hc 42,hc 43,r21.keeps hk⟩
   |22,_,_=>exact⟨f22,hc 44,hc 45,r22.keeps hk⟩
   |23,_,_=>exact⟨f23,hc 46,hc 47,r23.keeps hk⟩
   |24,_,_=>exact⟨f24,hc 48,hc 49,r24.keeps hk⟩
   |k+25,_,h2=>omega
  |29,ho=>
   injection ho with ho;subst ho;obtain⟨b,h,hr⟩:∃b,(a1.tmps[29]?).getD undef=.slice (some ⟨b,0,none⟩) 25 25/\oW w.heap.size W b:=iq ⟨28,.data⟩ (by simp) rfl;exact xP (Below.refl _ _) (v:=_) ⟨b,rfl,hr⟩
  |i+30,ho=>cases ho
 ·intro a1 W hsz hdf hb hall;obtain⟨b,h,hr⟩:∃b,(a1.tmps[0]?).getD undef=.slice (some ⟨b,0,none⟩) 25 25/\oW w.heap.size W b:=hall 29 (by decide);clear hall;go_wp2;exact bodyPost_ret (v:=.slice (some ⟨b,0,none⟩) 25 25) (by simp[results,Tryz.results159,go_sem,h]) hdf ⟨⟨b,rfl,hr⟩,hb⟩
def o8 (sg:List Sg) (n:Nd):Option Ty:=if jL n.op then dP sg n else some bV
def rowT (ts:List Ty) (row:List Nat):List Ty:=row.map fun k=>ts.getD k bV
def nN (sg:List Sg):List Nd->List (List Nat)->List Ty->List Ty × Int
 |n::r,a::ar,ts=>match o8 sg n with
  |none=>([],12)
  |some own=>if (fH n.op own (rowT ts a)).2 then nN sg r ar (ts++[(fH n.op own (rowT ts a)).1]) else ([],13)
 |_,_,ts=>(ts,0)
def gJ (sg:List Sg) (e:List Nd):List Ty × Int:=if bQ e=0 then nN sg e (lG e) [] else ([],bQ e)
def iU (sg:List Sg) (e:List Nd):Ty × Int:=let r:=gJ sg e;if r.2=0 then (r.1.getD (r.1.length-1) bV,0) else (bV,r.2)
theorem QH:∀(e:List Nd) (k:Nat) (st:List Nat),chk e st.length=0->(∀x∈st,x<k)->∀j (hj:j<e.length),∃row,(iJ e k st)[j]?=some row/\row.length=(aB e[j].op).ops/\(∀x∈row,x<k+j)/\aQ e[j]=0
 |[],_,_,_,_,j,hj=>by simp at hj
 |n::r,k,st,h,hst,j,hj=>by
  obtain⟨h1,h2,h3⟩:=MH h;cases j with
  |zero=>exact⟨_,rfl,by rw[List.length_reverse,List.length_take];exact Nat.min_eq_left h2,fun x hx=>hst x (List.mem_of_mem_take (List.mem_reverse.1 hx)),h1⟩
  |succ j=>
   have ih:=QH r (k+1) (k::st.drop (aB n.op).ops) (by rw[List.length_cons,List.length_drop];exact h3)
    (fun x hx=>by rcases List.mem_cons.1 hx with rfl|hx
                  ·omega
                  ·exact Nat.lt_succ_of_lt (hst x (List.mem_of_mem_drop hx))) j (by simpa using hj)
   obtain⟨row,e1,e2,e3,e4⟩:=ih;exact⟨row,e1,e2,fun x hx=>by have:=e3 x hx;omega,e4⟩
theorem ZC {e:List Nd} (h:bQ e=0) (j:Nat) (hj:j<e.length):∃row,(lG e)[j]?=some row/\row.length=(aB e[j].op).ops/\(∀x∈row,x<j)/\aQ e[j]=0:=by
 unfold bQ at h;split at h
 ·cases h
 ·obtain⟨row,h1,h2,h3,h4⟩:=QH e 0 [] h (fun x hx=>by cases hx) j hj;exact⟨row,h1,h2,fun x hx=>by have:=h3 x hx;omega,h4⟩
theorem G5 {e:List Nd} (h:bQ e=0):0<e.length/\e.length<=60:=by
 unfold bQ at h;split at h
 ·cases h
 ·refine⟨?_,by omega⟩;cases e with
  |nil=>rw[chk] at h;simp at h
  |cons n r=>simp
theorem ZE {n:Nd} (h:aQ n=0):1<=n.op/\n.op<=24:=by
 unfold aQ at h;split at h
 ·cases h
 ·next h'=>
  exact⟨by have:¬n.op<1:=fun h1=>h' (Or.inl h1);omega,by have:¬24<n.op:=fun h1=>h' (Or.inr (Or.inl h1));omega⟩
theorem Ey:bH bV=true:=by decide
theorem vO {l:List Ty} (h:∀t∈l,bH t=true) (i:Nat):bH (l.getD i bV)=true:=by
 rw[List.getD_eq_getElem?_getD];rcases Nat.lt_or_ge i l.length with hi|hi
 ·rw[List.getElem?_eq_getElem hi];exact h _ (List.getElem_mem hi)
 ·rw[List.getElem?_eq_none hi];exact Ey
theorem Py {sg:List Sg} {n:Nd} {t:Ty} (h:dP sg n=some t):bH t=true:=by
 unfold dP at h;obtain⟨s,hs,rfl⟩:=Option.map_eq_some_iff.1 h;have:=List.find?_some hs;unfold jB at this;simp only[Bool.and_eq_true] at this;exact this.2.2.1
theorem Ue {sg:List Sg} {n:Nd} {t:Ty} (h:o8 sg n=some t):bH t=true:=by
 unfold o8 at h;split at h
 ·exact Py h
 ·injection h with h;subst h;exact Ey
theorem Pz (k:Int) (own:Ty) (l:List Ty) (ho:bH own=true) (hl:∀t∈l,bH t=true) (h:(fH k own l).2=true):bH (fH k own l).1=true:=by
 have hA:=vO hl 0;have hB:=vO hl 1;have ht:bH bG=true:=by decide
 revert h
 unfold fH;by_cases h1:k=1
 ·rw[if_pos h1];intro _;decide
 rw[if_neg h1];clear h1;by_cases h1:k=2
 ·rw[if_pos h1];intro _;decide
 rw[if_neg h1];clear h1;by_cases h1:k=3
 ·rw[if_pos h1];intro _;decide
 rw[if_neg h1];clear h1;by_cases h1:k=4
 ·rw[if_pos h1];intro _;decide
 rw[if_neg h1];clear h1;by_cases h1:k<=8
 ·rw[if_pos h1];intro _;exact ho
 rw[if_neg h1];clear h1;by_cases h1:k=11
 ·rw[if_pos h1];intro h;simp only[Bool.and_eq_true] at h;exact h.2.2
 rw[if_neg h1];clear h1;by_cases h1:k=12
 ·rw[if_pos h1];intro h;simp only[Bool.and_eq_true] at h;exact h.2.2
 rw[if_neg h1];clear h1;by_cases h1:k<=14
 ·rw[if_pos h1];intro _;exact hA
 rw[if_neg h1];clear h1;by_cases h1:k=15
 ·rw[if_pos h1];intro _;exact hB
 rw[if_neg h1];clear h1;by_cases h1:k=16
 ·rw[if_pos h1];intro _;exact ht
 rw[if_neg h1];clear h1;by_cases h1:k=17
 ·rw[if_pos h1];intro _;exact ht
 rw[if_neg h1];clear h1;by_cases h1:k<=20
 ·rw[if_pos h1];intro _;exact ht
 rw[if_neg h1];clear h1;by_cases h1:k<=23
 ·rw[if_pos h1];intro _;exact hA
 rw[if_neg h1];clear h1;intro _;exact ho
theorem JQ {sg:List Sg} {n:Nd} {r:List Nd} {a:List Nat} {ar:List (List Nat)} {ts:List Ty} {own:Ty} (h:o8 sg n=some own) (h2:(fH n.op own (rowT ts a)).2=true):
  nN sg (n::r) (a::ar) ts=nN sg r ar (ts++[(fH n.op own (rowT ts a)).1]):=by
 rw[nN,h];simp only[h2,if_true]
theorem JR {sg:List Sg} {n:Nd} {r:List Nd} {a:List Nat} {ar:List (List Nat)} {ts:List Ty} (h:o8 sg n=none):nN sg (n::r) (a::ar) ts=([],12):=by rw[nN,h]
theorem MX {sg:List Sg} {n:Nd} {r:List Nd} {a:List Nat} {ar:List (List Nat)} {ts:List Ty} {own:Ty} (h:o8 sg n=some own) (h2:(fH n.op own (rowT ts a)).2=false):
  nN sg (n::r) (a::ar) ts=([],13):=by
 rw[nN,h];simp only[h2];rfl
theorem Na {sg:List Sg}:∀(r:List Nd) (ar:List (List Nat)) (ts:List Ty),ar.length=r.length->(nN sg r ar ts).2=0->(nN sg r ar ts).1.length=ts.length+r.length
 |[],[],ts,_,_=>rfl
 |n::r,a::ar,ts,hl,h=>by
  cases ho:o8 sg n with
  |none=>rw[JR ho] at h;cases h
  |some own=>
   cases h2:(fH n.op own (rowT ts a)).2 with
   |false=>rw[MX ho h2] at h;cases h
   |true=>
    rw[JQ ho h2] at h⊢;rw[Na r ar _ (by simpa using hl) h];simp;omega
 |[],a::ar,ts,hl,_=>by simp at hl
 |n::r,[],ts,hl,_=>by simp at hl
def Nb (b:Bool) (w:World) (e:Ending) (w':World):Prop:=e=.returned (.bool b)/\Below w.heap.size w w'
theorem Uf (n:Int) (w:World):Calls Tryz.prog 232 #[.int .i64 n] w (Nb (jL n) w):=by
 unfold jL;obtain⟨a,ha⟩:=zF (decide (n≥5));obtain⟨b,hb⟩:=zF (decide (n<=8));rw[Bool.decide_and,show decide (5<=n)=a from ha,hb];cases a<;>cases b<;>simp only[decide_eq_true_eq,decide_eq_false_iff_not] at ha hb
 all_goals
  go_enter Tryz.func232,Tryz.ntmps232;go_wp2;go_ret;exact⟨rfl,Below.refl _ _⟩
theorem WO (m d:Int) (w:World):Calls Tryz.prog 259 #[.agg #[.int .i64 m,.int .i64 d]] w (Nb (gu m d) w):=by
 have hu:gu m d=(decide (m≥-3)&&(decide (m<=3)&&(decide (d≥-3)&&decide (d<=3)))):=by
  unfold gu;rw[Bool.eq_iff_iff];simp only[Bool.and_eq_true,decide_eq_true_eq];omega
 rw[hu];obtain⟨a,ha⟩:=zF (decide (m≥-3));obtain⟨b,hb⟩:=zF (decide (m<=3));obtain⟨c,hc⟩:=zF (decide (d≥-3));obtain⟨f,hf⟩:=zF (decide (d<=3));rw[ha,hb,hc,hf];clear hu;cases a<;>cases b<;>cases c<;>cases f<;>simp only[decide_eq_true_eq,decide_eq_false_iff_not] at ha hb hc hf
 all_goals try (exfalso;omega)
 all_goals
  go_enter Tryz.func259,Tryz.ntmps259
  go_upto_region 1 with fail
  generalize hX:w.alloc _=X;obtain⟨hk,hw⟩:=zA hX;have hk:=hk.cells;clear hX;go_wp2;go_ret;exact⟨rfl,hw⟩
theorem Ug (t:Ty) (w:World):Calls Tryz.prog 233 #[t.v] w (Nb (bH t) w):=by
 obtain⟨t,m,d⟩:=t;unfold Ty.v bH;simp only
 cases t
 ·simp only[Bool.false_eq_true,if_false]
  have HU:=zH (fun W=>WO m d W);go_enter Tryz.func233,Tryz.ntmps233
  go_upto_region 1 with fail
  generalize hX:w.alloc _=X;obtain⟨hk,hw⟩:=zA hX;have hk:=hk.cells;clear hX;go_wp2_with fail;refine (HU.out _).mono ?_;rintro e w1 ⟨rfl,hb⟩;go_wp2;go_ret;exact⟨rfl,ah hw hb⟩
 ·rw[if_pos rfl,show decide ((⟨true,m,d⟩:Ty)=bG)=(decide (m=0)&&decide (d=0)) by unfold bG;rw[Bool.eq_iff_iff];simp];obtain⟨a,ha⟩:=zF (decide (m=0));obtain⟨b,hb⟩:=zF (decide (d=0));rw[ha,hb];cases a<;>cases b<;>simp only[decide_eq_true_eq,decide_eq_false_iff_not] at ha hb
  all_goals
   go_enter Tryz.func233,Tryz.ntmps233
   go_upto_region 1 with fail
   generalize hX:w.alloc _=X;obtain⟨hk,hw⟩:=zA hX;have hk:=hk.cells;clear hX;go_wp2;go_ret
   first|exact⟨rfl,hw⟩|exact⟨rfl,ah hw (zB _ _)⟩
def sS (op:Int) (nm:ByteArray) (s:Sg):Bool:=decide (s.op=op)&&(decide (s.name=nm)&&(jL op&&(bH s.ty&&(decide (op≠24)|| !s.ty.truth))))
def ql (l:List Sg) (op:Int) (nm:ByteArray):Option Ty:=(l.find? (sS op nm)).map Sg.ty
theorem acO (l:List Sg) (n:Nd):ql l n.op n.name=if jL n.op then dP l n else none:=by
 unfold ql dP;cases h:jL n.op
 ·rw[if_neg (by decide),List.find?_eq_none.2 (fun s _=>by unfold sS;rw[h];simp)];rfl
 ·rw[if_pos rfl];congr 2
  funext s
  unfold sS jB;rw[h];by_cases h1:s.op=n.op<;>simp[h1]
def aev (q:Option Ty) (w:World) (e:Ending) (w':World):Prop:=e=.returned (.tuple #[(q.getD bV).v,.bool q.isSome])/\Below w.heap.size w w'
theorem WQ (l:List Sg) (A:Option Addr) (k c:Nat) (nop:Int) (kV:ByteArray) (w:World) (hk:k=l.length) (hm:k<=maxLen) (hr:Rd w A (jf l)):
  Calls Tryz.prog 180 #[.slice A k c,.int .i64 nop,.string kV] w (aev (ql l nop kV) w):=by
 have jG:=zH hk;have hm2:k<=9223372036854775807:=by unfold maxLen at hm;omega
 clear hk hm;go_enter Tryz.func180,Tryz.ntmps180
 go_upto_region 1 with fail
 generalize hX:w.alloc _=W;obtain⟨hk0,hbw⟩:=zA hX;have hle:w.heap.size<=w.heap.size:=Nat.le_refl _;generalize hB:w.heap.size=B at hk0 hle⊢;clear hX;rw[<-hB] at hle;go_wp2
 go_loopg [8] k (fun g iv wr=>∃j:Nat,j+g=k/\iv=.int .i64 j/\Below W.heap.size W wr/\Hid ((l.drop j).find? (sS nop kV)=l.find? (sS nop kV)))
 case atStart=>exact⟨0,by omega,rfl,Below.refl _ _,rfl⟩
 case round=>
  obtain⟨j,hj,rfl,hbr,hf⟩:=hrel;have JU:=hk0.below hbr hk0.lt
  have lV:Hid (∀X v0 v1 v2,Below W.heap.size W X->Below w.heap.size w (((X.setCell ⟨B,0,none⟩ v0).setCell ⟨B,1,none⟩ v1).setCell ⟨B,2,none⟩ v2)):=fun X v0 v1 v2 h=>by
   have h:=ah hbw h;have hl:w.heap.size<=B:=Nat.le_of_eq hB;exact ((h.setCell (p:=⟨B,0,none⟩) hl v0).setCell (p:=⟨B,1,none⟩) hl v1).setCell (p:=⟨B,2,none⟩) hl v2
  by_cases hlt:j<k
  ·have hjl:j<l.length:=by rw[<-jG.out];exact hlt
   obtain⟨b,off,hA,hb,hc⟩:=Rd.row Sg.cells 5 (fun _=>rfl) (by omega) hr hjl;subst hA;have hf2:=hf.out;rw[List.drop_eq_getElem_cons hjl,List.find?_cons] at hf2;replace hf:=zH hf2;generalize l[j]=s at*;obtain⟨dQ,iD,⟨st,sm,sd⟩⟩:=s;have sN:=ah hbw hbr;have d0:=(sN.cell (p:=⟨b,off+j*5+0,none⟩) hb).trans (hc 0 _ rfl);have d1:=(sN.cell (p:=⟨b,off+j*5+1,none⟩) hb).trans (hc 1 _ rfl);have d2:=(sN.cell (p:=⟨b,off+j*5+2,none⟩) hb).trans (hc 2 _ rfl);have d3:=(sN.cell (p:=⟨b,off+j*5+3,none⟩) hb).trans (hc 3 _ rfl);have d4:=(sN.cell (p:=⟨b,off+j*5+4,none⟩) hb).trans (hc 4 _ rfl);simp only[Nat.add_zero] at d0;clear hc sN hf2 JU
   go_upto_region 5 with fail
   generalize hX:wr.alloc _=W5;obtain⟨hk5,hb5⟩:=zA hX;replace hbr:=ah hbr hb5;generalize wr.heap.size=N at hk5⊢;clear hX hb5 d0 d1 d2 d3 d4
   go_cut [8,48] from 10 to 50 (fun jv qv X=>jv=.int .i64 (j:Int)/\qv=.bool (sS nop kV ⟨dQ,iD,⟨st,sm,sd⟩⟩)/\Below W5.heap.size W5 X)
   case first=>
    have hc2:=hk5.cells;by_cases h1:dQ=nop
    ·subst h1;by_cases h2:iD=kV
     ·subst h2;have HE:Hid (sS dQ iD ⟨dQ,iD,⟨st,sm,sd⟩⟩=(jL dQ&&(bH ⟨st,sm,sd⟩&&(decide (dQ≠24)|| !st)))):=by show _=_;unfold sS;simp
      obtain⟨o,ho⟩:=zF (jL dQ);obtain⟨r,hr'⟩:=zF (bH ⟨st,sm,sd⟩);rw[ho,hr'] at HE;go_wp2_with fail;refine (Uf dQ _).mono ?_;rw[ho];rintro e w6 ⟨rfl,hb6⟩;have hc2:=(hk5.below hb6 hk5.lt).cells;clear ho;cases o
      ·go_wp2
       go_meet
       case rel=>exact⟨rfl,by rw[HE.out];rfl,hb6⟩
      ·go_wp2_with fail;refine (Ug ⟨st,sm,sd⟩ _).mono ?_;rw[hr'];rintro e w7 ⟨rfl,hb7⟩;replace hb6:=ah hb6 hb7;have hc2:=(hk5.below hb6 hk5.lt).cells;clear hr' hb7;cases r
       ·go_wp2
        go_meet
        case rel=>exact⟨rfl,by rw[HE.out];rfl,hb6⟩
       ·by_cases h3:dQ=24
        ·subst h3;go_wp2
         go_meet
         case rel=>exact⟨rfl,by rw[HE.out];rfl,hb6⟩
        ·have h3b:(dQ !=24)=true:=by simp[h3]
         have h3c:(dQ==24)=false:=by simp[h3]
         rw[decide_eq_true h3] at HE;clear h3;go_wp2
         go_meet
         case rel=>exact⟨rfl,by rw[HE.out];rfl,hb6⟩
     ·have h2b:¬(iD.toList=kV.toList):=fun h=>h2 (by rw[ByteArray.toList_eq,ByteArray.toList_eq] at h;exact ByteArray.ext (Array.toList_inj.1 h))
      have h2c:(iD.toList==kV.toList)=false:=beq_eq_false_iff_ne.2 h2b;have HE:Hid (sS dQ kV ⟨dQ,iD,⟨st,sm,sd⟩⟩=false):=by show _=_;unfold sS;simp[h2]
      go_wp2
      go_meet
      case rel=>exact⟨rfl,by rw[HE.out],Below.refl _ _⟩
    ·have h1b:(dQ==nop)=false:=beq_eq_false_iff_ne.2 h1;have HE:Hid (sS nop kV ⟨dQ,iD,⟨st,sm,sd⟩⟩=false):=by show _=_;unfold sS;simp[h1]
     go_wp2
     go_meet
     case rel=>exact⟨rfl,by rw[HE.out],Below.refl _ _⟩
   case rest=>
    obtain⟨rfl,hq,hbc⟩:=hcut;have hf2:=hf.out;have wR:=hk5.below hbc hk5.lt;replace hbr:=ah hbr hbc;cases y5:sS nop kV ⟨dQ,iD,⟨st,sm,sd⟩⟩
    ·rw[y5] at hf2 hq;subst hq;replace hf:=zH hf2;clear wR hbc hf2 y5;go_wp2
     go_roundg (k-(j+1))
     case measure=>omega
     case rel=>exact⟨j+1,by omega,by go_num,hbr,hf⟩
    ·rw[y5] at hf2 hq;subst hq;have HQ:Hid (ql l nop kV=some ⟨st,sm,sd⟩):=by show _=_;unfold ql;rw[<-hf2];rfl
     have JU:=hk0.below hbr hk0.lt;have hc1:=JU.cells;have hf1:=JU.aI;have hc2:=wR.cells;clear wR hbc JU hf2 hf y5 hB;go_wp2;refine bodyPost_ret (v:=.tuple #[.agg #[.bool st,.int .i64 sm,.int .i64 sd],.bool true]) (by simp[results,Tryz.results180,go_sem,hc1]) rfl ⟨by rw[HQ.out];rfl,lV.out _ _ _ _ hbr⟩
  ·obtain rfl:j=k:=by omega
   have hf2:=hf.out;rw[jG.out,List.drop_length] at hf2;have HQ:Hid (ql l nop kV=none):=by show _=_;unfold ql;rw[<-hf2];rfl
   have hc1:=JU.cells;have hf1:=JU.aI;clear JU hf2 hf hB;go_wp2;refine bodyPost_ret (v:=.tuple #[.agg #[.bool false,.int .i64 0,.int .i64 0],.bool false]) (by simp[results,Tryz.results180,go_sem,hc1]) rfl ⟨by rw[HQ.out];rfl,lV.out _ _ _ _ hbr⟩
structure Nc (w:World) (ts:List Ty) (A:Option Addr) (n c:Nat):Prop where
 len:n=ts.length
 cap:n<=c
 max:c<=maxLen
 rd:Rd w A (tys ts)
theorem Nc.below {w w':World} {ts:List Ty} {A:Option Addr} {n c:Nat} (h:Nc w ts A n c) (hb:Below w.heap.size w w'):Nc w' ts A n c:=⟨h.len,h.cap,h.max,h.rd.below hb⟩
theorem Nc.at {w:World} {ts:List Ty} {A:Option Addr} {n c j:Nat} (k:Nc w ts A n c) (hj:j<n):∃b off,A=some ⟨b,off,none⟩/\b<w.heap.size/\∀X,Below w.heap.size w X->X.cell? ⟨b,off+j*3,none⟩=some (.bool (ts.getD j bV).truth)/\X.cell? ⟨b,off+j*3+1,none⟩=some (.int .i64 (ts.getD j bV).aN)/\X.cell? ⟨b,off+j*3+2,none⟩=some (.int .i64 (ts.getD j bV).days):=by
 have hx:j<ts.length:=by rw[<-k.len];exact hj
 obtain⟨b,off,hA,hb,hc⟩:=Rd.row Ty.cells 3 (fun _=>rfl) (by omega) k.rd hx;have e:ts.getD j bV=ts[j]:=by rw[List.getD_eq_getElem?_getD,List.getElem?_eq_getElem hx];rfl
 rw[e];have hd:=fun X (hX:Below w.heap.size w X) i v hv=>(hX.cell (p:=⟨b,off+j*3+i,none⟩) hb).trans (hc i v hv)
 exact⟨b,off,hA,hb,fun X hX=>⟨hd X hX 0 _ rfl,hd X hX 1 _ rfl,hd X hX 2 _ rfl⟩⟩
end Go.Proofs.YtimokmplkpbmdaaGreatDoor
