/- A part of the proof: K3 K4 K5 K6 K9. -/
import Derived.Deep.RegionHeld3
import Derived.Deep.AppendLies
import Derived.Test.YtmmbjngbeiokeaaGreatDoorF01
import Derived.Test.YtmmbjngbeiokeaaGreatDoorF21
import Derived.Test.YtmmbjngbeiokeaaGreatDoorF23
set_option linter.unusedVariables false
set_option linter.unusedSimpArgs false
set_option maxRecDepth 100000
set_option maxHeartbeats 40000000
namespace Go.Proofs.YtmmbjngbeiokeaaGreatDoor
open Go.RowKit
def tys (l:List Ty):List Value:=l.flatMap Ty.cells
def sigB (k:Int):Bool:=decide (5≤k∧k≤8)||decide (k=24)
def tA (l:List Ty):Ty:=l.getD 0 tPlain
def tB (l:List Ty):Ty:=l.getD 1 tPlain
def tC (l:List Ty):Ty:=l.getD 2 tPlain
def ruleT (k:Int) (own:Ty) (l:List Ty):Ty × Bool:=
 if k=1 then (tCash,true) else if k=2 then (tDays,true) else if k=3 then (tPlain,true) else if k=4 then (tTruth,true)
 else if k≤8 then (own,true)
 else if k=11 then (⟨false,(tA l).money+(tB l).money,(tA l).days+(tB l).days⟩, !(tA l).truth&&(!(tB l).truth&&unitB ((tA l).money+(tB l).money) ((tA l).days+(tB l).days)))
 else if k=12 then (⟨false,(tA l).money-(tB l).money,(tA l).days-(tB l).days⟩, !(tA l).truth&&(!(tB l).truth&&unitB ((tA l).money-(tB l).money) ((tA l).days-(tB l).days)))
 else if k≤14 then (tA l,decide (tA l=tB l)&& !(tA l).truth)
 else if k=15 then (tB l,decide (tA l=tTruth)&&decide (tB l=tC l))
 else if k=16 then (tTruth,decide (tA l=tB l)&& !(tA l).truth)
 else if k=17 then (tTruth,decide (tA l=tB l))
 else if k≤20 then (tTruth,l.all fun t=>decide (t=tTruth))
 else if k≤23 then (tA l, !(tA l).truth)
 else (own,decide (tA l=own))
theorem rightB_rng {t:Ty} (h:rightB t=true):-3≤t.money∧t.money≤3∧-3≤t.days∧t.days≤3:=by
 unfold rightB at h;split at h
 ·have:=of_decide_eq_true h;rw[this];unfold tTruth;exact⟨by decide,by decide,by decide,by decide⟩
 ·unfold unitB at h;rw[Bool.and_eq_true,decide_eq_true_eq,decide_eq_true_eq] at h;omega
theorem Rd.ty {w:World} {A:Option Addr} {l:List Ty} (h:Rd w A (tys l)) {j:Nat} (hj:j<l.length):
  ∃b off,A=some ⟨b,off,none⟩∧b<w.heap.size∧w.cell? ⟨b,off+j*3,none⟩=some (.bool l[j].truth)∧w.cell? ⟨b,off+j*3+1,none⟩=some (.int .i64 l[j].money)∧w.cell? ⟨b,off+j*3+2,none⟩=some (.int .i64 l[j].days):=by
 obtain⟨b,off,hA,hb,hc⟩:=Rd.row Ty.cells 3 (fun _=>rfl) (by omega) h hj;exact⟨b,off,hA,hb,hc 0 _ rfl,hc 1 _ rfl,hc 2 _ rfl⟩
theorem mkf_run (fn:Fn) (a c:Array Value) (w:World):(Instr.makeFunc fn a c).run Tryz.prog w=.ok (.func fn a c) w:=rfl
theorem st_func (p:Addr) (fn:Fn) (a c:Array Value) (m:Mode) (w:World):(store p (.func fn a c) m).run Tryz.prog w=stored Tryz.prog w p (.func fn a c) m:=run_store _ w p _ m rfl
theorem kItself_any (t:Ty) (w:World):Calls Tryz.prog 181 #[t.v] w fun e w'=>e=.returned t.v∧Below w.heap.size w w':=by
 obtain⟨tr,m,d⟩:=t;unfold Ty.v;simp only
 have HB:=zH (((Below.refl w.heap.size w).alloc (Nat.le_refl _) (.cells #[.bool tr,.int .i64 m,.int .i64 d] 35)).alloc (by rw[World.size_alloc];omega) (.cells #[.bool tr,.int .i64 m,.int .i64 d] 35));go_enter Tryz.func181,Tryz.ntmps181;go_wp2;refine bodyPost_ret (v:=.agg #[.bool tr,.int .i64 m,.int .i64 d]) (by simp[results,Tryz.results181,go_sem]) rfl ?_;exact⟨rfl,HB.out⟩
theorem kDecision_any (t:Ty) (w:World) (hL:LaidK w):Calls Tryz.prog 184 #[t.v] w fun e w'=>e=.returned tTruth.v∧Below w.heap.size w w':=by
 obtain⟨tr,m,d⟩:=t;have hl:=(hL.alloc (.cells #[.bool tr,.int .i64 m,.int .i64 d] 35)).alloc (.cells #[.bool false,.int .i64 0,.int .i64 0] 35);have g0:=hl.truth 0 _ rfl;have g1:=hl.truth 1 _ rfl;have g2:=hl.truth 2 _ rfl;unfold tTruth at g0 g1 g2⊢;unfold Ty.v;simp only at g0 g1 g2⊢;clear hl hL;have HB:=zH (((Below.refl w.heap.size w).alloc (Nat.le_refl _) (.cells #[.bool tr,.int .i64 m,.int .i64 d] 35)).alloc (by rw[World.size_alloc];omega) (.cells #[.bool true,.int .i64 0,.int .i64 0] 35));go_enter Tryz.func184,Tryz.ntmps184;go_wp2;refine bodyPost_ret (v:=.agg #[.bool true,.int .i64 0,.int .i64 0]) (by simp[results,Tryz.results184,go_sem]) rfl ?_;exact⟨rfl,HB.out⟩
theorem kAlways_any (t:Ty) (w:World):Calls Tryz.prog 178 #[t.v] w fun e w'=>∃b,e=.returned (.agg #[.bool false,.func (.func 223) #[] #[.pointer (some ⟨b,0,none⟩)]])∧Blk w' b 35 t.cells∧w.heap.size≤b∧Below w.heap.size w w':=by
 obtain⟨tr,m,d⟩:=t;unfold Ty.v Ty.cells;simp only
 have HB:=fun v=>zH (((Below.refl w.heap.size w).alloc (Nat.le_refl _) (.cells #[.bool tr,.int .i64 m,.int .i64 d] 35)).alloc (by rw[World.size_alloc];omega) (.cells #[.bool false,v] 223))
 have HK:=fun o=>zH ((Blk.new w 35 #[.bool tr,.int .i64 m,.int .i64 d]).alloc o)
 have hmf:=mkf_run;have hsf:=st_func;go_enter Tryz.func178,Tryz.ntmps178;go_wp2;refine bodyPost_ret (v:=.agg #[.bool false,.func (.func 223) #[] #[.pointer (some ⟨w.heap.size,0,none⟩)]]) (by simp[results,Tryz.results178,go_sem]) rfl ?_;exact⟨_,rfl,(HK _).out,Nat.le_refl _,(HB _).out⟩
theorem kAlways1_any (t own:Ty) (x:Value) (b:Nat) (w:World) (h:Blk w b 35 t.cells):Calls Tryz.prog 223 #[own.v,x,.pointer (some ⟨b,0,none⟩)] w fun e w'=>e=.returned (.tuple #[t.v,.bool true])∧Below w.heap.size w w':=by
 obtain⟨tr,m,d⟩:=t;obtain⟨tr',m',d'⟩:=own;unfold Ty.v;unfold Ty.cells at h;simp only at h⊢;have hc:=((h.alloc (.cells #[.bool tr',.int .i64 m',.int .i64 d'] 35)).alloc (.cells #[.bool false,.int .i64 0,.int .i64 0] 35)).cells;have HB:=zH (((Below.refl w.heap.size w).alloc (Nat.le_refl _) (.cells #[.bool tr',.int .i64 m',.int .i64 d'] 35)).alloc (by rw[World.size_alloc];omega) (.cells #[.bool tr,.int .i64 m,.int .i64 d] 35));clear h;go_enter Tryz.func223,Tryz.ntmps223;go_wp2;refine bodyPost_ret (v:=.tuple #[.agg #[.bool tr,.int .i64 m,.int .i64 d],.bool true]) (by simp[results,Tryz.results223,go_sem]) rfl ?_;exact⟨rfl,HB.out⟩
theorem kNamed_any (w:World):Calls Tryz.prog 179 #[] w fun e w'=>e=.returned (.agg #[.bool true,.func (.func 224) #[] #[]])∧Below w.heap.size w w':=by
 have HB:=fun v=>zH ((Below.refl w.heap.size w).alloc (Nat.le_refl _) (.cells #[.bool true,v] 223))
 have hmf:=mkf_run;have hsf:=st_func;go_enter Tryz.func179,Tryz.ntmps179;go_wp2;refine bodyPost_ret (v:=.agg #[.bool true,.func (.func 224) #[] #[]]) (by simp[results,Tryz.results179,go_sem]) rfl ?_;exact⟨rfl,(HB _).out⟩
theorem kNamed1_any (own:Ty) (x:Value) (w:World):Calls Tryz.prog 224 #[own.v,x] w fun e w'=>e=.returned (.tuple #[own.v,.bool true])∧Below w.heap.size w w':=by
 obtain⟨tr,m,d⟩:=own;unfold Ty.v;simp only
 have HB:=zH (((Below.refl w.heap.size w).alloc (Nat.le_refl _) (.cells #[.bool tr,.int .i64 m,.int .i64 d] 35)).alloc (by rw[World.size_alloc];omega) (.cells #[.bool tr,.int .i64 m,.int .i64 d] 35));go_enter Tryz.func224,Tryz.ntmps224;go_wp2;refine bodyPost_ret (v:=.tuple #[.agg #[.bool tr,.int .i64 m,.int .i64 d],.bool true]) (by simp[results,Tryz.results224,go_sem]) rfl ?_;exact⟨rfl,HB.out⟩
theorem kAlike_any (f:Nat) (w:World):Calls Tryz.prog 180 #[.func (.func f) #[] #[]] w fun e w'=>∃b,e=.returned (.agg #[.bool false,.func (.func 225) #[] #[.pointer (some ⟨b,0,none⟩)]])∧Blk w' b 264 [.func (.func f) #[] #[]]∧w.heap.size≤b∧Below w.heap.size w w':=by
 have HB:=fun v=>zH (((Below.refl w.heap.size w).alloc (Nat.le_refl _) (.cells #[.func (.func f) #[] #[]] 264)).alloc (by rw[World.size_alloc];omega) (.cells #[.bool false,v] 223))
 have HK:=fun o=>zH ((Blk.new w 264 #[.func (.func f) #[] #[]]).alloc o)
 have hmf:=mkf_run;have hsf:=st_func;go_enter Tryz.func180,Tryz.ntmps180;go_wp2;refine bodyPost_ret (v:=.agg #[.bool false,.func (.func 225) #[] #[.pointer (some ⟨w.heap.size,0,none⟩)]]) (by simp[results,Tryz.results180,go_sem]) rfl ?_;exact⟨_,rfl,(HK _).out,Nat.le_refl _,(HB _).out⟩
theorem kProduct_any (s:Int) (w:World):Calls Tryz.prog 182 #[.int .i64 s] w fun e w'=>∃b,e=.returned (.agg #[.bool false,.func (.func 226) #[] #[.pointer (some ⟨b,0,none⟩)]])∧Blk w' b 3 [.int .i64 s]∧w.heap.size≤b∧Below w.heap.size w w':=by
 have HB:=fun v=>zH (((Below.refl w.heap.size w).alloc (Nat.le_refl _) (.cells #[.int .i64 s] 3)).alloc (by rw[World.size_alloc];omega) (.cells #[.bool false,v] 223))
 have HK:=fun o=>zH ((Blk.new w 3 #[.int .i64 s]).alloc o)
 have hmf:=mkf_run;have hsf:=st_func;go_enter Tryz.func182,Tryz.ntmps182;go_wp2;refine bodyPost_ret (v:=.agg #[.bool false,.func (.func 226) #[] #[.pointer (some ⟨w.heap.size,0,none⟩)]]) (by simp[results,Tryz.results182,go_sem]) rfl ?_;exact⟨_,rfl,(HK _).out,Nat.le_refl _,(HB _).out⟩
theorem kTruths_any (w:World):Calls Tryz.prog 186 #[] w fun e w'=>e=.returned (.agg #[.bool false,.func (.func 227) #[] #[]])∧Below w.heap.size w w':=by
 have HB:=fun v=>zH ((Below.refl w.heap.size w).alloc (Nat.le_refl _) (.cells #[.bool false,v] 223))
 have hmf:=mkf_run;have hsf:=st_func;go_enter Tryz.func186,Tryz.ntmps186;go_wp2;refine bodyPost_ret (v:=.agg #[.bool false,.func (.func 227) #[] #[]]) (by simp[results,Tryz.results186,go_sem]) rfl ?_;exact⟨rfl,(HB _).out⟩
theorem kRounded_any (w:World):Calls Tryz.prog 187 #[] w fun e w'=>e=.returned (.agg #[.bool false,.func (.func 228) #[] #[]])∧Below w.heap.size w w':=by
 have HB:=fun v=>zH ((Below.refl w.heap.size w).alloc (Nat.le_refl _) (.cells #[.bool false,v] 223))
 have hmf:=mkf_run;have hsf:=st_func;go_enter Tryz.func187,Tryz.ntmps187;go_wp2;refine bodyPost_ret (v:=.agg #[.bool false,.func (.func 228) #[] #[]]) (by simp[results,Tryz.results187,go_sem]) rfl ?_;exact⟨rfl,(HB _).out⟩
structure TyAt (w:World) (b off:Nat) (t:Ty):Prop where
 lt:b<w.heap.size
 c0:w.cell? ⟨b,off,none⟩=some (.bool t.truth)
 c1:w.cell? ⟨b,off+1,none⟩=some (.int .i64 t.money)
 c2:w.cell? ⟨b,off+2,none⟩=some (.int .i64 t.days)
theorem TyAt.below {w w':World} {b off:Nat} {t:Ty} (h:TyAt w b off t) (hb:Below w.heap.size w w'):TyAt w' b off t:=
 ⟨Nat.lt_of_lt_of_le h.lt hb.size,(hb.cell h.lt).trans h.c0,(hb.cell h.lt).trans h.c1,(hb.cell h.lt).trans h.c2⟩
theorem Rd.tyAt {w:World} {A:Option Addr} {l:List Ty} (h:Rd w A (tys l)) (hl:0<l.length):∃b off,A=some ⟨b,off,none⟩∧∀j (hj:j<l.length),TyAt w b (off+j*3) l[j]:=by
 obtain⟨b,off,hA,hb,_⟩:=h.ty hl;refine⟨b,off,hA,fun j hj=>?_⟩;obtain⟨b',off',hA',hb',h0,h1,h2⟩:=h.ty hj;rw[hA] at hA';injection hA' with hA';injection hA' with h3 h4;subst h3 h4;exact⟨hb',h0,h1,h2⟩
structure Fr2 (w:World) (B:Nat) (own:Ty) (W:World):Prop where
 b:B=w.heap.size
 o:Blk W B 35 [.bool own.truth,.int .i64 own.money,.int .i64 own.days]
 r:Blk W (B+1) 35 [.bool false,.int .i64 0,.int .i64 0]
 w:Below w.heap.size w W
theorem Fr2.new (w:World) (tr:Bool) (m d:Int):Fr2 w w.heap.size ⟨tr,m,d⟩ ((w.alloc (.cells #[.bool tr,.int .i64 m,.int .i64 d] 35)).alloc (.cells #[.bool false,.int .i64 0,.int .i64 0] 35)):=by
 refine⟨rfl,(Blk.new w _ _).alloc _,?_,(zB _ _).alloc (by rw[World.size_alloc];omega) _⟩;have h:=Blk.new (w.alloc (.cells #[.bool tr,.int .i64 m,.int .i64 d] 35)) 35 #[.bool false,.int .i64 0,.int .i64 0];rw[World.size_alloc] at h;exact h
theorem below_st3 {w W:World} {B:Nat} (h:Below w.heap.size w W) (hB:w.heap.size≤B) (v0 v1 v2:Value):Below w.heap.size w (((W.setCell ⟨B,0,none⟩ v0).setCell ⟨B,1,none⟩ v1).setCell ⟨B,2,none⟩ v2):=
 ((h.setCell (p:=⟨B,0,none⟩) hB v0).setCell (p:=⟨B,1,none⟩) hB v1).setCell (p:=⟨B,2,none⟩) hB v2
theorem kRounded1_any (own a:Ty) (A:Option Addr) (c:Nat) (w:World) (hr:Rd w A (tys [a])) (hc:1≤c):Calls Tryz.prog 228 #[own.v,.slice A 1 c] w fun e w'=>e=.returned (.tuple #[a.v,.bool (!a.truth)])∧Below w.heap.size w w':=by
 obtain⟨b,off,rfl,hat⟩:=hr.tyAt (by simp);obtain⟨tr,m,d⟩:=own;have hfr:=Fr2.new w tr m d;obtain⟨W,hW⟩:=zE ((w.alloc (.cells #[.bool tr,.int .i64 m,.int .i64 d] 35)).alloc (.cells #[.bool false,.int .i64 0,.int .i64 0] 35));obtain⟨B,hB⟩:=zE w.heap.size;rw[←hW,←hB] at hfr;have q0:=(hat 0 (by simp)).below hfr.w;simp only[List.getElem_cons_zero,List.getElem_cons_succ,Nat.zero_mul,Nat.add_zero,Nat.one_mul] at q0;have HF:=zH hfr;have HBB:=zH hB;have hbB:b<B:=by rw[hB];exact (hat 0 (by simp)).lt
 have hne:¬(b=B+1):=by omega
 have hne2:¬(B+1=b):=by omega
 have hne3:¬(b=B):=by omega
 obtain⟨at_,am,ad⟩:=a;have HQ0:=zH (q0.below (drewN_below W.heap.size W 1));obtain⟨hlt0,x00,x01,x02⟩:=q0;have hcr:=hfr.r.cells;have hfR:=hfr.r.froz;have hco:=hfr.o.cells;unfold Ty.v;simp only at x00 x01 x02⊢;clear hr hat hfr;go_enter Tryz.func228,Tryz.ntmps228
 go_upto_region 1 with fail
 simp only[←hW,←hB]
 clear hW hB;go_region;go_wp2;refine bodyPost_ret (v:=.tuple #[.agg #[.bool at_,.int .i64 am,.int .i64 ad],.bool (!at_)]) (by simp[results,Tryz.results228,go_sem,hcr]) rfl ⟨rfl,?_⟩;exact below_drewN (below_st3 (B:=B+1) HF.out.w (by have:=HBB.out;omega) _ _ _) 1
theorem kRate1_any (own a:Ty) (A:Option Addr) (c:Nat) (w:World) (hr:Rd w A (tys [a])) (hc:1≤c):Calls Tryz.prog 188 #[own.v,.slice A 1 c] w fun e w'=>e=.returned (.tuple #[own.v,.bool (decide (a=own))])∧Below w.heap.size w w':=by
 obtain⟨b,off,rfl,hat⟩:=hr.tyAt (by simp);obtain⟨tr,m,d⟩:=own;have hfr:=Fr2.new w tr m d;obtain⟨W,hW⟩:=zE ((w.alloc (.cells #[.bool tr,.int .i64 m,.int .i64 d] 35)).alloc (.cells #[.bool false,.int .i64 0,.int .i64 0] 35));obtain⟨B,hB⟩:=zE w.heap.size;rw[←hW,←hB] at hfr;have q0:=(hat 0 (by simp)).below hfr.w;simp only[List.getElem_cons_zero,List.getElem_cons_succ,Nat.zero_mul,Nat.add_zero,Nat.one_mul] at q0;have HF:=zH hfr;have HBB:=zH hB;have hbB:b<B:=by rw[hB];exact (hat 0 (by simp)).lt
 have hne:¬(b=B+1):=by omega
 have hne2:¬(B+1=b):=by omega
 have hne3:¬(b=B):=by omega
 obtain⟨at_,am,ad⟩:=a;have HQ0:=zH (q0.below (drewN_below W.heap.size W 1));obtain⟨hlt0,x00,x01,x02⟩:=q0;have hcr:=hfr.r.cells;have hfR:=hfr.r.froz;have hco:=hfr.o.cells;unfold Ty.v;simp only at x00 x01 x02⊢;clear hr hat hfr;obtain⟨dq0,hdq0⟩:∃dq,decide ((⟨at_,am,ad⟩:Ty)=⟨tr,m,d⟩)=dq:=⟨_,rfl⟩
 have HE0:=fun W=>eql_ty ⟨at_,am,ad⟩ ⟨tr,m,d⟩ W
 rw[hdq0];simp only[hdq0,Ty.v] at HE0;clear hdq0;go_enter Tryz.func188,Tryz.ntmps188
 go_upto_region 1 with fail
 simp only[←hW,←hB]
 clear hW hB;go_region;go_wp2;refine bodyPost_ret (v:=.tuple #[.agg #[.bool tr,.int .i64 m,.int .i64 d],.bool dq0]) (by simp[results,Tryz.results188,go_sem,hcr]) rfl ⟨rfl,?_⟩;exact below_drewN (below_st3 (B:=B+1) HF.out.w (by have:=HBB.out;omega) _ _ _) 1
theorem kEqual_any (own a b':Ty) (A:Option Addr) (c:Nat) (w:World) (hL:LaidK w) (hr:Rd w A (tys [a,b'])) (hc:2≤c):Calls Tryz.prog 185 #[own.v,.slice A 2 c] w fun e w'=>e=.returned (.tuple #[tTruth.v,.bool (decide (a=b'))])∧Below w.heap.size w w':=by
 obtain⟨b,off,rfl,hat⟩:=hr.tyAt (by simp);obtain⟨tr,m,d⟩:=own;have hfr:=Fr2.new w tr m d;obtain⟨W,hW⟩:=zE ((w.alloc (.cells #[.bool tr,.int .i64 m,.int .i64 d] 35)).alloc (.cells #[.bool false,.int .i64 0,.int .i64 0] 35));obtain⟨B,hB⟩:=zE w.heap.size;rw[←hW,←hB] at hfr;have q0:=(hat 0 (by simp)).below hfr.w;simp only[List.getElem_cons_zero,List.getElem_cons_succ,Nat.zero_mul,Nat.add_zero,Nat.one_mul] at q0;have q1:=(hat 1 (by simp)).below hfr.w;simp only[List.getElem_cons_zero,List.getElem_cons_succ,Nat.zero_mul,Nat.add_zero,Nat.one_mul] at q1;have HF:=zH hfr;have HBB:=zH hB;have hbB:b<B:=by rw[hB];exact (hat 0 (by simp)).lt
 have hne:¬(b=B+1):=by omega
 have hne2:¬(B+1=b):=by omega
 have hne3:¬(b=B):=by omega
 obtain⟨at_,am,ad⟩:=a;have HQ0:=zH (q0.below (drewN_below W.heap.size W 1));obtain⟨hlt0,x00,x01,x02⟩:=q0;obtain⟨bt,bm,bd⟩:=b';have HQ1:=zH (q1.below (drewN_below W.heap.size W 1));obtain⟨hlt1,x10,x11,x12⟩:=q1;have hlw:=hL.below hfr.w;have HLD:=zH (hlw.drewN 1);have g0:=hlw.truth 0 _ rfl;have g1:=hlw.truth 1 _ rfl;have g2:=hlw.truth 2 _ rfl;unfold tTruth at g0 g1 g2⊢;have hng:¬(8=B+1):=by have:=hL.lt.2.2.2.2;omega
 have hng2:¬(B+1=8):=by have:=hL.lt.2.2.2.2;omega
 simp only at g0 g1 g2;clear hlw hL;have hcr:=hfr.r.cells;have hfR:=hfr.r.froz;have hco:=hfr.o.cells;unfold Ty.v;simp only at x00 x01 x02 x10 x11 x12⊢;clear hr hat hfr;obtain⟨dq0,hdq0⟩:∃dq,decide ((⟨at_,am,ad⟩:Ty)=⟨bt,bm,bd⟩)=dq:=⟨_,rfl⟩
 have HE0:=fun W=>eql_ty ⟨at_,am,ad⟩ ⟨bt,bm,bd⟩ W
 rw[hdq0];simp only[hdq0,Ty.v] at HE0;clear hdq0;go_enter Tryz.func185,Tryz.ntmps185
 go_upto_region 1 with fail
 simp only[←hW,←hB]
 clear hW hB;go_region;go_wp2;refine bodyPost_ret (v:=.tuple #[.agg #[.bool true,.int .i64 0,.int .i64 0],.bool dq0]) (by simp[results,Tryz.results185,go_sem,hcr]) rfl ⟨rfl,?_⟩;exact below_drewN (below_st3 (B:=B+1) HF.out.w (by have:=HBB.out;omega) _ _ _) 1
theorem kIf_any (own a b' c':Ty) (A:Option Addr) (c:Nat) (w:World) (hL:LaidK w) (hr:Rd w A (tys [a,b',c'])) (hc:3≤c):Calls Tryz.prog 183 #[own.v,.slice A 3 c] w fun e w'=>e=.returned (.tuple #[b'.v,.bool (decide (a=tTruth)&&decide (b'=c'))])∧Below w.heap.size w w':=by
 obtain⟨b,off,rfl,hat⟩:=hr.tyAt (by simp);obtain⟨tr,m,d⟩:=own;have hfr:=Fr2.new w tr m d;obtain⟨W,hW⟩:=zE ((w.alloc (.cells #[.bool tr,.int .i64 m,.int .i64 d] 35)).alloc (.cells #[.bool false,.int .i64 0,.int .i64 0] 35));obtain⟨B,hB⟩:=zE w.heap.size;rw[←hW,←hB] at hfr;have q0:=(hat 0 (by simp)).below hfr.w;simp only[List.getElem_cons_zero,List.getElem_cons_succ,Nat.zero_mul,Nat.add_zero,Nat.one_mul] at q0;have q1:=(hat 1 (by simp)).below hfr.w;simp only[List.getElem_cons_zero,List.getElem_cons_succ,Nat.zero_mul,Nat.add_zero,Nat.one_mul] at q1;have q2:=(hat 2 (by simp)).below hfr.w;simp only[List.getElem_cons_zero,List.getElem_cons_succ,Nat.zero_mul,Nat.add_zero,Nat.one_mul] at q2;have HF:=zH hfr;have HBB:=zH hB;have hbB:b<B:=by rw[hB];exact (hat 0 (by simp)).lt
 have hne:¬(b=B+1):=by omega
 have hne2:¬(B+1=b):=by omega
 have hne3:¬(b=B):=by omega
 obtain⟨at_,am,ad⟩:=a;have HQ0:=zH (q0.below (drewN_below W.heap.size W 1));obtain⟨hlt0,x00,x01,x02⟩:=q0;obtain⟨bt,bm,bd⟩:=b';have HQ1:=zH (q1.below (drewN_below W.heap.size W 1));obtain⟨hlt1,x10,x11,x12⟩:=q1;obtain⟨ct,cm,cd⟩:=c';have HQ2:=zH (q2.below (drewN_below W.heap.size W 1));obtain⟨hlt2,x20,x21,x22⟩:=q2;have hlw:=hL.below hfr.w;have HLD:=zH (hlw.drewN 1);have g0:=hlw.truth 0 _ rfl;have g1:=hlw.truth 1 _ rfl;have g2:=hlw.truth 2 _ rfl;unfold tTruth at g0 g1 g2⊢;have hng:¬(8=B+1):=by have:=hL.lt.2.2.2.2;omega
 have hng2:¬(B+1=8):=by have:=hL.lt.2.2.2.2;omega
 simp only at g0 g1 g2;clear hlw hL;have hcr:=hfr.r.cells;have hfR:=hfr.r.froz;have hco:=hfr.o.cells;unfold Ty.v;simp only at x00 x01 x02 x10 x11 x12 x20 x21 x22⊢;clear hr hat hfr;obtain⟨dq0,hdq0⟩:∃dq,decide ((⟨at_,am,ad⟩:Ty)=⟨true,0,0⟩)=dq:=⟨_,rfl⟩
 have HE0:=fun W=>eql_ty ⟨at_,am,ad⟩ ⟨true,0,0⟩ W
 rw[hdq0];simp only[hdq0,Ty.v] at HE0;clear hdq0;obtain⟨dq1,hdq1⟩:∃dq,decide ((⟨bt,bm,bd⟩:Ty)=⟨ct,cm,cd⟩)=dq:=⟨_,rfl⟩
 have HE1:=fun W=>eql_ty ⟨bt,bm,bd⟩ ⟨ct,cm,cd⟩ W
 rw[hdq1];simp only[hdq1,Ty.v] at HE1;clear hdq1;cases dq0
 ·simp only[Bool.false_and]
  go_enter Tryz.func183,Tryz.ntmps183
  go_upto_region 1 with fail
  simp only[←hW,←hB]
  clear hW hB;go_region;go_wp2;refine bodyPost_ret (v:=.tuple #[.agg #[.bool bt,.int .i64 bm,.int .i64 bd],.bool false]) (by simp[results,Tryz.results183,go_sem,hcr]) rfl ⟨rfl,?_⟩;exact below_drewN (below_st3 (B:=B+1) HF.out.w (by have:=HBB.out;omega) _ _ _) 1
 ·simp only[Bool.true_and]
  go_enter Tryz.func183,Tryz.ntmps183
  go_upto_region 1 with fail
  simp only[←hW,←hB]
  clear hW hB;go_region;go_wp2;refine bodyPost_ret (v:=.tuple #[.agg #[.bool bt,.int .i64 bm,.int .i64 bd],.bool dq1]) (by simp[results,Tryz.results183,go_sem,hcr]) rfl ⟨rfl,?_⟩;exact below_drewN (below_st3 (B:=B+1) HF.out.w (by have:=HBB.out;omega) _ _ _) 1
theorem kAlikeI_any (own a b':Ty) (A:Option Addr) (c fb:Nat) (w:World) (hr:Rd w A (tys [a,b'])) (hc:2≤c) (hfb:Blk w fb 264 [.func (.func 181) #[] #[]]):Calls Tryz.prog 225 #[own.v,.slice A 2 c,.pointer (some ⟨fb,0,none⟩)] w fun e w'=>e=.returned (.tuple #[a.v,.bool (decide (a=b')&& !a.truth)])∧Below w.heap.size w w':=by
 obtain⟨b,off,rfl,hat⟩:=hr.tyAt (by simp);obtain⟨tr,m,d⟩:=own;have hfr:=Fr2.new w tr m d;obtain⟨W,hW⟩:=zE ((w.alloc (.cells #[.bool tr,.int .i64 m,.int .i64 d] 35)).alloc (.cells #[.bool false,.int .i64 0,.int .i64 0] 35));obtain⟨B,hB⟩:=zE w.heap.size;rw[←hW,←hB] at hfr;have q0:=(hat 0 (by simp)).below hfr.w;simp only[List.getElem_cons_zero,List.getElem_cons_succ,Nat.zero_mul,Nat.add_zero,Nat.one_mul] at q0;have q1:=(hat 1 (by simp)).below hfr.w;simp only[List.getElem_cons_zero,List.getElem_cons_succ,Nat.zero_mul,Nat.add_zero,Nat.one_mul] at q1;have hfc:=(hfb.below hfr.w hfb.lt).cells;have hnf:¬(B+1=fb):=by have:=hfb.lt;omega
 have HFB:=zH ((hfb.below hfr.w hfb.lt).drewN 1);have HF:=zH hfr;have HBB:=zH hB;have hbB:b<B:=by rw[hB];exact (hat 0 (by simp)).lt
 have hne:¬(b=B+1):=by omega
 have hne2:¬(B+1=b):=by omega
 have hne3:¬(b=B):=by omega
 obtain⟨at_,am,ad⟩:=a;have HQ0:=zH (q0.below (drewN_below W.heap.size W 1));obtain⟨hlt0,x00,x01,x02⟩:=q0;obtain⟨bt,bm,bd⟩:=b';have HQ1:=zH (q1.below (drewN_below W.heap.size W 1));obtain⟨hlt1,x10,x11,x12⟩:=q1;have hcr:=hfr.r.cells;have hfR:=hfr.r.froz;have hco:=hfr.o.cells;unfold Ty.v;simp only at x00 x01 x02 x10 x11 x12⊢;clear hr hat hfr hfb hco;obtain⟨dq0,hdq0⟩:∃dq,decide ((⟨at_,am,ad⟩:Ty)=⟨bt,bm,bd⟩)=dq:=⟨_,rfl⟩
 have HE0:=fun W=>eql_ty ⟨at_,am,ad⟩ ⟨bt,bm,bd⟩ W
 rw[hdq0];simp only[hdq0,Ty.v] at HE0;clear hdq0;cases dq0
 ·simp only[Bool.false_and]
  go_enter Tryz.func225,Tryz.ntmps225
  go_upto_region 1 with fail
  simp only[←hW,←hB]
  clear hW hB;refine wp_region_noPanic ?_;refine wp_region_held_drew (S:=fun w'=>w'.cell? ⟨fb,0,none⟩=some (.func (.func 181) #[] #[])∧w'.cell? ⟨b,off,none⟩=some (.bool at_)∧w'.cell? ⟨b,off+1,none⟩=some (.int .i64 am)∧w'.cell? ⟨b,off+2,none⟩=some (.int .i64 ad)∧w'.cell? ⟨b,off+3,none⟩=some (.bool bt)∧w'.cell? ⟨b,off+3+1,none⟩=some (.int .i64 bm)∧w'.cell? ⟨b,off+3+2,none⟩=some (.int .i64 bd)) (by kernel_rfl) ⟨hfc 0,x00,x01,x02,x10,x11,x12⟩ (fun hHeld=>?_);refine tkZ 0 ?_;refine tkZ 1 ?_;refine tkZ 2 ?_;refine tkZ 3 ?_;refine tkZ 5 ?_;refine tkZ 6 ?_;refine tkZ 7 ?_;refine tkZ 8 ?_;refine tkZ 9 ?_;refine tkZ 10 ?_;refine tkY 11 (.bool false) rfl ?_ ?_
  ·intro w hSw;(try dsimp only at hSw);go_simp
   all_goals with_reducible rfl
  try simp only[Act.put,tk1,tk2,tk3,tk4,tk5,tk6]
  refine tkR 4 fun K hK=>?_
  go_simp
  go_at_call 181
  refine (kItself_any ⟨at_,am,ad⟩ _).mono ?_;rintro e w5 ⟨rfl,hb5⟩;simp only[Ty.v,tTruth]
  have hz0:=HQ0.out.below hb5;have hz1:=HQ1.out.below hb5;obtain⟨_,y0,y1,y2⟩:=hz0;obtain⟨_,z0,z1,z2⟩:=hz1;simp only at y0 y1 y2 z0 z1 z2;have hkr:=(HF.out.r.drew).below hb5 HF.out.r.lt;have hcr:=hkr.cells;have hfR:=hkr.froz;have HBE:=zH (bstep (below_drewN HF.out.w 1) hb5);have hfb5:=(HFB.out.below hb5 HFB.out.lt).cells 0;go_wp2_with fail;refine tkK hK (⟨hfb5,y0,y1,y2,z0,z1,z2⟩) fun hHeld=>?_
  clear hK K;refine tkZ 12 ?_;refine tkN 13 rfl ?_
  try simp only[Act.put,tk1,tk2,tk3,tk4,tk5,tk6]
  refine tkN 14 rfl ?_
  try simp only[Act.put,tk1,tk2,tk3,tk4,tk5,tk6]
  refine tkN 15 rfl ?_
  try simp only[Act.put,tk1,tk2,tk3,tk4,tk5,tk6]
  refine tkN 16 rfl ?_
  try simp only[Act.put,tk1,tk2,tk3,tk4,tk5,tk6]
  refine tkN 17 rfl ?_
  try simp only[Act.put,tk1,tk2,tk3,tk4,tk5,tk6]
  refine tkZ 18 ?_;refine tkR 19 fun K hK=>?_
  go_simp;go_wp2_with fail;refine tkK hK (by refine⟨?_,?_,?_,?_,?_,?_,?_⟩<;>(rw[World.cell?_setCell_far _ _ _ _ ?_,World.cell?_setCell_far _ _ _ _ ?_,World.cell?_setCell_far _ _ _ _ ?_]<;>first|assumption|exact hne2|exact hnf)) fun hHeld=>?_
  clear hK K;refine tkZ 20 ?_;refine wpAnyH_done (by kernel_rfl) ?_ _;refine NoPanic.normal ?_;go_wp2;refine bodyPost_ret (v:=.tuple #[.agg #[.bool at_,.int .i64 am,.int .i64 ad],.bool false]) (by simp[results,Tryz.results225,go_sem,hcr]) rfl ⟨rfl,?_⟩;exact (below_st3 (B:=B+1) HBE.out (by have:=HBB.out;omega) _ _ _)
 ·simp only[Bool.true_and]
  go_enter Tryz.func225,Tryz.ntmps225
  go_upto_region 1 with fail
  simp only[←hW,←hB]
  clear hW hB;refine wp_region_noPanic ?_;refine wp_region_held_drew (S:=fun w'=>w'.cell? ⟨fb,0,none⟩=some (.func (.func 181) #[] #[])∧w'.cell? ⟨b,off,none⟩=some (.bool at_)∧w'.cell? ⟨b,off+1,none⟩=some (.int .i64 am)∧w'.cell? ⟨b,off+2,none⟩=some (.int .i64 ad)∧w'.cell? ⟨b,off+3,none⟩=some (.bool bt)∧w'.cell? ⟨b,off+3+1,none⟩=some (.int .i64 bm)∧w'.cell? ⟨b,off+3+2,none⟩=some (.int .i64 bd)) (by kernel_rfl) ⟨hfc 0,x00,x01,x02,x10,x11,x12⟩ (fun hHeld=>?_);refine tkZ 0 ?_;refine tkZ 1 ?_;refine tkZ 2 ?_;refine tkZ 3 ?_;refine tkZ 5 ?_;refine tkZ 6 ?_;refine tkZ 7 ?_;refine tkZ 8 ?_;refine tkZ 9 ?_;refine tkZ 10 ?_;refine tkY 11 (.bool true) rfl ?_ ?_
  ·intro w hSw;(try dsimp only at hSw);go_simp
   all_goals with_reducible rfl
  try simp only[Act.put,tk1,tk2,tk3,tk4,tk5,tk6]
  refine tkR 4 fun K hK=>?_
  go_simp
  go_at_call 181
  refine (kItself_any ⟨at_,am,ad⟩ _).mono ?_;rintro e w5 ⟨rfl,hb5⟩;simp only[Ty.v,tTruth]
  have hz0:=HQ0.out.below hb5;have hz1:=HQ1.out.below hb5;obtain⟨_,y0,y1,y2⟩:=hz0;obtain⟨_,z0,z1,z2⟩:=hz1;simp only at y0 y1 y2 z0 z1 z2;have hkr:=(HF.out.r.drew).below hb5 HF.out.r.lt;have hcr:=hkr.cells;have hfR:=hkr.froz;have HBE:=zH (bstep (below_drewN HF.out.w 1) hb5);have hfb5:=(HFB.out.below hb5 HFB.out.lt).cells 0;go_wp2_with fail;refine tkK hK (⟨hfb5,y0,y1,y2,z0,z1,z2⟩) fun hHeld=>?_
  clear hK K;refine tkZ 12 ?_;refine tkZ 13 ?_;refine tkZ 14 ?_;refine tkZ 15 ?_;refine tkZ 16 ?_;refine tkZ 17 ?_;refine tkZ 18 ?_;refine tkR 19 fun K hK=>?_
  go_simp;go_wp2_with fail;refine tkK hK (by refine⟨?_,?_,?_,?_,?_,?_,?_⟩<;>(rw[World.cell?_setCell_far _ _ _ _ ?_,World.cell?_setCell_far _ _ _ _ ?_,World.cell?_setCell_far _ _ _ _ ?_]<;>first|assumption|exact hne2|exact hnf)) fun hHeld=>?_
  clear hK K;refine tkZ 20 ?_;refine wpAnyH_done (by kernel_rfl) ?_ _;refine NoPanic.normal ?_;go_wp2;refine bodyPost_ret (v:=.tuple #[.agg #[.bool at_,.int .i64 am,.int .i64 ad],.bool (!at_)]) (by simp[results,Tryz.results225,go_sem,hcr]) rfl ⟨rfl,?_⟩;exact (below_st3 (B:=B+1) HBE.out (by have:=HBB.out;omega) _ _ _)
theorem kAlikeD_any (own a b':Ty) (A:Option Addr) (c fb:Nat) (w:World) (hL:LaidK w) (hr:Rd w A (tys [a,b'])) (hc:2≤c) (hfb:Blk w fb 264 [.func (.func 184) #[] #[]]):Calls Tryz.prog 225 #[own.v,.slice A 2 c,.pointer (some ⟨fb,0,none⟩)] w fun e w'=>e=.returned (.tuple #[tTruth.v,.bool (decide (a=b')&& !a.truth)])∧Below w.heap.size w w':=by
 obtain⟨b,off,rfl,hat⟩:=hr.tyAt (by simp);obtain⟨tr,m,d⟩:=own;have hfr:=Fr2.new w tr m d;obtain⟨W,hW⟩:=zE ((w.alloc (.cells #[.bool tr,.int .i64 m,.int .i64 d] 35)).alloc (.cells #[.bool false,.int .i64 0,.int .i64 0] 35));obtain⟨B,hB⟩:=zE w.heap.size;rw[←hW,←hB] at hfr;have q0:=(hat 0 (by simp)).below hfr.w;simp only[List.getElem_cons_zero,List.getElem_cons_succ,Nat.zero_mul,Nat.add_zero,Nat.one_mul] at q0;have q1:=(hat 1 (by simp)).below hfr.w;simp only[List.getElem_cons_zero,List.getElem_cons_succ,Nat.zero_mul,Nat.add_zero,Nat.one_mul] at q1;have hfc:=(hfb.below hfr.w hfb.lt).cells;have hnf:¬(B+1=fb):=by have:=hfb.lt;omega
 have HFB:=zH ((hfb.below hfr.w hfb.lt).drewN 1);have HF:=zH hfr;have HBB:=zH hB;have hbB:b<B:=by rw[hB];exact (hat 0 (by simp)).lt
 have hne:¬(b=B+1):=by omega
 have hne2:¬(B+1=b):=by omega
 have hne3:¬(b=B):=by omega
 obtain⟨at_,am,ad⟩:=a;have HQ0:=zH (q0.below (drewN_below W.heap.size W 1));obtain⟨hlt0,x00,x01,x02⟩:=q0;obtain⟨bt,bm,bd⟩:=b';have HQ1:=zH (q1.below (drewN_below W.heap.size W 1));obtain⟨hlt1,x10,x11,x12⟩:=q1;have hlw:=hL.below hfr.w;have HLD:=zH (hlw.drewN 1);have g0:=hlw.truth 0 _ rfl;have g1:=hlw.truth 1 _ rfl;have g2:=hlw.truth 2 _ rfl;unfold tTruth at g0 g1 g2⊢;have hng:¬(8=B+1):=by have:=hL.lt.2.2.2.2;omega
 have hng2:¬(B+1=8):=by have:=hL.lt.2.2.2.2;omega
 simp only at g0 g1 g2;clear hlw hL;have hcr:=hfr.r.cells;have hfR:=hfr.r.froz;have hco:=hfr.o.cells;unfold Ty.v;simp only at x00 x01 x02 x10 x11 x12⊢;clear hr hat hfr hfb hco;obtain⟨dq0,hdq0⟩:∃dq,decide ((⟨at_,am,ad⟩:Ty)=⟨bt,bm,bd⟩)=dq:=⟨_,rfl⟩
 have HE0:=fun W=>eql_ty ⟨at_,am,ad⟩ ⟨bt,bm,bd⟩ W
 rw[hdq0];simp only[hdq0,Ty.v] at HE0;clear hdq0;cases dq0
 ·simp only[Bool.false_and]
  go_enter Tryz.func225,Tryz.ntmps225
  go_upto_region 1 with fail
  simp only[←hW,←hB]
  clear hW hB;refine wp_region_noPanic ?_;refine wp_region_held_drew (S:=fun w'=>w'.cell? ⟨fb,0,none⟩=some (.func (.func 184) #[] #[])∧w'.cell? ⟨b,off,none⟩=some (.bool at_)∧w'.cell? ⟨b,off+1,none⟩=some (.int .i64 am)∧w'.cell? ⟨b,off+2,none⟩=some (.int .i64 ad)∧w'.cell? ⟨b,off+3,none⟩=some (.bool bt)∧w'.cell? ⟨b,off+3+1,none⟩=some (.int .i64 bm)∧w'.cell? ⟨b,off+3+2,none⟩=some (.int .i64 bd)) (by kernel_rfl) ⟨hfc 0,x00,x01,x02,x10,x11,x12⟩ (fun hHeld=>?_);refine tkZ 0 ?_;refine tkZ 1 ?_;refine tkZ 2 ?_;refine tkZ 3 ?_;refine tkZ 5 ?_;refine tkZ 6 ?_;refine tkZ 7 ?_;refine tkZ 8 ?_;refine tkZ 9 ?_;refine tkZ 10 ?_;refine tkY 11 (.bool false) rfl ?_ ?_
  ·intro w hSw;(try dsimp only at hSw);go_simp
   all_goals with_reducible rfl
  try simp only[Act.put,tk1,tk2,tk3,tk4,tk5,tk6]
  refine tkR 4 fun K hK=>?_
  go_simp
  go_at_call 184
  refine (kDecision_any ⟨at_,am,ad⟩ _ HLD.out).mono ?_;rintro e w5 ⟨rfl,hb5⟩;simp only[Ty.v,tTruth]
  have hz0:=HQ0.out.below hb5;have hz1:=HQ1.out.below hb5;obtain⟨_,y0,y1,y2⟩:=hz0;obtain⟨_,z0,z1,z2⟩:=hz1;simp only at y0 y1 y2 z0 z1 z2;have hkr:=(HF.out.r.drew).below hb5 HF.out.r.lt;have hcr:=hkr.cells;have hfR:=hkr.froz;have HBE:=zH (bstep (below_drewN HF.out.w 1) hb5);have hfb5:=(HFB.out.below hb5 HFB.out.lt).cells 0;go_wp2_with fail;refine tkK hK (⟨hfb5,y0,y1,y2,z0,z1,z2⟩) fun hHeld=>?_
  clear hK K;refine tkZ 12 ?_;refine tkN 13 rfl ?_
  try simp only[Act.put,tk1,tk2,tk3,tk4,tk5,tk6]
  refine tkN 14 rfl ?_
  try simp only[Act.put,tk1,tk2,tk3,tk4,tk5,tk6]
  refine tkN 15 rfl ?_
  try simp only[Act.put,tk1,tk2,tk3,tk4,tk5,tk6]
  refine tkN 16 rfl ?_
  try simp only[Act.put,tk1,tk2,tk3,tk4,tk5,tk6]
  refine tkN 17 rfl ?_
  try simp only[Act.put,tk1,tk2,tk3,tk4,tk5,tk6]
  refine tkZ 18 ?_;refine tkR 19 fun K hK=>?_
  go_simp;go_wp2_with fail;refine tkK hK (by refine⟨?_,?_,?_,?_,?_,?_,?_⟩<;>(rw[World.cell?_setCell_far _ _ _ _ ?_,World.cell?_setCell_far _ _ _ _ ?_,World.cell?_setCell_far _ _ _ _ ?_]<;>first|assumption|exact hne2|exact hnf)) fun hHeld=>?_
  clear hK K;refine tkZ 20 ?_;refine wpAnyH_done (by kernel_rfl) ?_ _;refine NoPanic.normal ?_;go_wp2;refine bodyPost_ret (v:=.tuple #[.agg #[.bool true,.int .i64 0,.int .i64 0],.bool false]) (by simp[results,Tryz.results225,go_sem,hcr]) rfl ⟨rfl,?_⟩;exact (below_st3 (B:=B+1) HBE.out (by have:=HBB.out;omega) _ _ _)
 ·simp only[Bool.true_and]
  go_enter Tryz.func225,Tryz.ntmps225
  go_upto_region 1 with fail
  simp only[←hW,←hB]
  clear hW hB;refine wp_region_noPanic ?_;refine wp_region_held_drew (S:=fun w'=>w'.cell? ⟨fb,0,none⟩=some (.func (.func 184) #[] #[])∧w'.cell? ⟨b,off,none⟩=some (.bool at_)∧w'.cell? ⟨b,off+1,none⟩=some (.int .i64 am)∧w'.cell? ⟨b,off+2,none⟩=some (.int .i64 ad)∧w'.cell? ⟨b,off+3,none⟩=some (.bool bt)∧w'.cell? ⟨b,off+3+1,none⟩=some (.int .i64 bm)∧w'.cell? ⟨b,off+3+2,none⟩=some (.int .i64 bd)) (by kernel_rfl) ⟨hfc 0,x00,x01,x02,x10,x11,x12⟩ (fun hHeld=>?_);refine tkZ 0 ?_;refine tkZ 1 ?_;refine tkZ 2 ?_;refine tkZ 3 ?_;refine tkZ 5 ?_;refine tkZ 6 ?_;refine tkZ 7 ?_;refine tkZ 8 ?_;refine tkZ 9 ?_;refine tkZ 10 ?_;refine tkY 11 (.bool true) rfl ?_ ?_
  ·intro w hSw;(try dsimp only at hSw);go_simp
   all_goals with_reducible rfl
  try simp only[Act.put,tk1,tk2,tk3,tk4,tk5,tk6]
  refine tkR 4 fun K hK=>?_
  go_simp
  go_at_call 184
  refine (kDecision_any ⟨at_,am,ad⟩ _ HLD.out).mono ?_;rintro e w5 ⟨rfl,hb5⟩;simp only[Ty.v,tTruth]
  have hz0:=HQ0.out.below hb5;have hz1:=HQ1.out.below hb5;obtain⟨_,y0,y1,y2⟩:=hz0;obtain⟨_,z0,z1,z2⟩:=hz1;simp only at y0 y1 y2 z0 z1 z2;have hkr:=(HF.out.r.drew).below hb5 HF.out.r.lt;have hcr:=hkr.cells;have hfR:=hkr.froz;have HBE:=zH (bstep (below_drewN HF.out.w 1) hb5);have hfb5:=(HFB.out.below hb5 HFB.out.lt).cells 0;go_wp2_with fail;refine tkK hK (⟨hfb5,y0,y1,y2,z0,z1,z2⟩) fun hHeld=>?_
  clear hK K;refine tkZ 12 ?_;refine tkZ 13 ?_;refine tkZ 14 ?_;refine tkZ 15 ?_;refine tkZ 16 ?_;refine tkZ 17 ?_;refine tkZ 18 ?_;refine tkR 19 fun K hK=>?_
  go_simp;go_wp2_with fail;refine tkK hK (by refine⟨?_,?_,?_,?_,?_,?_,?_⟩<;>(rw[World.cell?_setCell_far _ _ _ _ ?_,World.cell?_setCell_far _ _ _ _ ?_,World.cell?_setCell_far _ _ _ _ ?_]<;>first|assumption|exact hne2|exact hnf)) fun hHeld=>?_
  clear hK K;refine tkZ 20 ?_;refine wpAnyH_done (by kernel_rfl) ?_ _;refine NoPanic.normal ?_;go_wp2;refine bodyPost_ret (v:=.tuple #[.agg #[.bool true,.int .i64 0,.int .i64 0],.bool (!at_)]) (by simp[results,Tryz.results225,go_sem,hcr]) rfl ⟨rfl,?_⟩;exact (below_st3 (B:=B+1) HBE.out (by have:=HBB.out;omega) _ _ _)
theorem drew2_cell (W:World) (a:Addr):W.drew.drew.cell? a=W.cell? a:=rfl
def prodT (s:Int) (a b:Ty):Ty:=⟨false,a.money+s*b.money,a.days+s*b.days⟩
theorem kProd_any (own a b':Ty) (s:Int) (A:Option Addr) (c fb:Nat) (w:World) (hs:s=1∨s= -1) (ha:rightB a=true) (hb':rightB b'=true) (hr:Rd w A (tys [a,b'])) (hc:2≤c) (hfb:Blk w fb 3 [.int .i64 s]):Calls Tryz.prog 226 #[own.v,.slice A 2 c,.pointer (some ⟨fb,0,none⟩)] w fun e w'=>e=.returned (.tuple #[(prodT s a b').v,.bool (!a.truth&&(!b'.truth&&unitB (prodT s a b').money (prodT s a b').days))])∧Below w.heap.size w w':=by
 obtain⟨a1,a2,a3,a4⟩:=rightB_rng ha;obtain⟨c1,c2,c3,c4⟩:=rightB_rng hb';clear ha hb';obtain⟨b,off,rfl,hat⟩:=hr.tyAt (by simp);obtain⟨tr,m,d⟩:=own;have hfr:=Fr2.new w tr m d;obtain⟨W,hW⟩:=zE ((w.alloc (.cells #[.bool tr,.int .i64 m,.int .i64 d] 35)).alloc (.cells #[.bool false,.int .i64 0,.int .i64 0] 35));obtain⟨B,hB⟩:=zE w.heap.size;rw[←hW,←hB] at hfr;have q0:=(hat 0 (by simp)).below hfr.w;simp only[List.getElem_cons_zero,List.getElem_cons_succ,Nat.zero_mul,Nat.add_zero,Nat.one_mul] at q0;have q1:=(hat 1 (by simp)).below hfr.w;simp only[List.getElem_cons_zero,List.getElem_cons_succ,Nat.zero_mul,Nat.add_zero,Nat.one_mul] at q1;have hfc:=(hfb.below hfr.w hfb.lt).cells;have hltf:=(hfb.below hfr.w hfb.lt).lt;have hnf:¬(B+1=fb):=by have:=hfb.lt;omega
 have HF:=zH hfr;have HBB:=zH hB;have hbB:b<B:=by rw[hB];exact (hat 0 (by simp)).lt
 have hne:¬(b=B+1):=by omega
 have hne2:¬(B+1=b):=by omega
 have hne3:¬(b=B):=by omega
 obtain⟨at_,am,ad⟩:=a;have HQ0:=zH (q0.below (drewN_below W.heap.size W 1));obtain⟨hlt0,x00,x01,x02⟩:=q0;obtain⟨bt,bm,bd⟩:=b';have HQ1:=zH (q1.below (drewN_below W.heap.size W 1));obtain⟨hlt1,x10,x11,x12⟩:=q1;have hcr:=hfr.r.cells;have hfR:=hfr.r.froz;have hco:=hfr.o.cells;unfold Ty.v;simp only at x00 x01 x02 x10 x11 x12⊢;clear hr hat hfr hfb hco;simp only at a1 a2 a3 a4 c1 c2 c3 c4;obtain⟨pm,hpm⟩:∃p,p=am+s*bm:=⟨_,rfl⟩
 obtain⟨pd,hpd⟩:∃p,p=ad+s*bd:=⟨_,rfl⟩
 have hw1:IntKind.i64.wrap (s*bm)=s*bm:=IntWalk.i64_in _ (by rcases hs with rfl|rfl<;>omega);have hw2:IntKind.i64.wrap (s*bd)=s*bd:=IntWalk.i64_in _ (by rcases hs with rfl|rfl<;>omega);have hw3:IntKind.i64.wrap (am+s*bm)=pm:=by rw[hpm];exact IntWalk.i64_in _ (by rcases hs with rfl|rfl<;>omega)
 have hw4:IntKind.i64.wrap (ad+s*bd)=pd:=by rw[hpd];exact IntWalk.i64_in _ (by rcases hs with rfl|rfl<;>omega)
 unfold prodT;simp only[←hpm,←hpd]
 have hya:∀o,Below W.heap.size W (W.alloc o):=fun o=>(Below.refl _ _).alloc (Nat.le_refl _) o
 have z00:∀o,(W.alloc o).cell? ⟨b,off,none⟩=some (.bool at_):=fun o=>((hya o).cell hlt0).trans x00
 have z10:∀o,(W.alloc o).cell? ⟨b,off+3,none⟩=some (.bool bt):=fun o=>((hya o).cell hlt0).trans x10
 have z01:∀o,(W.alloc o).cell? ⟨b,off+1,none⟩=some (.int .i64 am):=fun o=>((hya o).cell hlt0).trans x01
 have z02:∀o,(W.alloc o).cell? ⟨b,off+2,none⟩=some (.int .i64 ad):=fun o=>((hya o).cell hlt0).trans x02
 have z11:∀o,(W.alloc o).cell? ⟨b,off+3+1,none⟩=some (.int .i64 bm):=fun o=>((hya o).cell hlt0).trans x11
 have z12:∀o,(W.alloc o).cell? ⟨b,off+3+2,none⟩=some (.int .i64 bd):=fun o=>((hya o).cell hlt0).trans x12
 have zf:∀o,(W.alloc o).cell? ⟨fb,0,none⟩=some (.int .i64 s):=fun o=>((hya o).cell hltf).trans (hfc 0)
 clear hs a1 a2 a3 a4 c1 c2 c3 c4 hpm hpd hya;have HSZ:Hid (W.heap.size=B+2):=by show _=_;rw[hW,World.size_alloc,World.size_alloc,hB]
 go_enter Tryz.func226,Tryz.ntmps226
 go_upto_region 1 with fail
 simp only[←hW,←hB]
 clear hW hB;refine wp_region_noPanic ?_;refine wp_region_held_drew (S:=fun w'=>w'.cell? ⟨b,off,none⟩=some (.bool at_)∧w'.cell? ⟨b,off+1,none⟩=some (.int .i64 am)∧w'.cell? ⟨b,off+2,none⟩=some (.int .i64 ad)∧w'.cell? ⟨b,off+3,none⟩=some (.bool bt)∧w'.cell? ⟨b,off+3+1,none⟩=some (.int .i64 bm)∧w'.cell? ⟨b,off+3+2,none⟩=some (.int .i64 bd)∧w'.cell? ⟨fb,0,none⟩=some (.int .i64 s)) (by kernel_rfl) ⟨x00,x01,x02,x10,x11,x12,hfc 0⟩ (fun hHeld=>?_);refine tkZ 0 ?_;refine tkZ 1 ?_;refine tkZ 2 ?_;refine tkZ 3 ?_;refine tkZ 4 ?_;refine tkZ 5 ?_;refine tkZ 6 ?_;refine tkZ 7 ?_;refine tkZ 8 ?_;refine tkZ 9 ?_;refine tkZ 10 ?_;refine tkZ 11 ?_;refine tkZ 12 ?_;refine tkZ 13 ?_;refine tkZ 14 ?_;refine tkZ 15 ?_;refine tkZ 16 ?_;refine tkZ 17 ?_;refine tkZ 18 ?_;refine tkZ 19 ?_;refine tkZ 20 ?_;refine tkZ 21 ?_;refine tkZ 22 ?_;refine tkZ 23 ?_;refine tkZ 24 ?_;refine tkZ 25 ?_;refine tkZ 26 ?_;refine tkZ 27 ?_;refine tkR 28 fun K hK=>?_
 go_simp;go_wp2_with fail;refine tkK hK (⟨z00 _,z01 _,z02 _,z10 _,z11 _,z12 _,zf _⟩) fun hHeld=>?_
 clear hK K;refine tkR 29 fun K hK=>?_
 go_simp;go_wp2_with fail;refine tkK hK (⟨z00 _,z01 _,z02 _,z10 _,z11 _,z12 _,zf _⟩) fun hHeld=>?_
 clear hK K;refine wpAnyH_done (by kernel_rfl) ?_ _;refine NoPanic.normal ?_
 go_upto_region 2 with fail
 obtain⟨W3,hW3⟩:=zE (W.alloc (.cells #[.bool false,.int .i64 pm,.int .i64 pd] 35));have HP3:Hid (Blk (W3.drewN 2) (B+2) 35 [.bool false,.int .i64 pm,.int .i64 pd]):=by show Blk _ _ _ _;rw[hW3,←HSZ.out];exact (Blk.new W _ _).drewN 2
 have HR3:Hid (Blk (W3.drewN 2) (B+1) 35 [.bool false,.int .i64 0,.int .i64 0]):=by show Blk _ _ _ _;rw[hW3];exact (HF.out.r.alloc _).drewN 2
 have HBW:Hid (Below w.heap.size w (W3.drewN 2)):=by show Below _ _ _;rw[hW3];exact below_drewN (bstep HF.out.w (zB _ _)) 2
 have y00:W3.cell? ⟨b,off,none⟩=some (.bool at_):=by rw[hW3];exact z00 _
 have y10:W3.cell? ⟨b,off+3,none⟩=some (.bool bt):=by rw[hW3];exact z10 _
 have HLT:Hid (b<W3.heap.size):=by show _<_;rw[hW3,World.size_alloc];exact Nat.lt_succ_of_lt hlt0
 simp only[←hW3,HSZ.out]
 clear hW3 z01 z02 z11 z12 z00 z10 zf hw1 hw2 hw3 hw4 x00 x01 x02 x10 x11 x12 hcr hfR hfc;have hcr:∀i,W3.cell? ⟨B+1,i,none⟩=_:=HR3.out.cells;have hfR:∀i,W3.frozen? ⟨B+1,i,none⟩=_:=HR3.out.froz;have hpc:∀i,W3.cell? ⟨B+2,i,none⟩=_:=HP3.out.cells;have hnp:¬(B+1=B+2):=by omega
 cases at_
 ·cases bt
  ·skip
   refine wp_region_noPanic ?_;refine wp_region_held_drew (S:=fun w'=>w'.cell? ⟨b,off,none⟩=some (.bool false)∧w'.cell? ⟨b,off+3,none⟩=some (.bool false)∧w'.cell? ⟨B+2,0,none⟩=some (.bool false)∧w'.cell? ⟨B+2,1,none⟩=some (.int .i64 pm)∧w'.cell? ⟨B+2,2,none⟩=some (.int .i64 pd)) (by kernel_rfl) ⟨y00,y10,hpc 0,hpc 1,hpc 2⟩ (fun hHeld=>?_);refine tkZ 0 ?_;refine tkZ 1 ?_;refine tkZ 2 ?_;refine tkZ 3 ?_;refine tkZ 4 ?_;refine tkZ 5 ?_;refine tkZ 6 ?_;refine tkZ 7 ?_;refine tkZ 8 ?_;refine tkZ 9 ?_;refine tkZ 10 ?_;refine tkZ 11 ?_;refine tkZ 12 ?_;refine tkZ 13 ?_;refine tkZ 14 ?_;refine tkZ 15 ?_;refine tkR 16 fun K hK=>?_
   go_simp
   go_at_call 67
   refine (kUnit_any pm pd _).mono ?_;rintro e w5 ⟨rfl,hb5⟩;have hkr:=HR3.out.below hb5 HR3.out.lt;have hcr:=hkr.cells;have hfR:=hkr.froz;have HBE:=zH (bstep HBW.out hb5);have hy0:=(hb5.cell HLT.out).trans y00;have hy1:=(hb5.cell HLT.out).trans y10;have hp5:=HP3.out.below hb5 HP3.out.lt;go_wp2_with fail;refine tkK hK (⟨hy0,hy1,hp5.cells 0,hp5.cells 1,hp5.cells 2⟩) fun hHeld=>?_
   clear hK K;refine tkZ 17 ?_;refine tkR 18 fun K hK=>?_
   go_simp;obtain⟨k0,k1,k2,k3,k4⟩:=hHeld;go_wp2_with fail;refine tkK hK (by refine⟨?_,?_,?_,?_,?_⟩<;>(try rw[drew2_cell])<;>(rw[World.cell?_setCell_far _ _ _ _ ?_,World.cell?_setCell_far _ _ _ _ ?_,World.cell?_setCell_far _ _ _ _ ?_]<;>first|assumption|exact hne2|exact hnp)) fun hHeld=>?_
   clear hK K;refine tkZ 19 ?_;refine wpAnyH_done (by kernel_rfl) ?_ _;refine NoPanic.normal ?_;go_wp2;refine bodyPost_ret (v:=.tuple #[.agg #[.bool false,.int .i64 pm,.int .i64 pd],.bool (unitB pm pd)]) (by simp[results,Tryz.results226,go_sem,hcr]) rfl ⟨rfl,?_⟩;exact (below_st3 (B:=B+1) HBE.out (by have:=HBB.out;omega) _ _ _)

  ·skip
   refine wp_region_noPanic ?_;refine wp_region_held_drew (S:=fun w'=>w'.cell? ⟨b,off,none⟩=some (.bool false)∧w'.cell? ⟨b,off+3,none⟩=some (.bool true)∧w'.cell? ⟨B+2,0,none⟩=some (.bool false)∧w'.cell? ⟨B+2,1,none⟩=some (.int .i64 pm)∧w'.cell? ⟨B+2,2,none⟩=some (.int .i64 pd)) (by kernel_rfl) ⟨y00,y10,hpc 0,hpc 1,hpc 2⟩ (fun hHeld=>?_);refine tkZ 0 ?_;refine tkZ 1 ?_;refine tkZ 2 ?_;refine tkZ 3 ?_;refine tkZ 4 ?_;refine tkZ 5 ?_;refine tkZ 6 ?_;refine tkZ 7 ?_;refine tkZ 8 ?_;refine tkZ 9 ?_;refine tkZ 10 ?_;refine tkZ 11 ?_;refine tkZ 12 ?_;refine tkZ 13 ?_;refine tkN 14 rfl ?_
   try simp only[Act.put,tk1,tk2,tk3,tk4,tk5,tk6]
   refine tkN 15 rfl ?_
   try simp only[Act.put,tk1,tk2,tk3,tk4,tk5,tk6]
   refine tkN 16 rfl ?_
   try simp only[Act.put,tk1,tk2,tk3,tk4,tk5,tk6]
   refine tkZ 17 ?_;refine tkR 18 fun K hK=>?_
   go_simp;obtain⟨k0,k1,k2,k3,k4⟩:=hHeld;go_wp2_with fail;refine tkK hK (by refine⟨?_,?_,?_,?_,?_⟩<;>(try rw[drew2_cell])<;>(rw[World.cell?_setCell_far _ _ _ _ ?_,World.cell?_setCell_far _ _ _ _ ?_,World.cell?_setCell_far _ _ _ _ ?_]<;>first|assumption|exact hne2|exact hnp)) fun hHeld=>?_
   clear hK K;refine tkZ 19 ?_;refine wpAnyH_done (by kernel_rfl) ?_ _;refine NoPanic.normal ?_;go_wp2;refine bodyPost_ret (v:=.tuple #[.agg #[.bool false,.int .i64 pm,.int .i64 pd],.bool (false)]) (by simp[results,Tryz.results226,go_sem,hcr]) rfl ⟨rfl,?_⟩;exact (below_st3 (B:=B+1) HBW.out (by have:=HBB.out;omega) _ _ _)

 ·cases bt
  ·skip
   refine wp_region_noPanic ?_;refine wp_region_held_drew (S:=fun w'=>w'.cell? ⟨b,off,none⟩=some (.bool true)∧w'.cell? ⟨b,off+3,none⟩=some (.bool false)∧w'.cell? ⟨B+2,0,none⟩=some (.bool false)∧w'.cell? ⟨B+2,1,none⟩=some (.int .i64 pm)∧w'.cell? ⟨B+2,2,none⟩=some (.int .i64 pd)) (by kernel_rfl) ⟨y00,y10,hpc 0,hpc 1,hpc 2⟩ (fun hHeld=>?_);refine tkZ 0 ?_;refine tkZ 1 ?_;refine tkZ 2 ?_;refine tkZ 3 ?_;refine tkZ 4 ?_;refine tkZ 5 ?_;refine tkZ 6 ?_;refine tkN 7 rfl ?_
   try simp only[Act.put,tk1,tk2,tk3,tk4,tk5,tk6]
   refine tkN 8 rfl ?_
   try simp only[Act.put,tk1,tk2,tk3,tk4,tk5,tk6]
   refine tkN 9 rfl ?_
   try simp only[Act.put,tk1,tk2,tk3,tk4,tk5,tk6]
   refine tkN 10 rfl ?_
   try simp only[Act.put,tk1,tk2,tk3,tk4,tk5,tk6]
   refine tkN 11 rfl ?_
   try simp only[Act.put,tk1,tk2,tk3,tk4,tk5,tk6]
   refine tkZ 12 ?_;refine tkZ 13 ?_;refine tkN 14 rfl ?_
   try simp only[Act.put,tk1,tk2,tk3,tk4,tk5,tk6]
   refine tkN 15 rfl ?_
   try simp only[Act.put,tk1,tk2,tk3,tk4,tk5,tk6]
   refine tkN 16 rfl ?_
   try simp only[Act.put,tk1,tk2,tk3,tk4,tk5,tk6]
   refine tkZ 17 ?_;refine tkR 18 fun K hK=>?_
   go_simp;obtain⟨k0,k1,k2,k3,k4⟩:=hHeld;go_wp2_with fail;refine tkK hK (by refine⟨?_,?_,?_,?_,?_⟩<;>(try rw[drew2_cell])<;>(rw[World.cell?_setCell_far _ _ _ _ ?_,World.cell?_setCell_far _ _ _ _ ?_,World.cell?_setCell_far _ _ _ _ ?_]<;>first|assumption|exact hne2|exact hnp)) fun hHeld=>?_
   clear hK K;refine tkZ 19 ?_;refine wpAnyH_done (by kernel_rfl) ?_ _;refine NoPanic.normal ?_;go_wp2;refine bodyPost_ret (v:=.tuple #[.agg #[.bool false,.int .i64 pm,.int .i64 pd],.bool (false)]) (by simp[results,Tryz.results226,go_sem,hcr]) rfl ⟨rfl,?_⟩;exact (below_st3 (B:=B+1) HBW.out (by have:=HBB.out;omega) _ _ _)

  ·skip
   refine wp_region_noPanic ?_;refine wp_region_held_drew (S:=fun w'=>w'.cell? ⟨b,off,none⟩=some (.bool true)∧w'.cell? ⟨b,off+3,none⟩=some (.bool true)∧w'.cell? ⟨B+2,0,none⟩=some (.bool false)∧w'.cell? ⟨B+2,1,none⟩=some (.int .i64 pm)∧w'.cell? ⟨B+2,2,none⟩=some (.int .i64 pd)) (by kernel_rfl) ⟨y00,y10,hpc 0,hpc 1,hpc 2⟩ (fun hHeld=>?_);refine tkZ 0 ?_;refine tkZ 1 ?_;refine tkZ 2 ?_;refine tkZ 3 ?_;refine tkZ 4 ?_;refine tkZ 5 ?_;refine tkZ 6 ?_;refine tkN 7 rfl ?_
   try simp only[Act.put,tk1,tk2,tk3,tk4,tk5,tk6]
   refine tkN 8 rfl ?_
   try simp only[Act.put,tk1,tk2,tk3,tk4,tk5,tk6]
   refine tkN 9 rfl ?_
   try simp only[Act.put,tk1,tk2,tk3,tk4,tk5,tk6]
   refine tkN 10 rfl ?_
   try simp only[Act.put,tk1,tk2,tk3,tk4,tk5,tk6]
   refine tkN 11 rfl ?_
   try simp only[Act.put,tk1,tk2,tk3,tk4,tk5,tk6]
   refine tkZ 12 ?_;refine tkZ 13 ?_;refine tkN 14 rfl ?_
   try simp only[Act.put,tk1,tk2,tk3,tk4,tk5,tk6]
   refine tkN 15 rfl ?_
   try simp only[Act.put,tk1,tk2,tk3,tk4,tk5,tk6]
   refine tkN 16 rfl ?_
   try simp only[Act.put,tk1,tk2,tk3,tk4,tk5,tk6]
   refine tkZ 17 ?_;refine tkR 18 fun K hK=>?_
   go_simp;obtain⟨k0,k1,k2,k3,k4⟩:=hHeld;go_wp2_with fail;refine tkK hK (by refine⟨?_,?_,?_,?_,?_⟩<;>(try rw[drew2_cell])<;>(rw[World.cell?_setCell_far _ _ _ _ ?_,World.cell?_setCell_far _ _ _ _ ?_,World.cell?_setCell_far _ _ _ _ ?_]<;>first|assumption|exact hne2|exact hnp)) fun hHeld=>?_
   clear hK K;refine tkZ 19 ?_;refine wpAnyH_done (by kernel_rfl) ?_ _;refine NoPanic.normal ?_;go_wp2;refine bodyPost_ret (v:=.tuple #[.agg #[.bool false,.int .i64 pm,.int .i64 pd],.bool (false)]) (by simp[results,Tryz.results226,go_sem,hcr]) rfl ⟨rfl,?_⟩;exact (below_st3 (B:=B+1) HBW.out (by have:=HBB.out;omega) _ _ _)
theorem kTruths1_any (own:Ty) (l:List Ty) (A:Option Addr) (k c:Nat) (w:World) (hL:LaidK w) (hk:k=l.length) (hm:k≤maxLen) (hr:Rd w A (tys l)):
  Calls Tryz.prog 227 #[own.v,.slice A k c] w fun e w'=>e=.returned (.tuple #[tTruth.v,.bool (l.all fun t=>decide (t=tTruth))])∧Below w.heap.size w w':=by
 obtain⟨tr,m,d⟩:=own;have hfr:=Fr2.new w tr m d;obtain⟨W,hW⟩:=zE ((w.alloc (.cells #[.bool tr,.int .i64 m,.int .i64 d] 35)).alloc (.cells #[.bool false,.int .i64 0,.int .i64 0] 35));obtain⟨B,hB⟩:=zE w.heap.size;rw[←hW,←hB] at hfr;have HF:=zH hfr;have HBB:=zH hB;have HR:=zH hr;have HKL:=zH hk;have HL:Hid (∀W,Below w.heap.size w W→LaidK W):=fun W hb=>hL.below hb
 have HN:Hid (∀j (hj:j<l.length),l[j]≠tTruth→(l.all fun t=>decide (t=tTruth))=false):=fun j hj h=>by
  cases e:(l.all fun t=>decide (t=tTruth))
  ·rfl
  ·exact absurd (of_decide_eq_true (List.all_eq_true.1 e _ (List.getElem_mem hj))) h
 have HY:Hid ((∀i (hi:i<l.length),l[i]=tTruth)→(l.all fun t=>decide (t=tTruth))=true):=fun h=>by
  refine List.all_eq_true.2 (fun x hx=>?_);obtain⟨i,hi,rfl⟩:=List.getElem_of_mem hx;exact decide_eq_true (h i hi)
 have hm2:k≤9223372036854775807:=by unfold maxLen at hm;omega
 generalize (l.all fun t=>decide (t=tTruth))=res at*;unfold Ty.v;unfold tTruth at HN HY⊢;simp only
 clear hr hL hm hfr hk;go_enter Tryz.func227,Tryz.ntmps227
 go_upto_region 1 with fail
 simp only[←hW,←hB]
 clear hW hB;go_wp2
 go_loopg [10] k (fun g iv wr=>∃j:Nat,j+g=k∧iv=.int .i64 j∧Hid (∀i (hi:i<l.length),i<j→l[i]=⟨true,0,0⟩)∧Hid (Below W.heap.size W wr))
 case atStart=>exact⟨0,by omega,rfl,(fun i hi h=>absurd h (by omega)),Below.refl _ _⟩
 case round=>
  obtain⟨j,hj,rfl,hall,hbr⟩:=hrel;by_cases hlt:j<k
  ·have hjl:j<l.length:=by rw[←HKL.out];exact hlt
   obtain⟨b,off,hA,hb,d0,d1,d2⟩:=HR.out.ty hjl;subst hA;have HNJ:=zH (HN.out j hjl)
   have HALL:Hid (l[j]=⟨true,0,0⟩→∀i (hi:i<l.length),i<j+1→l[i]=⟨true,0,0⟩):=fun h i hi hij=>by
    by_cases hij2:i<j
    ·exact hall.out i hi hij2
    ·obtain rfl:i=j:=by omega
     exact h
   generalize l[j]=t at*;obtain⟨tt,tm,td⟩:=t;obtain⟨dq,hdq⟩:=zF (decide ((⟨tt,tm,td⟩:Ty)=⟨true,0,0⟩));have HE:=fun W=>neq_ty ⟨tt,tm,td⟩ ⟨true,0,0⟩ W
   simp only[hdq,Ty.v] at HE;simp only at d0 d1 d2;have hbr0:=bstep HF.out.w hbr.out;have e0:=(hbr0.cell hb).trans d0;have e1:=(hbr0.cell hb).trans d1;have e2:=(hbr0.cell hb).trans d2;have hlw:=(HL.out _ hbr0).alloc (.cells #[.bool tt,.int .i64 tm,.int .i64 td] 35);have g0:=hlw.truth 0 _ rfl;have g1:=hlw.truth 1 _ rfl;have g2:=hlw.truth 2 _ rfl;unfold tTruth at g0 g1 g2;simp only at g0 g1 g2;have HBR:Hid (Below W.heap.size W (wr.alloc (.cells #[.bool tt,.int .i64 tm,.int .i64 td] 35))):=bstep hbr.out (zB _ _);have HDQ:=zH hdq;clear hbr hbr0 d0 d1 d2 hlw hdq hall;cases dq
   ·have hq:res=false:=HNJ.out (of_decide_eq_false HDQ.out);subst hq;have hkr:=HF.out.r.below HBR.out HF.out.r.lt;have hcr:=hkr.cells;have hfR:=hkr.froz;have HBE:=zH (bstep HF.out.w HBR.out);have hng:¬(8=B+1):=by have h1:=(HL.out w (Below.refl _ _)).lt.2.2.2.2;have h2:=HBB.out;omega
    clear hkr HALL HN HY HNJ HDQ;go_wp2;refine bodyPost_ret (v:=.tuple #[.agg #[.bool true,.int .i64 0,.int .i64 0],.bool false]) (by simp[results,Tryz.results227,go_sem,hcr]) rfl ⟨rfl,?_⟩;exact below_st3 (B:=B+1) HBE.out (by have:=HBB.out;omega) _ _ _
   ·have HAN:=zH (HALL.out (of_decide_eq_true HDQ.out));clear HALL HN HY HNJ HDQ;go_wp2
    go_roundg (k-(j+1))
    case measure=>omega
    case rel=>exact⟨j+1,by omega,by go_num,HAN,HBR⟩
  ·obtain rfl:j=k:=by omega
   have hq:res=true:=HY.out (fun i hi=>hall.out i hi (by rw[HKL.out];exact hi));subst hq;have hbr0:=bstep HF.out.w hbr.out;have hlw:=HL.out _ hbr0;have g0:=hlw.truth 0 _ rfl;have g1:=hlw.truth 1 _ rfl;have g2:=hlw.truth 2 _ rfl;unfold tTruth at g0 g1 g2;simp only at g0 g1 g2;have hkr:=HF.out.r.below hbr.out HF.out.r.lt;have hcr:=hkr.cells;have hfR:=hkr.froz;have HBE:=zH hbr0;clear hall hbr hbr0 hlw hkr HN HY;go_wp2;refine bodyPost_ret (v:=.tuple #[.agg #[.bool true,.int .i64 0,.int .i64 0],.bool true]) (by simp[results,Tryz.results227,go_sem,hcr]) rfl ⟨rfl,?_⟩;exact below_st3 (B:=B+1) HBE.out (by have:=HBB.out;omega) _ _ _
def ownT (sg:List Sg) (n:Nd):Option Ty:=if sigB n.op then sigOf sg n else some tPlain
def rowT (ts:List Ty) (row:List Nat):List Ty:=row.map fun k=>ts.getD k tPlain
def tyGo (sg:List Sg):List Nd→List (List Nat)→List Ty→List Ty × Int
 |n::r,a::ar,ts=>match ownT sg n with
  |none=>([],12)
  |some own=>if (ruleT n.op own (rowT ts a)).2 then tyGo sg r ar (ts++[(ruleT n.op own (rowT ts a)).1]) else ([],13)
 |_,_,ts=>(ts,0)
def typesE (sg:List Sg) (e:List Nd):List Ty × Int:=if checkE e=0 then tyGo sg e (argsE e) [] else ([],checkE e)
def typeE (sg:List Sg) (e:List Nd):Ty × Int:=let r:=typesE sg e;if r.2=0 then (r.1.getD (r.1.length-1) tPlain,0) else (tPlain,r.2)
theorem runA_ok:∀(e:List Nd) (k:Nat) (st:List Nat),chk e st.length=0→(∀x∈st,x<k)→∀j (hj:j<e.length),∃row,(runA e k st)[j]?=some row∧row.length=(shp e[j].op).ops∧(∀x∈row,x<k+j)∧wrongN e[j]=0
 |[],_,_,_,_,j,hj=>by simp at hj
 |n::r,k,st,h,hst,j,hj=>by
  obtain⟨h1,h2,h3⟩:=chk_zero h;cases j with
  |zero=>exact⟨_,rfl,by rw[List.length_reverse,List.length_take];exact Nat.min_eq_left h2,fun x hx=>hst x (List.mem_of_mem_take (List.mem_reverse.1 hx)),h1⟩
  |succ j=>
   have ih:=runA_ok r (k+1) (k::st.drop (shp n.op).ops) (by rw[List.length_cons,List.length_drop];exact h3)
    (fun x hx=>by rcases List.mem_cons.1 hx with rfl|hx
                  ·omega
                  ·exact Nat.lt_succ_of_lt (hst x (List.mem_of_mem_drop hx))) j (by simpa using hj)
   obtain⟨row,e1,e2,e3,e4⟩:=ih;exact⟨row,e1,e2,fun x hx=>by have:=e3 x hx;omega,e4⟩
theorem argsE_ok {e:List Nd} (h:checkE e=0) (j:Nat) (hj:j<e.length):∃row,(argsE e)[j]?=some row∧row.length=(shp e[j].op).ops∧(∀x∈row,x<j)∧wrongN e[j]=0:=by
 unfold checkE at h;split at h
 ·cases h
 ·obtain⟨row,h1,h2,h3,h4⟩:=runA_ok e 0 [] h (fun x hx=>by cases hx) j hj;exact⟨row,h1,h2,fun x hx=>by have:=h3 x hx;omega,h4⟩
theorem checkE_pos {e:List Nd} (h:checkE e=0):0<e.length∧e.length≤60:=by
 unfold checkE at h;split at h
 ·cases h
 ·refine⟨?_,by omega⟩;cases e with
  |nil=>rw[chk] at h;simp at h
  |cons n r=>simp
theorem wrong_op {n:Nd} (h:wrongN n=0):1≤n.op∧n.op≤24:=by
 unfold wrongN at h;split at h
 ·cases h
 ·next h'=>
  exact⟨by have:¬n.op<1:=fun h1=>h' (Or.inl h1);omega,by have:¬24<n.op:=fun h1=>h' (Or.inr (Or.inl h1));omega⟩
theorem right_plain:rightB tPlain=true:=by decide
theorem right_getD {l:List Ty} (h:∀t∈l,rightB t=true) (i:Nat):rightB (l.getD i tPlain)=true:=by
 rw[List.getD_eq_getElem?_getD];rcases Nat.lt_or_ge i l.length with hi|hi
 ·rw[List.getElem?_eq_getElem hi];exact h _ (List.getElem_mem hi)
 ·rw[List.getElem?_eq_none hi];exact right_plain
theorem sigOf_right {sg:List Sg} {n:Nd} {t:Ty} (h:sigOf sg n=some t):rightB t=true:=by
 unfold sigOf at h;obtain⟨s,hs,rfl⟩:=Option.map_eq_some_iff.1 h;have:=List.find?_some hs;unfold sigFit at this;simp only[Bool.and_eq_true] at this;exact this.2.2.1
theorem ownT_right {sg:List Sg} {n:Nd} {t:Ty} (h:ownT sg n=some t):rightB t=true:=by
 unfold ownT at h;split at h
 ·exact sigOf_right h
 ·injection h with h;subst h;exact right_plain
theorem ruleT_right (k:Int) (own:Ty) (l:List Ty) (ho:rightB own=true) (hl:∀t∈l,rightB t=true) (h:(ruleT k own l).2=true):rightB (ruleT k own l).1=true:=by
 have hA:=right_getD hl 0;have hB:=right_getD hl 1;have ht:rightB tTruth=true:=by decide
 revert h
 unfold ruleT;by_cases h1:k=1
 ·rw[if_pos h1];intro _;decide
 rw[if_neg h1];clear h1;by_cases h1:k=2
 ·rw[if_pos h1];intro _;decide
 rw[if_neg h1];clear h1;by_cases h1:k=3
 ·rw[if_pos h1];intro _;decide
 rw[if_neg h1];clear h1;by_cases h1:k=4
 ·rw[if_pos h1];intro _;decide
 rw[if_neg h1];clear h1;by_cases h1:k≤8
 ·rw[if_pos h1];intro _;exact ho
 rw[if_neg h1];clear h1;by_cases h1:k=11
 ·rw[if_pos h1];intro h;simp only[Bool.and_eq_true] at h;exact h.2.2
 rw[if_neg h1];clear h1;by_cases h1:k=12
 ·rw[if_pos h1];intro h;simp only[Bool.and_eq_true] at h;exact h.2.2
 rw[if_neg h1];clear h1;by_cases h1:k≤14
 ·rw[if_pos h1];intro _;exact hA
 rw[if_neg h1];clear h1;by_cases h1:k=15
 ·rw[if_pos h1];intro _;exact hB
 rw[if_neg h1];clear h1;by_cases h1:k=16
 ·rw[if_pos h1];intro _;exact ht
 rw[if_neg h1];clear h1;by_cases h1:k=17
 ·rw[if_pos h1];intro _;exact ht
 rw[if_neg h1];clear h1;by_cases h1:k≤20
 ·rw[if_pos h1];intro _;exact ht
 rw[if_neg h1];clear h1;by_cases h1:k≤23
 ·rw[if_pos h1];intro _;exact hA
 rw[if_neg h1];clear h1;intro _;exact ho
theorem tyGo_cons {sg:List Sg} {n:Nd} {r:List Nd} {a:List Nat} {ar:List (List Nat)} {ts:List Ty} {own:Ty} (h:ownT sg n=some own) (h2:(ruleT n.op own (rowT ts a)).2=true):
  tyGo sg (n::r) (a::ar) ts=tyGo sg r ar (ts++[(ruleT n.op own (rowT ts a)).1]):=by
 rw[tyGo,h];simp only[h2,if_true]
theorem tyGo_none {sg:List Sg} {n:Nd} {r:List Nd} {a:List Nat} {ar:List (List Nat)} {ts:List Ty} (h:ownT sg n=none):tyGo sg (n::r) (a::ar) ts=([],12):=by rw[tyGo,h]
theorem tyGo_bad {sg:List Sg} {n:Nd} {r:List Nd} {a:List Nat} {ar:List (List Nat)} {ts:List Ty} {own:Ty} (h:ownT sg n=some own) (h2:(ruleT n.op own (rowT ts a)).2=false):
  tyGo sg (n::r) (a::ar) ts=([],13):=by
 rw[tyGo,h];simp only[h2];rfl
theorem tyGo_len {sg:List Sg}:∀(r:List Nd) (ar:List (List Nat)) (ts:List Ty),ar.length=r.length→(tyGo sg r ar ts).2=0→(tyGo sg r ar ts).1.length=ts.length+r.length
 |[],[],ts,_,_=>rfl
 |n::r,a::ar,ts,hl,h=>by
  cases ho:ownT sg n with
  |none=>rw[tyGo_none ho] at h;cases h
  |some own=>
   cases h2:(ruleT n.op own (rowT ts a)).2 with
   |false=>rw[tyGo_bad ho h2] at h;cases h
   |true=>
    rw[tyGo_cons ho h2] at h⊢;rw[tyGo_len r ar _ (by simpa using hl) h];simp;omega
 |[],a::ar,ts,hl,_=>by simp at hl
 |n::r,[],ts,hl,_=>by simp at hl
end Go.Proofs.YtmmbjngbeiokeaaGreatDoor
