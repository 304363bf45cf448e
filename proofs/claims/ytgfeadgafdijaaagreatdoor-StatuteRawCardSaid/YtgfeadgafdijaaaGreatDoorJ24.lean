/- A part of the proof: K3 K4 K5 K6 K9 Y1. -/
import Derived.Deep.RegionHeld3
import Derived.Deep.AppendLies
import Derived.Test.YtgfeadgafdijaaaGreatDoorJ01
import Derived.Test.YtgfeadgafdijaaaGreatDoorJ21
import Derived.Test.YtgfeadgafdijaaaGreatDoorJ23
set_option linter.unusedVariables false
set_option linter.unusedSimpArgs false
set_option maxRecDepth 100000
set_option maxHeartbeats 40000000
namespace Go.Proofs.YtgfeadgafdijaaaGreatDoor
open Go.RowKit
def tys (l:List Ty):List Value:=l.flatMap Ty.cells
def sN (k:Int):Bool:=decide (5≤k∧k≤8)||decide (k=24)
def tA (l:List Ty):Ty:=l.getD 0 aI
def tB (l:List Ty):Ty:=l.getD 1 aI
def tC (l:List Ty):Ty:=l.getD 2 aI
def dU (k:Int) (own:Ty) (l:List Ty):Ty × Bool:=
 if k=1 then (jk,true) else if k=2 then (wO,true) else if k=3 then (aI,true) else if k=4 then (aG,true)
 else if k≤8 then (own,true)
 else if k=11 then (⟨false,(tA l).aH+(tB l).aH,(tA l).days+(tB l).days⟩, !(tA l).truth&&(!(tB l).truth&&dZ ((tA l).aH+(tB l).aH) ((tA l).days+(tB l).days)))
 else if k=12 then (⟨false,(tA l).aH-(tB l).aH,(tA l).days-(tB l).days⟩, !(tA l).truth&&(!(tB l).truth&&dZ ((tA l).aH-(tB l).aH) ((tA l).days-(tB l).days)))
 else if k≤14 then (tA l,decide (tA l=tB l)&& !(tA l).truth)
 else if k=15 then (tB l,decide (tA l=aG)&&decide (tB l=tC l))
 else if k=16 then (aG,decide (tA l=tB l)&& !(tA l).truth)
 else if k=17 then (aG,decide (tA l=tB l))
 else if k≤20 then (aG,l.all fun t=>decide (t=aG))
 else if k≤23 then (tA l, !(tA l).truth)
 else (own,decide (tA l=own))
theorem pX {t:Ty} (h:aN t=true):-3≤t.aH∧t.aH≤3∧-3≤t.days∧t.days≤3:=by
 unfold aN at h;split at h
 ·have:=of_decide_eq_true h;rw[this];unfold aG;exact⟨by decide,by decide,by decide,by decide⟩
 ·unfold dZ at h;rw[Bool.and_eq_true,decide_eq_true_eq,decide_eq_true_eq] at h;omega
theorem Rd.ty {w:World} {A:Option Addr} {l:List Ty} (h:Rd w A (tys l)) {j:Nat} (hj:j<l.length):
  ∃b off,A=some ⟨b,off,none⟩∧b<w.heap.size∧w.cell? ⟨b,off+j*3,none⟩=some (.bool l[j].truth)∧w.cell? ⟨b,off+j*3+1,none⟩=some (.int .i64 l[j].aH)∧w.cell? ⟨b,off+j*3+2,none⟩=some (.int .i64 l[j].days):=by
 obtain⟨b,off,hA,hb,hc⟩:=Rd.row Ty.cells 3 (fun _=>rfl) (by omega) h hj;exact⟨b,off,hA,hb,hc 0 _ rfl,hc 1 _ rfl,hc 2 _ rfl⟩
theorem uz (fn:Fn) (a c:Array Value) (w:World):(Instr.makeFunc fn a c).run Tryz.prog w=.ok (.func fn a c) w:=rfl
theorem uD (p:Addr) (fn:Fn) (a c:Array Value) (m:Mode) (w:World):(store p (.func fn a c) m).run Tryz.prog w=stored Tryz.prog w p (.func fn a c) m:=run_store _ w p _ m rfl
theorem FH (t:Ty) (w:World):Calls Tryz.prog 200 #[t.v] w fun e w'=>e=.returned t.v∧Below w.heap.size w w':=by
 obtain⟨tr,m,d⟩:=t;unfold Ty.v;simp only
 have HB:=zH (((Below.refl w.heap.size w).alloc (Nat.le_refl _) (.cells #[.bool tr,.int .i64 m,.int .i64 d] 32)).alloc (by rw[World.size_alloc];omega) (.cells #[.bool tr,.int .i64 m,.int .i64 d] 32));go_enter Tryz.func200,Tryz.ntmps200;go_wp2;refine bodyPost_ret (v:=.agg #[.bool tr,.int .i64 m,.int .i64 d]) (by simp[results,Tryz.results200,go_sem]) rfl ?_;exact⟨rfl,HB.out⟩
theorem BX (t:Ty) (w:World) (hL:bZ w):Calls Tryz.prog 203 #[t.v] w fun e w'=>e=.returned aG.v∧Below w.heap.size w w':=by
 obtain⟨tr,m,d⟩:=t;have hl:=(hL.alloc (.cells #[.bool tr,.int .i64 m,.int .i64 d] 32)).alloc (.cells #[.bool false,.int .i64 0,.int .i64 0] 32);have g0:=hl.truth 0 _ rfl;have g1:=hl.truth 1 _ rfl;have g2:=hl.truth 2 _ rfl;unfold aG at g0 g1 g2⊢;unfold Ty.v;simp only at g0 g1 g2⊢;clear hl hL;have HB:=zH (((Below.refl w.heap.size w).alloc (Nat.le_refl _) (.cells #[.bool tr,.int .i64 m,.int .i64 d] 32)).alloc (by rw[World.size_alloc];omega) (.cells #[.bool true,.int .i64 0,.int .i64 0] 32));go_enter Tryz.func203,Tryz.ntmps203;go_wp2;refine bodyPost_ret (v:=.agg #[.bool true,.int .i64 0,.int .i64 0]) (by simp[results,Tryz.results203,go_sem]) rfl ?_;exact⟨rfl,HB.out⟩
theorem uT (t:Ty) (w:World):Calls Tryz.prog 197 #[t.v] w fun e w'=>∃b,e=.returned (.agg #[.bool false,.func (.func 245) #[] #[.pointer (some ⟨b,0,none⟩)]])∧aj w' b 32 t.cells∧w.heap.size≤b∧Below w.heap.size w w':=by
 obtain⟨tr,m,d⟩:=t;unfold Ty.v Ty.cells;simp only
 have HB:=fun v=>zH (((Below.refl w.heap.size w).alloc (Nat.le_refl _) (.cells #[.bool tr,.int .i64 m,.int .i64 d] 32)).alloc (by rw[World.size_alloc];omega) (.cells #[.bool false,v] 203))
 have HK:=fun o=>zH ((aj.new w 32 #[.bool tr,.int .i64 m,.int .i64 d]).alloc o)
 have hmf:=uz;have hsf:=uD;go_enter Tryz.func197,Tryz.ntmps197;go_wp2;refine bodyPost_ret (v:=.agg #[.bool false,.func (.func 245) #[] #[.pointer (some ⟨w.heap.size,0,none⟩)]]) (by simp[results,Tryz.results197,go_sem]) rfl ?_;exact⟨_,rfl,(HK _).out,Nat.le_refl _,(HB _).out⟩
theorem sO (t own:Ty) (x:Value) (b:Nat) (w:World) (h:aj w b 32 t.cells):Calls Tryz.prog 245 #[own.v,x,.pointer (some ⟨b,0,none⟩)] w fun e w'=>e=.returned (.tuple #[t.v,.bool true])∧Below w.heap.size w w':=by
 obtain⟨tr,m,d⟩:=t;obtain⟨tr',m',d'⟩:=own;unfold Ty.v;unfold Ty.cells at h;simp only at h⊢;have hc:=((h.alloc (.cells #[.bool tr',.int .i64 m',.int .i64 d'] 32)).alloc (.cells #[.bool false,.int .i64 0,.int .i64 0] 32)).cells;have HB:=zH (((Below.refl w.heap.size w).alloc (Nat.le_refl _) (.cells #[.bool tr',.int .i64 m',.int .i64 d'] 32)).alloc (by rw[World.size_alloc];omega) (.cells #[.bool tr,.int .i64 m,.int .i64 d] 32));clear h;go_enter Tryz.func245,Tryz.ntmps245;go_wp2;refine bodyPost_ret (v:=.tuple #[.agg #[.bool tr,.int .i64 m,.int .i64 d],.bool true]) (by simp[results,Tryz.results245,go_sem]) rfl ?_;exact⟨rfl,HB.out⟩
theorem wU (w:World):Calls Tryz.prog 198 #[] w fun e w'=>e=.returned (.agg #[.bool true,.func (.func 246) #[] #[]])∧Below w.heap.size w w':=by
 have HB:=fun v=>zH ((Below.refl w.heap.size w).alloc (Nat.le_refl _) (.cells #[.bool true,v] 203))
 have hmf:=uz;have hsf:=uD;go_enter Tryz.func198,Tryz.ntmps198;go_wp2;refine bodyPost_ret (v:=.agg #[.bool true,.func (.func 246) #[] #[]]) (by simp[results,Tryz.results198,go_sem]) rfl ?_;exact⟨rfl,(HB _).out⟩
theorem Qj (own:Ty) (x:Value) (w:World):Calls Tryz.prog 246 #[own.v,x] w fun e w'=>e=.returned (.tuple #[own.v,.bool true])∧Below w.heap.size w w':=by
 obtain⟨tr,m,d⟩:=own;unfold Ty.v;simp only
 have HB:=zH (((Below.refl w.heap.size w).alloc (Nat.le_refl _) (.cells #[.bool tr,.int .i64 m,.int .i64 d] 32)).alloc (by rw[World.size_alloc];omega) (.cells #[.bool tr,.int .i64 m,.int .i64 d] 32));go_enter Tryz.func246,Tryz.ntmps246;go_wp2;refine bodyPost_ret (v:=.tuple #[.agg #[.bool tr,.int .i64 m,.int .i64 d],.bool true]) (by simp[results,Tryz.results246,go_sem]) rfl ?_;exact⟨rfl,HB.out⟩
theorem sQ (f:Nat) (w:World):Calls Tryz.prog 199 #[.func (.func f) #[] #[]] w fun e w'=>∃b,e=.returned (.agg #[.bool false,.func (.func 247) #[] #[.pointer (some ⟨b,0,none⟩)]])∧aj w' b 244 [.func (.func f) #[] #[]]∧w.heap.size≤b∧Below w.heap.size w w':=by
 have HB:=fun v=>zH (((Below.refl w.heap.size w).alloc (Nat.le_refl _) (.cells #[.func (.func f) #[] #[]] 244)).alloc (by rw[World.size_alloc];omega) (.cells #[.bool false,v] 203))
 have HK:=fun o=>zH ((aj.new w 244 #[.func (.func f) #[] #[]]).alloc o)
 have hmf:=uz;have hsf:=uD;go_enter Tryz.func199,Tryz.ntmps199;go_wp2;refine bodyPost_ret (v:=.agg #[.bool false,.func (.func 247) #[] #[.pointer (some ⟨w.heap.size,0,none⟩)]]) (by simp[results,Tryz.results199,go_sem]) rfl ?_;exact⟨_,rfl,(HK _).out,Nat.le_refl _,(HB _).out⟩
theorem DT (s:Int) (w:World):Calls Tryz.prog 201 #[.int .i64 s] w fun e w'=>∃b,e=.returned (.agg #[.bool false,.func (.func 248) #[] #[.pointer (some ⟨b,0,none⟩)]])∧aj w' b 3 [.int .i64 s]∧w.heap.size≤b∧Below w.heap.size w w':=by
 have HB:=fun v=>zH (((Below.refl w.heap.size w).alloc (Nat.le_refl _) (.cells #[.int .i64 s] 3)).alloc (by rw[World.size_alloc];omega) (.cells #[.bool false,v] 203))
 have HK:=fun o=>zH ((aj.new w 3 #[.int .i64 s]).alloc o)
 have hmf:=uz;have hsf:=uD;go_enter Tryz.func201,Tryz.ntmps201;go_wp2;refine bodyPost_ret (v:=.agg #[.bool false,.func (.func 248) #[] #[.pointer (some ⟨w.heap.size,0,none⟩)]]) (by simp[results,Tryz.results201,go_sem]) rfl ?_;exact⟨_,rfl,(HK _).out,Nat.le_refl _,(HB _).out⟩
theorem zq (w:World):Calls Tryz.prog 205 #[] w fun e w'=>e=.returned (.agg #[.bool false,.func (.func 249) #[] #[]])∧Below w.heap.size w w':=by
 have HB:=fun v=>zH ((Below.refl w.heap.size w).alloc (Nat.le_refl _) (.cells #[.bool false,v] 203))
 have hmf:=uz;have hsf:=uD;go_enter Tryz.func205,Tryz.ntmps205;go_wp2;refine bodyPost_ret (v:=.agg #[.bool false,.func (.func 249) #[] #[]]) (by simp[results,Tryz.results205,go_sem]) rfl ?_;exact⟨rfl,(HB _).out⟩
theorem yj (w:World):Calls Tryz.prog 206 #[] w fun e w'=>e=.returned (.agg #[.bool false,.func (.func 250) #[] #[]])∧Below w.heap.size w w':=by
 have HB:=fun v=>zH ((Below.refl w.heap.size w).alloc (Nat.le_refl _) (.cells #[.bool false,v] 203))
 have hmf:=uz;have hsf:=uD;go_enter Tryz.func206,Tryz.ntmps206;go_wp2;refine bodyPost_ret (v:=.agg #[.bool false,.func (.func 250) #[] #[]]) (by simp[results,Tryz.results206,go_sem]) rfl ?_;exact⟨rfl,(HB _).out⟩
structure Uc (w:World) (b off:Nat) (t:Ty):Prop where
 lt:b<w.heap.size
 c0:w.cell? ⟨b,off,none⟩=some (.bool t.truth)
 c1:w.cell? ⟨b,off+1,none⟩=some (.int .i64 t.aH)
 c2:w.cell? ⟨b,off+2,none⟩=some (.int .i64 t.days)
theorem Uc.below {w w':World} {b off:Nat} {t:Ty} (h:Uc w b off t) (hb:Below w.heap.size w w'):Uc w' b off t:=
 ⟨Nat.lt_of_lt_of_le h.lt hb.size,(hb.cell h.lt).trans h.c0,(hb.cell h.lt).trans h.c1,(hb.cell h.lt).trans h.c2⟩
theorem Rd.Gm {w:World} {A:Option Addr} {l:List Ty} (h:Rd w A (tys l)) (hl:0<l.length):∃b off,A=some ⟨b,off,none⟩∧∀j (hj:j<l.length),Uc w b (off+j*3) l[j]:=by
 obtain⟨b,off,hA,hb,_⟩:=h.ty hl;refine⟨b,off,hA,fun j hj=>?_⟩;obtain⟨b',off',hA',hb',h0,h1,h2⟩:=h.ty hj;rw[hA] at hA';injection hA' with hA';injection hA' with h3 h4;subst h3 h4;exact⟨hb',h0,h1,h2⟩
structure FI (w:World) (B:Nat) (own:Ty) (W:World):Prop where
 b:B=w.heap.size
 o:aj W B 32 [.bool own.truth,.int .i64 own.aH,.int .i64 own.days]
 r:aj W (B+1) 32 [.bool false,.int .i64 0,.int .i64 0]
 w:Below w.heap.size w W
theorem FI.new (w:World) (tr:Bool) (m d:Int):FI w w.heap.size ⟨tr,m,d⟩ ((w.alloc (.cells #[.bool tr,.int .i64 m,.int .i64 d] 32)).alloc (.cells #[.bool false,.int .i64 0,.int .i64 0] 32)):=by
 refine⟨rfl,(aj.new w _ _).alloc _,?_,(zB _ _).alloc (by rw[World.size_alloc];omega) _⟩;have h:=aj.new (w.alloc (.cells #[.bool tr,.int .i64 m,.int .i64 d] 32)) 32 #[.bool false,.int .i64 0,.int .i64 0];rw[World.size_alloc] at h;exact h
theorem eu {w W:World} {B:Nat} (h:Below w.heap.size w W) (hB:w.heap.size≤B) (v0 v1 v2:Value):Below w.heap.size w (((W.setCell ⟨B,0,none⟩ v0).setCell ⟨B,1,none⟩ v1).setCell ⟨B,2,none⟩ v2):=
 ((h.setCell (p:=⟨B,0,none⟩) hB v0).setCell (p:=⟨B,1,none⟩) hB v1).setCell (p:=⟨B,2,none⟩) hB v2
theorem MF (own a:Ty) (A:Option Addr) (c:Nat) (w:World) (hr:Rd w A (tys [a])) (hc:1≤c):Calls Tryz.prog 250 #[own.v,.slice A 1 c] w fun e w'=>e=.returned (.tuple #[a.v,.bool (!a.truth)])∧Below w.heap.size w w':=by
 obtain⟨b,off,rfl,hat⟩:=hr.Gm (by simp);obtain⟨tr,m,d⟩:=own;have hfr:=FI.new w tr m d;obtain⟨W,hW⟩:=zE ((w.alloc (.cells #[.bool tr,.int .i64 m,.int .i64 d] 32)).alloc (.cells #[.bool false,.int .i64 0,.int .i64 0] 32));obtain⟨B,hB⟩:=zE w.heap.size;rw[←hW,←hB] at hfr;have q0:=(hat 0 (by simp)).below hfr.w;simp only[List.getElem_cons_zero,List.getElem_cons_succ,Nat.zero_mul,Nat.add_zero,Nat.one_mul] at q0;have HF:=zH hfr;have cO:=zH hB;have hbB:b<B:=by rw[hB];exact (hat 0 (by simp)).lt
 have hne:¬(b=B+1):=by omega
 have hne2:¬(B+1=b):=by omega
 have Gn:¬(b=B):=by omega
 obtain⟨at_,am,ad⟩:=a;have ql:=zH (q0.below (ak W.heap.size W 1));obtain⟨hlt0,x00,x01,rM⟩:=q0;have hcr:=hfr.r.cells;have yt:=hfr.r.aF;have hco:=hfr.o.cells;unfold Ty.v;simp only at x00 x01 rM⊢;clear hr hat hfr;go_enter Tryz.func250,Tryz.ntmps250
 go_upto_region 1 with fail
 simp only[←hW,←hB]
 clear hW hB;go_region;go_wp2;refine bodyPost_ret (v:=.tuple #[.agg #[.bool at_,.int .i64 am,.int .i64 ad],.bool (!at_)]) (by simp[results,Tryz.results250,go_sem,hcr]) rfl ⟨rfl,?_⟩;exact below_drewN (eu (B:=B+1) HF.out.w (by have:=cO.out;omega) _ _ _) 1
theorem Ud (own a:Ty) (A:Option Addr) (c:Nat) (w:World) (hr:Rd w A (tys [a])) (hc:1≤c):Calls Tryz.prog 207 #[own.v,.slice A 1 c] w fun e w'=>e=.returned (.tuple #[own.v,.bool (decide (a=own))])∧Below w.heap.size w w':=by
 obtain⟨b,off,rfl,hat⟩:=hr.Gm (by simp);obtain⟨tr,m,d⟩:=own;have hfr:=FI.new w tr m d;obtain⟨W,hW⟩:=zE ((w.alloc (.cells #[.bool tr,.int .i64 m,.int .i64 d] 32)).alloc (.cells #[.bool false,.int .i64 0,.int .i64 0] 32));obtain⟨B,hB⟩:=zE w.heap.size;rw[←hW,←hB] at hfr;have q0:=(hat 0 (by simp)).below hfr.w;simp only[List.getElem_cons_zero,List.getElem_cons_succ,Nat.zero_mul,Nat.add_zero,Nat.one_mul] at q0;have HF:=zH hfr;have cO:=zH hB;have hbB:b<B:=by rw[hB];exact (hat 0 (by simp)).lt
 have hne:¬(b=B+1):=by omega
 have hne2:¬(B+1=b):=by omega
 have Gn:¬(b=B):=by omega
 obtain⟨at_,am,ad⟩:=a;have ql:=zH (q0.below (ak W.heap.size W 1));obtain⟨hlt0,x00,x01,rM⟩:=q0;have hcr:=hfr.r.cells;have yt:=hfr.r.aF;have hco:=hfr.o.cells;unfold Ty.v;simp only at x00 x01 rM⊢;clear hr hat hfr;obtain⟨IG,nK⟩:∃dq,decide ((⟨at_,am,ad⟩:Ty)=⟨tr,m,d⟩)=dq:=⟨_,rfl⟩
 have II:=fun W=>zV ⟨at_,am,ad⟩ ⟨tr,m,d⟩ W
 rw[nK];simp only[nK,Ty.v] at II;clear nK;go_enter Tryz.func207,Tryz.ntmps207
 go_upto_region 1 with fail
 simp only[←hW,←hB]
 clear hW hB;go_region;go_wp2;refine bodyPost_ret (v:=.tuple #[.agg #[.bool tr,.int .i64 m,.int .i64 d],.bool IG]) (by simp[results,Tryz.results207,go_sem,hcr]) rfl ⟨rfl,?_⟩;exact below_drewN (eu (B:=B+1) HF.out.w (by have:=cO.out;omega) _ _ _) 1
theorem Ue (own a b':Ty) (A:Option Addr) (c:Nat) (w:World) (hL:bZ w) (hr:Rd w A (tys [a,b'])) (hc:2≤c):Calls Tryz.prog 204 #[own.v,.slice A 2 c] w fun e w'=>e=.returned (.tuple #[aG.v,.bool (decide (a=b'))])∧Below w.heap.size w w':=by
 obtain⟨b,off,rfl,hat⟩:=hr.Gm (by simp);obtain⟨tr,m,d⟩:=own;have hfr:=FI.new w tr m d;obtain⟨W,hW⟩:=zE ((w.alloc (.cells #[.bool tr,.int .i64 m,.int .i64 d] 32)).alloc (.cells #[.bool false,.int .i64 0,.int .i64 0] 32));obtain⟨B,hB⟩:=zE w.heap.size;rw[←hW,←hB] at hfr;have q0:=(hat 0 (by simp)).below hfr.w;simp only[List.getElem_cons_zero,List.getElem_cons_succ,Nat.zero_mul,Nat.add_zero,Nat.one_mul] at q0;have q1:=(hat 1 (by simp)).below hfr.w;simp only[List.getElem_cons_zero,List.getElem_cons_succ,Nat.zero_mul,Nat.add_zero,Nat.one_mul] at q1;have HF:=zH hfr;have cO:=zH hB;have hbB:b<B:=by rw[hB];exact (hat 0 (by simp)).lt
 have hne:¬(b=B+1):=by omega
 have hne2:¬(B+1=b):=by omega
 have Gn:¬(b=B):=by omega
 obtain⟨at_,am,ad⟩:=a;have ql:=zH (q0.below (ak W.heap.size W 1));obtain⟨hlt0,x00,x01,rM⟩:=q0;obtain⟨bt,bm,bd⟩:=b';have ji:=zH (q1.below (ak W.heap.size W 1));obtain⟨hlt1,x10,x11,x12⟩:=q1;have jF:=hL.below hfr.w;have HLD:=zH (jF.drewN 1);have g0:=jF.truth 0 _ rfl;have g1:=jF.truth 1 _ rfl;have g2:=jF.truth 2 _ rfl;unfold aG at g0 g1 g2⊢;have BP:¬(8=B+1):=by have:=hL.lt.2.2.2.2;omega
 have adh:¬(B+1=8):=by have:=hL.lt.2.2.2.2;omega
 simp only at g0 g1 g2;clear jF hL;have hcr:=hfr.r.cells;have yt:=hfr.r.aF;have hco:=hfr.o.cells;unfold Ty.v;simp only at x00 x01 rM x10 x11 x12⊢;clear hr hat hfr;obtain⟨IG,nK⟩:∃dq,decide ((⟨at_,am,ad⟩:Ty)=⟨bt,bm,bd⟩)=dq:=⟨_,rfl⟩
 have II:=fun W=>zV ⟨at_,am,ad⟩ ⟨bt,bm,bd⟩ W
 rw[nK];simp only[nK,Ty.v] at II;clear nK;go_enter Tryz.func204,Tryz.ntmps204
 go_upto_region 1 with fail
 simp only[←hW,←hB]
 clear hW hB;go_region;go_wp2;refine bodyPost_ret (v:=.tuple #[.agg #[.bool true,.int .i64 0,.int .i64 0],.bool IG]) (by simp[results,Tryz.results204,go_sem,hcr]) rfl ⟨rfl,?_⟩;exact below_drewN (eu (B:=B+1) HF.out.w (by have:=cO.out;omega) _ _ _) 1
theorem abI (own a b' c':Ty) (A:Option Addr) (c:Nat) (w:World) (hL:bZ w) (hr:Rd w A (tys [a,b',c'])) (hc:3≤c):Calls Tryz.prog 202 #[own.v,.slice A 3 c] w fun e w'=>e=.returned (.tuple #[b'.v,.bool (decide (a=aG)&&decide (b'=c'))])∧Below w.heap.size w w':=by
 obtain⟨b,off,rfl,hat⟩:=hr.Gm (by simp);obtain⟨tr,m,d⟩:=own;have hfr:=FI.new w tr m d;obtain⟨W,hW⟩:=zE ((w.alloc (.cells #[.bool tr,.int .i64 m,.int .i64 d] 32)).alloc (.cells #[.bool false,.int .i64 0,.int .i64 0] 32));obtain⟨B,hB⟩:=zE w.heap.size;rw[←hW,←hB] at hfr;have q0:=(hat 0 (by simp)).below hfr.w;simp only[List.getElem_cons_zero,List.getElem_cons_succ,Nat.zero_mul,Nat.add_zero,Nat.one_mul] at q0;have q1:=(hat 1 (by simp)).below hfr.w;simp only[List.getElem_cons_zero,List.getElem_cons_succ,Nat.zero_mul,Nat.add_zero,Nat.one_mul] at q1;have q2:=(hat 2 (by simp)).below hfr.w;simp only[List.getElem_cons_zero,List.getElem_cons_succ,Nat.zero_mul,Nat.add_zero,Nat.one_mul] at q2;have HF:=zH hfr;have cO:=zH hB;have hbB:b<B:=by rw[hB];exact (hat 0 (by simp)).lt
 have hne:¬(b=B+1):=by omega
 have hne2:¬(B+1=b):=by omega
 have Gn:¬(b=B):=by omega
 obtain⟨at_,am,ad⟩:=a;have ql:=zH (q0.below (ak W.heap.size W 1));obtain⟨hlt0,x00,x01,rM⟩:=q0;obtain⟨bt,bm,bd⟩:=b';have ji:=zH (q1.below (ak W.heap.size W 1));obtain⟨hlt1,x10,x11,x12⟩:=q1;obtain⟨ct,cm,cd⟩:=c';have tN:=zH (q2.below (ak W.heap.size W 1));obtain⟨hlt2,x20,x21,x22⟩:=q2;have jF:=hL.below hfr.w;have HLD:=zH (jF.drewN 1);have g0:=jF.truth 0 _ rfl;have g1:=jF.truth 1 _ rfl;have g2:=jF.truth 2 _ rfl;unfold aG at g0 g1 g2⊢;have BP:¬(8=B+1):=by have:=hL.lt.2.2.2.2;omega
 have adh:¬(B+1=8):=by have:=hL.lt.2.2.2.2;omega
 simp only at g0 g1 g2;clear jF hL;have hcr:=hfr.r.cells;have yt:=hfr.r.aF;have hco:=hfr.o.cells;unfold Ty.v;simp only at x00 x01 rM x10 x11 x12 x20 x21 x22⊢;clear hr hat hfr;obtain⟨IG,nK⟩:∃dq,decide ((⟨at_,am,ad⟩:Ty)=⟨true,0,0⟩)=dq:=⟨_,rfl⟩
 have II:=fun W=>zV ⟨at_,am,ad⟩ ⟨true,0,0⟩ W
 rw[nK];simp only[nK,Ty.v] at II;clear nK;obtain⟨dq1,Zi⟩:∃dq,decide ((⟨bt,bm,bd⟩:Ty)=⟨ct,cm,cd⟩)=dq:=⟨_,rfl⟩
 have jO:=fun W=>zV ⟨bt,bm,bd⟩ ⟨ct,cm,cd⟩ W
 rw[Zi];simp only[Zi,Ty.v] at jO;clear Zi;cases IG
 ·simp only[Bool.false_and]
  go_enter Tryz.func202,Tryz.ntmps202
  go_upto_region 1 with fail
  simp only[←hW,←hB]
  clear hW hB;go_region;go_wp2;refine bodyPost_ret (v:=.tuple #[.agg #[.bool bt,.int .i64 bm,.int .i64 bd],.bool false]) (by simp[results,Tryz.results202,go_sem,hcr]) rfl ⟨rfl,?_⟩;exact below_drewN (eu (B:=B+1) HF.out.w (by have:=cO.out;omega) _ _ _) 1
 ·simp only[Bool.true_and]
  go_enter Tryz.func202,Tryz.ntmps202
  go_upto_region 1 with fail
  simp only[←hW,←hB]
  clear hW hB;go_region;go_wp2;refine bodyPost_ret (v:=.tuple #[.agg #[.bool bt,.int .i64 bm,.int .i64 bd],.bool dq1]) (by simp[results,Tryz.results202,go_sem,hcr]) rfl ⟨rfl,?_⟩;exact below_drewN (eu (B:=B+1) HF.out.w (by have:=cO.out;omega) _ _ _) 1
theorem Qk (own a b':Ty) (A:Option Addr) (c fb:Nat) (w:World) (hr:Rd w A (tys [a,b'])) (hc:2≤c) (hfb:aj w fb 244 [.func (.func 200) #[] #[]]):Calls Tryz.prog 247 #[own.v,.slice A 2 c,.pointer (some ⟨fb,0,none⟩)] w fun e w'=>e=.returned (.tuple #[a.v,.bool (decide (a=b')&& !a.truth)])∧Below w.heap.size w w':=by
 obtain⟨b,off,rfl,hat⟩:=hr.Gm (by simp);obtain⟨tr,m,d⟩:=own;have hfr:=FI.new w tr m d;obtain⟨W,hW⟩:=zE ((w.alloc (.cells #[.bool tr,.int .i64 m,.int .i64 d] 32)).alloc (.cells #[.bool false,.int .i64 0,.int .i64 0] 32));obtain⟨B,hB⟩:=zE w.heap.size;rw[←hW,←hB] at hfr;have q0:=(hat 0 (by simp)).below hfr.w;simp only[List.getElem_cons_zero,List.getElem_cons_succ,Nat.zero_mul,Nat.add_zero,Nat.one_mul] at q0;have q1:=(hat 1 (by simp)).below hfr.w;simp only[List.getElem_cons_zero,List.getElem_cons_succ,Nat.zero_mul,Nat.add_zero,Nat.one_mul] at q1;have hfc:=(hfb.below hfr.w hfb.lt).cells;have hnf:¬(B+1=fb):=by have:=hfb.lt;omega
 have DU:=zH ((hfb.below hfr.w hfb.lt).drewN 1);have HF:=zH hfr;have cO:=zH hB;have hbB:b<B:=by rw[hB];exact (hat 0 (by simp)).lt
 have hne:¬(b=B+1):=by omega
 have hne2:¬(B+1=b):=by omega
 have Gn:¬(b=B):=by omega
 obtain⟨at_,am,ad⟩:=a;have ql:=zH (q0.below (ak W.heap.size W 1));obtain⟨hlt0,x00,x01,rM⟩:=q0;obtain⟨bt,bm,bd⟩:=b';have ji:=zH (q1.below (ak W.heap.size W 1));obtain⟨hlt1,x10,x11,x12⟩:=q1;have hcr:=hfr.r.cells;have yt:=hfr.r.aF;have hco:=hfr.o.cells;unfold Ty.v;simp only at x00 x01 rM x10 x11 x12⊢;clear hr hat hfr hfb hco;obtain⟨IG,nK⟩:∃dq,decide ((⟨at_,am,ad⟩:Ty)=⟨bt,bm,bd⟩)=dq:=⟨_,rfl⟩
 have II:=fun W=>zV ⟨at_,am,ad⟩ ⟨bt,bm,bd⟩ W
 rw[nK];simp only[nK,Ty.v] at II;clear nK;cases IG
 ·simp only[Bool.false_and]
  go_enter Tryz.func247,Tryz.ntmps247
  go_upto_region 1 with fail
  simp only[←hW,←hB]
  clear hW hB;refine wp_region_noPanic ?_;refine wp_region_held_drew (S:=fun w'=>w'.cell? ⟨fb,0,none⟩=some (.func (.func 200) #[] #[])∧w'.cell? ⟨b,off,none⟩=some (.bool at_)∧w'.cell? ⟨b,off+1,none⟩=some (.int .i64 am)∧w'.cell? ⟨b,off+2,none⟩=some (.int .i64 ad)∧w'.cell? ⟨b,off+3,none⟩=some (.bool bt)∧w'.cell? ⟨b,off+3+1,none⟩=some (.int .i64 bm)∧w'.cell? ⟨b,off+3+2,none⟩=some (.int .i64 bd)) (by kernel_rfl) ⟨hfc 0,x00,x01,rM,x10,x11,x12⟩ (fun hHeld=>?_);refine ay 0 ?_;refine ay 1 ?_;refine ay 2 ?_;refine ay 3 ?_;refine ay 5 ?_;refine ay 6 ?_;refine ay 7 ?_;refine ay 8 ?_;refine ay 9 ?_;refine ay 10 ?_;refine BM 11 (.bool false) rfl ?_ ?_
  ·intro w hSw;(try dsimp only at hSw);go_simp
   all_goals with_reducible rfl
  try simp only[Act.put,tk1,tk2,tk3,tk4,aQ,aS]
  refine bJ 4 fun K hK=>?_
  go_simp
  go_at_call 200
  refine (FH ⟨at_,am,ad⟩ _).mono ?_;rintro e w5 ⟨rfl,hb5⟩;simp only[Ty.v,aG]
  have hz0:=ql.out.below hb5;have hz1:=ji.out.below hb5;obtain⟨_,y0,y1,y2⟩:=hz0;obtain⟨_,z0,z1,z2⟩:=hz1;simp only at y0 y1 y2 z0 z1 z2;have hkr:=(HF.out.r.drew).below hb5 HF.out.r.lt;have hcr:=hkr.cells;have yt:=hkr.aF;have gu:=zH (ah (below_drewN HF.out.w 1) hb5);have Gp:=(DU.out.below hb5 DU.out.lt).cells 0;go_wp2_with fail;refine aT hK (⟨Gp,y0,y1,y2,z0,z1,z2⟩) fun hHeld=>?_
  clear hK K;refine ay 12 ?_;refine bK 13 rfl ?_
  try simp only[Act.put,tk1,tk2,tk3,tk4,aQ,aS]
  refine bK 14 rfl ?_
  try simp only[Act.put,tk1,tk2,tk3,tk4,aQ,aS]
  refine bK 15 rfl ?_
  try simp only[Act.put,tk1,tk2,tk3,tk4,aQ,aS]
  refine bK 16 rfl ?_
  try simp only[Act.put,tk1,tk2,tk3,tk4,aQ,aS]
  refine bK 17 rfl ?_
  try simp only[Act.put,tk1,tk2,tk3,tk4,aQ,aS]
  refine ay 18 ?_;refine bJ 19 fun K hK=>?_
  go_simp;go_wp2_with fail;refine aT hK (by refine⟨?_,?_,?_,?_,?_,?_,?_⟩<;>(rw[World.cell?_setCell_far _ _ _ _ ?_,World.cell?_setCell_far _ _ _ _ ?_,World.cell?_setCell_far _ _ _ _ ?_]<;>first|assumption|exact hne2|exact hnf)) fun hHeld=>?_
  clear hK K;refine ay 20 ?_;refine wpAnyH_done (by kernel_rfl) ?_ _;refine NoPanic.normal ?_;go_wp2;refine bodyPost_ret (v:=.tuple #[.agg #[.bool at_,.int .i64 am,.int .i64 ad],.bool false]) (by simp[results,Tryz.results247,go_sem,hcr]) rfl ⟨rfl,?_⟩;exact (eu (B:=B+1) gu.out (by have:=cO.out;omega) _ _ _)
 ·simp only[Bool.true_and]
  go_enter Tryz.func247,Tryz.ntmps247
  go_upto_region 1 with fail
  simp only[←hW,←hB]
  clear hW hB;refine wp_region_noPanic ?_;refine wp_region_held_drew (S:=fun w'=>w'.cell? ⟨fb,0,none⟩=some (.func (.func 200) #[] #[])∧w'.cell? ⟨b,off,none⟩=some (.bool at_)∧w'.cell? ⟨b,off+1,none⟩=some (.int .i64 am)∧w'.cell? ⟨b,off+2,none⟩=some (.int .i64 ad)∧w'.cell? ⟨b,off+3,none⟩=some (.bool bt)∧w'.cell? ⟨b,off+3+1,none⟩=some (.int .i64 bm)∧w'.cell? ⟨b,off+3+2,none⟩=some (.int .i64 bd)) (by kernel_rfl) ⟨hfc 0,x00,x01,rM,x10,x11,x12⟩ (fun hHeld=>?_);refine ay 0 ?_;refine ay 1 ?_;refine ay 2 ?_;refine ay 3 ?_;refine ay 5 ?_;refine ay 6 ?_;refine ay 7 ?_;refine ay 8 ?_;refine ay 9 ?_;refine ay 10 ?_;refine BM 11 (.bool true) rfl ?_ ?_
  ·intro w hSw;(try dsimp only at hSw);go_simp
   all_goals with_reducible rfl
  try simp only[Act.put,tk1,tk2,tk3,tk4,aQ,aS]
  refine bJ 4 fun K hK=>?_
  go_simp
  go_at_call 200
  refine (FH ⟨at_,am,ad⟩ _).mono ?_;rintro e w5 ⟨rfl,hb5⟩;simp only[Ty.v,aG]
  have hz0:=ql.out.below hb5;have hz1:=ji.out.below hb5;obtain⟨_,y0,y1,y2⟩:=hz0;obtain⟨_,z0,z1,z2⟩:=hz1;simp only at y0 y1 y2 z0 z1 z2;have hkr:=(HF.out.r.drew).below hb5 HF.out.r.lt;have hcr:=hkr.cells;have yt:=hkr.aF;have gu:=zH (ah (below_drewN HF.out.w 1) hb5);have Gp:=(DU.out.below hb5 DU.out.lt).cells 0;go_wp2_with fail;refine aT hK (⟨Gp,y0,y1,y2,z0,z1,z2⟩) fun hHeld=>?_
  clear hK K;refine ay 12 ?_;refine ay 13 ?_;refine ay 14 ?_;refine ay 15 ?_;refine ay 16 ?_;refine ay 17 ?_;refine ay 18 ?_;refine bJ 19 fun K hK=>?_
  go_simp;go_wp2_with fail;refine aT hK (by refine⟨?_,?_,?_,?_,?_,?_,?_⟩<;>(rw[World.cell?_setCell_far _ _ _ _ ?_,World.cell?_setCell_far _ _ _ _ ?_,World.cell?_setCell_far _ _ _ _ ?_]<;>first|assumption|exact hne2|exact hnf)) fun hHeld=>?_
  clear hK K;refine ay 20 ?_;refine wpAnyH_done (by kernel_rfl) ?_ _;refine NoPanic.normal ?_;go_wp2;refine bodyPost_ret (v:=.tuple #[.agg #[.bool at_,.int .i64 am,.int .i64 ad],.bool (!at_)]) (by simp[results,Tryz.results247,go_sem,hcr]) rfl ⟨rfl,?_⟩;exact (eu (B:=B+1) gu.out (by have:=cO.out;omega) _ _ _)
theorem Ql (own a b':Ty) (A:Option Addr) (c fb:Nat) (w:World) (hL:bZ w) (hr:Rd w A (tys [a,b'])) (hc:2≤c) (hfb:aj w fb 244 [.func (.func 203) #[] #[]]):Calls Tryz.prog 247 #[own.v,.slice A 2 c,.pointer (some ⟨fb,0,none⟩)] w fun e w'=>e=.returned (.tuple #[aG.v,.bool (decide (a=b')&& !a.truth)])∧Below w.heap.size w w':=by
 obtain⟨b,off,rfl,hat⟩:=hr.Gm (by simp);obtain⟨tr,m,d⟩:=own;have hfr:=FI.new w tr m d;obtain⟨W,hW⟩:=zE ((w.alloc (.cells #[.bool tr,.int .i64 m,.int .i64 d] 32)).alloc (.cells #[.bool false,.int .i64 0,.int .i64 0] 32));obtain⟨B,hB⟩:=zE w.heap.size;rw[←hW,←hB] at hfr;have q0:=(hat 0 (by simp)).below hfr.w;simp only[List.getElem_cons_zero,List.getElem_cons_succ,Nat.zero_mul,Nat.add_zero,Nat.one_mul] at q0;have q1:=(hat 1 (by simp)).below hfr.w;simp only[List.getElem_cons_zero,List.getElem_cons_succ,Nat.zero_mul,Nat.add_zero,Nat.one_mul] at q1;have hfc:=(hfb.below hfr.w hfb.lt).cells;have hnf:¬(B+1=fb):=by have:=hfb.lt;omega
 have DU:=zH ((hfb.below hfr.w hfb.lt).drewN 1);have HF:=zH hfr;have cO:=zH hB;have hbB:b<B:=by rw[hB];exact (hat 0 (by simp)).lt
 have hne:¬(b=B+1):=by omega
 have hne2:¬(B+1=b):=by omega
 have Gn:¬(b=B):=by omega
 obtain⟨at_,am,ad⟩:=a;have ql:=zH (q0.below (ak W.heap.size W 1));obtain⟨hlt0,x00,x01,rM⟩:=q0;obtain⟨bt,bm,bd⟩:=b';have ji:=zH (q1.below (ak W.heap.size W 1));obtain⟨hlt1,x10,x11,x12⟩:=q1;have jF:=hL.below hfr.w;have HLD:=zH (jF.drewN 1);have g0:=jF.truth 0 _ rfl;have g1:=jF.truth 1 _ rfl;have g2:=jF.truth 2 _ rfl;unfold aG at g0 g1 g2⊢;have BP:¬(8=B+1):=by have:=hL.lt.2.2.2.2;omega
 have adh:¬(B+1=8):=by have:=hL.lt.2.2.2.2;omega
 simp only at g0 g1 g2;clear jF hL;have hcr:=hfr.r.cells;have yt:=hfr.r.aF;have hco:=hfr.o.cells;unfold Ty.v;simp only at x00 x01 rM x10 x11 x12⊢;clear hr hat hfr hfb hco;obtain⟨IG,nK⟩:∃dq,decide ((⟨at_,am,ad⟩:Ty)=⟨bt,bm,bd⟩)=dq:=⟨_,rfl⟩
 have II:=fun W=>zV ⟨at_,am,ad⟩ ⟨bt,bm,bd⟩ W
 rw[nK];simp only[nK,Ty.v] at II;clear nK;cases IG
 ·simp only[Bool.false_and]
  go_enter Tryz.func247,Tryz.ntmps247
  go_upto_region 1 with fail
  simp only[←hW,←hB]
  clear hW hB;refine wp_region_noPanic ?_;refine wp_region_held_drew (S:=fun w'=>w'.cell? ⟨fb,0,none⟩=some (.func (.func 203) #[] #[])∧w'.cell? ⟨b,off,none⟩=some (.bool at_)∧w'.cell? ⟨b,off+1,none⟩=some (.int .i64 am)∧w'.cell? ⟨b,off+2,none⟩=some (.int .i64 ad)∧w'.cell? ⟨b,off+3,none⟩=some (.bool bt)∧w'.cell? ⟨b,off+3+1,none⟩=some (.int .i64 bm)∧w'.cell? ⟨b,off+3+2,none⟩=some (.int .i64 bd)) (by kernel_rfl) ⟨hfc 0,x00,x01,rM,x10,x11,x12⟩ (fun hHeld=>?_);refine ay 0 ?_;refine ay 1 ?_;refine ay 2 ?_;refine ay 3 ?_;refine ay 5 ?_;refine ay 6 ?_;refine ay 7 ?_;refine ay 8 ?_;refine ay 9 ?_;refine ay 10 ?_;refine BM 11 (.bool false) rfl ?_ ?_
  ·intro w hSw;(try dsimp only at hSw);go_simp
   all_goals with_reducible rfl
  try simp only[Act.put,tk1,tk2,tk3,tk4,aQ,aS]
  refine bJ 4 fun K hK=>?_
  go_simp
  go_at_call 203
  refine (BX ⟨at_,am,ad⟩ _ HLD.out).mono ?_;rintro e w5 ⟨rfl,hb5⟩;simp only[Ty.v,aG]
  have hz0:=ql.out.below hb5;have hz1:=ji.out.below hb5;obtain⟨_,y0,y1,y2⟩:=hz0;obtain⟨_,z0,z1,z2⟩:=hz1;simp only at y0 y1 y2 z0 z1 z2;have hkr:=(HF.out.r.drew).below hb5 HF.out.r.lt;have hcr:=hkr.cells;have yt:=hkr.aF;have gu:=zH (ah (below_drewN HF.out.w 1) hb5);have Gp:=(DU.out.below hb5 DU.out.lt).cells 0;go_wp2_with fail;refine aT hK (⟨Gp,y0,y1,y2,z0,z1,z2⟩) fun hHeld=>?_
  clear hK K;refine ay 12 ?_;refine bK 13 rfl ?_
  try simp only[Act.put,tk1,tk2,tk3,tk4,aQ,aS]
  refine bK 14 rfl ?_
  try simp only[Act.put,tk1,tk2,tk3,tk4,aQ,aS]
  refine bK 15 rfl ?_
  try simp only[Act.put,tk1,tk2,tk3,tk4,aQ,aS]
  refine bK 16 rfl ?_
  try simp only[Act.put,tk1,tk2,tk3,tk4,aQ,aS]
  refine bK 17 rfl ?_
  try simp only[Act.put,tk1,tk2,tk3,tk4,aQ,aS]
  refine ay 18 ?_;refine bJ 19 fun K hK=>?_
  go_simp;go_wp2_with fail;refine aT hK (by refine⟨?_,?_,?_,?_,?_,?_,?_⟩<;>(rw[World.cell?_setCell_far _ _ _ _ ?_,World.cell?_setCell_far _ _ _ _ ?_,World.cell?_setCell_far _ _ _ _ ?_]<;>first|assumption|exact hne2|exact hnf)) fun hHeld=>?_
  clear hK K;refine ay 20 ?_;refine wpAnyH_done (by kernel_rfl) ?_ _;refine NoPanic.normal ?_;go_wp2;refine bodyPost_ret (v:=.tuple #[.agg #[.bool true,.int .i64 0,.int .i64 0],.bool false]) (by simp[results,Tryz.results247,go_sem,hcr]) rfl ⟨rfl,?_⟩;exact (eu (B:=B+1) gu.out (by have:=cO.out;omega) _ _ _)
 ·simp only[Bool.true_and]
  go_enter Tryz.func247,Tryz.ntmps247
  go_upto_region 1 with fail
  simp only[←hW,←hB]
  clear hW hB;refine wp_region_noPanic ?_;refine wp_region_held_drew (S:=fun w'=>w'.cell? ⟨fb,0,none⟩=some (.func (.func 203) #[] #[])∧w'.cell? ⟨b,off,none⟩=some (.bool at_)∧w'.cell? ⟨b,off+1,none⟩=some (.int .i64 am)∧w'.cell? ⟨b,off+2,none⟩=some (.int .i64 ad)∧w'.cell? ⟨b,off+3,none⟩=some (.bool bt)∧w'.cell? ⟨b,off+3+1,none⟩=some (.int .i64 bm)∧w'.cell? ⟨b,off+3+2,none⟩=some (.int .i64 bd)) (by kernel_rfl) ⟨hfc 0,x00,x01,rM,x10,x11,x12⟩ (fun hHeld=>?_);refine ay 0 ?_;refine ay 1 ?_;refine ay 2 ?_;refine ay 3 ?_;refine ay 5 ?_;refine ay 6 ?_;refine ay 7 ?_;refine ay 8 ?_;refine ay 9 ?_;refine ay 10 ?_;refine BM 11 (.bool true) rfl ?_ ?_
  ·intro w hSw;(try dsimp only at hSw);go_simp
   all_goals with_reducible rfl
  try simp only[Act.put,tk1,tk2,tk3,tk4,aQ,aS]
  refine bJ 4 fun K hK=>?_
  go_simp
  go_at_call 203
  refine (BX ⟨at_,am,ad⟩ _ HLD.out).mono ?_;rintro e w5 ⟨rfl,hb5⟩;simp only[Ty.v,aG]
  have hz0:=ql.out.below hb5;have hz1:=ji.out.below hb5;obtain⟨_,y0,y1,y2⟩:=hz0;obtain⟨_,z0,z1,z2⟩:=hz1;simp only at y0 y1 y2 z0 z1 z2;have hkr:=(HF.out.r.drew).below hb5 HF.out.r.lt;have hcr:=hkr.cells;have yt:=hkr.aF;have gu:=zH (ah (below_drewN HF.out.w 1) hb5);have Gp:=(DU.out.below hb5 DU.out.lt).cells 0;go_wp2_with fail;refine aT hK (⟨Gp,y0,y1,y2,z0,z1,z2⟩) fun hHeld=>?_
  clear hK K;refine ay 12 ?_;refine ay 13 ?_;refine ay 14 ?_;refine ay 15 ?_;refine ay 16 ?_;refine ay 17 ?_;refine ay 18 ?_;refine bJ 19 fun K hK=>?_
  go_simp;go_wp2_with fail;refine aT hK (by refine⟨?_,?_,?_,?_,?_,?_,?_⟩<;>(rw[World.cell?_setCell_far _ _ _ _ ?_,World.cell?_setCell_far _ _ _ _ ?_,World.cell?_setCell_far _ _ _ _ ?_]<;>first|assumption|exact hne2|exact hnf)) fun hHeld=>?_
  clear hK K;refine ay 20 ?_;refine wpAnyH_done (by kernel_rfl) ?_ _;refine NoPanic.normal ?_;go_wp2;refine bodyPost_ret (v:=.tuple #[.agg #[.bool true,.int .i64 0,.int .i64 0],.bool (!at_)]) (by simp[results,Tryz.results247,go_sem,hcr]) rfl ⟨rfl,?_⟩;exact (eu (B:=B+1) gu.out (by have:=cO.out;omega) _ _ _)
theorem wV (W:World) (a:Addr):W.drew.drew.cell? a=W.cell? a:=rfl
def oK (s:Int) (a b:Ty):Ty:=⟨false,a.aH+s*b.aH,a.days+s*b.days⟩
theorem KU (own a b':Ty) (s:Int) (A:Option Addr) (c fb:Nat) (w:World) (hs:s=1∨s= -1) (ha:aN a=true) (hb':aN b'=true) (hr:Rd w A (tys [a,b'])) (hc:2≤c) (hfb:aj w fb 3 [.int .i64 s]):Calls Tryz.prog 248 #[own.v,.slice A 2 c,.pointer (some ⟨fb,0,none⟩)] w fun e w'=>e=.returned (.tuple #[(oK s a b').v,.bool (!a.truth&&(!b'.truth&&dZ (oK s a b').aH (oK s a b').days))])∧Below w.heap.size w w':=by
 obtain⟨a1,a2,a3,a4⟩:=pX ha;obtain⟨c1,c2,c3,c4⟩:=pX hb';clear ha hb';obtain⟨b,off,rfl,hat⟩:=hr.Gm (by simp);obtain⟨tr,m,d⟩:=own;have hfr:=FI.new w tr m d;obtain⟨W,hW⟩:=zE ((w.alloc (.cells #[.bool tr,.int .i64 m,.int .i64 d] 32)).alloc (.cells #[.bool false,.int .i64 0,.int .i64 0] 32));obtain⟨B,hB⟩:=zE w.heap.size;rw[←hW,←hB] at hfr;have q0:=(hat 0 (by simp)).below hfr.w;simp only[List.getElem_cons_zero,List.getElem_cons_succ,Nat.zero_mul,Nat.add_zero,Nat.one_mul] at q0;have q1:=(hat 1 (by simp)).below hfr.w;simp only[List.getElem_cons_zero,List.getElem_cons_succ,Nat.zero_mul,Nat.add_zero,Nat.one_mul] at q1;have hfc:=(hfb.below hfr.w hfb.lt).cells;have agx:=(hfb.below hfr.w hfb.lt).lt;have hnf:¬(B+1=fb):=by have:=hfb.lt;omega
 have HF:=zH hfr;have cO:=zH hB;have hbB:b<B:=by rw[hB];exact (hat 0 (by simp)).lt
 have hne:¬(b=B+1):=by omega
 have hne2:¬(B+1=b):=by omega
 have Gn:¬(b=B):=by omega
 obtain⟨at_,am,ad⟩:=a;have ql:=zH (q0.below (ak W.heap.size W 1));obtain⟨hlt0,x00,x01,rM⟩:=q0;obtain⟨bt,bm,bd⟩:=b';have ji:=zH (q1.below (ak W.heap.size W 1));obtain⟨hlt1,x10,x11,x12⟩:=q1;have hcr:=hfr.r.cells;have yt:=hfr.r.aF;have hco:=hfr.o.cells;unfold Ty.v;simp only at x00 x01 rM x10 x11 x12⊢;clear hr hat hfr hfb hco;simp only at a1 a2 a3 a4 c1 c2 c3 c4;obtain⟨pm,hpm⟩:∃p,p=am+s*bm:=⟨_,rfl⟩
 obtain⟨pd,Il⟩:∃p,p=ad+s*bd:=⟨_,rfl⟩
 have hw1:IntKind.i64.wrap (s*bm)=s*bm:=IntWalk.i64_in _ (by rcases hs with rfl|rfl<;>omega);have hw2:IntKind.i64.wrap (s*bd)=s*bd:=IntWalk.i64_in _ (by rcases hs with rfl|rfl<;>omega);have hw3:IntKind.i64.wrap (am+s*bm)=pm:=by rw[hpm];exact IntWalk.i64_in _ (by rcases hs with rfl|rfl<;>omega)
 have hw4:IntKind.i64.wrap (ad+s*bd)=pd:=by rw[Il];exact IntWalk.i64_in _ (by rcases hs with rfl|rfl<;>omega)
 unfold oK;simp only[←hpm,←Il]
 have hya:∀o,Below W.heap.size W (W.alloc o):=fun o=>(Below.refl _ _).alloc (Nat.le_refl _) o
 have z00:∀o,(W.alloc o).cell? ⟨b,off,none⟩=some (.bool at_):=fun o=>((hya o).cell hlt0).trans x00
 have z10:∀o,(W.alloc o).cell? ⟨b,off+3,none⟩=some (.bool bt):=fun o=>((hya o).cell hlt0).trans x10
 have z01:∀o,(W.alloc o).cell? ⟨b,off+1,none⟩=some (.int .i64 am):=fun o=>((hya o).cell hlt0).trans x01
 have z02:∀o,(W.alloc o).cell? ⟨b,off+2,none⟩=some (.int .i64 ad):=fun o=>((hya o).cell hlt0).trans rM
 have z11:∀o,(W.alloc o).cell? ⟨b,off+3+1,none⟩=some (.int .i64 bm):=fun o=>((hya o).cell hlt0).trans x11
 have z12:∀o,(W.alloc o).cell? ⟨b,off+3+2,none⟩=some (.int .i64 bd):=fun o=>((hya o).cell hlt0).trans x12
 have zf:∀o,(W.alloc o).cell? ⟨fb,0,none⟩=some (.int .i64 s):=fun o=>((hya o).cell agx).trans (hfc 0)
 clear hs a1 a2 a3 a4 c1 c2 c3 c4 hpm Il hya;have yM:Hid (W.heap.size=B+2):=by show _=_;rw[hW,World.size_alloc,World.size_alloc,hB]
 go_enter Tryz.func248,Tryz.ntmps248
 go_upto_region 1 with fail
 simp only[←hW,←hB]
 clear hW hB;refine wp_region_noPanic ?_;refine wp_region_held_drew (S:=fun w'=>w'.cell? ⟨b,off,none⟩=some (.bool at_)∧w'.cell? ⟨b,off+1,none⟩=some (.int .i64 am)∧w'.cell? ⟨b,off+2,none⟩=some (.int .i64 ad)∧w'.cell? ⟨b,off+3,none⟩=some (.bool bt)∧w'.cell? ⟨b,off+3+1,none⟩=some (.int .i64 bm)∧w'.cell? ⟨b,off+3+2,none⟩=some (.int .i64 bd)∧w'.cell? ⟨fb,0,none⟩=some (.int .i64 s)) (by kernel_rfl) ⟨x00,x01,rM,x10,x11,x12,hfc 0⟩ (fun hHeld=>?_);refine ay 0 ?_;refine ay 1 ?_;refine ay 2 ?_;refine ay 3 ?_;refine ay 4 ?_;refine ay 5 ?_;refine ay 6 ?_;refine ay 7 ?_;refine ay 8 ?_;refine ay 9 ?_;refine ay 10 ?_;refine ay 11 ?_;refine ay 12 ?_;refine ay 13 ?_;refine ay 14 ?_;refine ay 15 ?_;refine ay 16 ?_;refine ay 17 ?_;refine ay 18 ?_;refine ay 19 ?_;refine ay 20 ?_;refine ay 21 ?_;refine ay 22 ?_;refine ay 23 ?_;refine ay 24 ?_;refine ay 25 ?_;refine ay 26 ?_;refine ay 27 ?_;refine bJ 28 fun K hK=>?_
 go_simp;go_wp2_with fail;refine aT hK (⟨z00 _,z01 _,z02 _,z10 _,z11 _,z12 _,zf _⟩) fun hHeld=>?_
 clear hK K;refine bJ 29 fun K hK=>?_
 go_simp;go_wp2_with fail;refine aT hK (⟨z00 _,z01 _,z02 _,z10 _,z11 _,z12 _,zf _⟩) fun hHeld=>?_
 clear hK K;refine wpAnyH_done (by kernel_rfl) ?_ _;refine NoPanic.normal ?_
 go_upto_region 2 with fail
 obtain⟨W3,hW3⟩:=zE (W.alloc (.cells #[.bool false,.int .i64 pm,.int .i64 pd] 32));have HP3:Hid (aj (W3.drewN 2) (B+2) 32 [.bool false,.int .i64 pm,.int .i64 pd]):=by show aj _ _ _ _;rw[hW3,←yM.out];exact (aj.new W _ _).drewN 2
 have HR3:Hid (aj (W3.drewN 2) (B+1) 32 [.bool false,.int .i64 0,.int .i64 0]):=by show aj _ _ _ _;rw[hW3];exact (HF.out.r.alloc _).drewN 2
 have bF:Hid (Below w.heap.size w (W3.drewN 2)):=by show Below _ _ _;rw[hW3];exact below_drewN (ah HF.out.w (zB _ _)) 2
 have WM:W3.cell? ⟨b,off,none⟩=some (.bool at_):=by rw[hW3];exact z00 _
 have WO:W3.cell? ⟨b,off+3,none⟩=some (.bool bt):=by rw[hW3];exact z10 _
 have yR:Hid (b<W3.heap.size):=by show _<_;rw[hW3,World.size_alloc];exact Nat.lt_succ_of_lt hlt0
 simp only[←hW3,yM.out]
 clear hW3 z01 z02 z11 z12 z00 z10 zf hw1 hw2 hw3 hw4 x00 x01 rM x10 x11 x12 hcr yt hfc;have hcr:∀i,W3.cell? ⟨B+1,i,none⟩=_:=HR3.out.cells;have yt:∀i,W3.frozen? ⟨B+1,i,none⟩=_:=HR3.out.aF;have hpc:∀i,W3.cell? ⟨B+2,i,none⟩=_:=HP3.out.cells;have hnp:¬(B+1=B+2):=by omega
 cases at_
 ·cases bt
  ·skip
   refine wp_region_noPanic ?_;refine wp_region_held_drew (S:=fun w'=>w'.cell? ⟨b,off,none⟩=some (.bool false)∧w'.cell? ⟨b,off+3,none⟩=some (.bool false)∧w'.cell? ⟨B+2,0,none⟩=some (.bool false)∧w'.cell? ⟨B+2,1,none⟩=some (.int .i64 pm)∧w'.cell? ⟨B+2,2,none⟩=some (.int .i64 pd)) (by kernel_rfl) ⟨WM,WO,hpc 0,hpc 1,hpc 2⟩ (fun hHeld=>?_);refine ay 0 ?_;refine ay 1 ?_;refine ay 2 ?_;refine ay 3 ?_;refine ay 4 ?_;refine ay 5 ?_;refine ay 6 ?_;refine ay 7 ?_;refine ay 8 ?_;refine ay 9 ?_;refine ay 10 ?_;refine ay 11 ?_;refine ay 12 ?_;refine ay 13 ?_;refine ay 14 ?_;refine ay 15 ?_;refine bJ 16 fun K hK=>?_
   go_simp
   go_at_call 65
   refine (yP pm pd _).mono ?_;rintro e w5 ⟨rfl,hb5⟩;have hkr:=HR3.out.below hb5 HR3.out.lt;have hcr:=hkr.cells;have yt:=hkr.aF;have gu:=zH (ah bF.out hb5);have hy0:=(hb5.cell yR.out).trans WM;have hy1:=(hb5.cell yR.out).trans WO;have hp5:=HP3.out.below hb5 HP3.out.lt;go_wp2_with fail;refine aT hK (⟨hy0,hy1,hp5.cells 0,hp5.cells 1,hp5.cells 2⟩) fun hHeld=>?_
   clear hK K;refine ay 17 ?_;refine bJ 18 fun K hK=>?_
   go_simp;obtain⟨k0,k1,k2,k3,k4⟩:=hHeld;go_wp2_with fail;refine aT hK (by refine⟨?_,?_,?_,?_,?_⟩<;>(try rw[wV])<;>(rw[World.cell?_setCell_far _ _ _ _ ?_,World.cell?_setCell_far _ _ _ _ ?_,World.cell?_setCell_far _ _ _ _ ?_]<;>first|assumption|exact hne2|exact hnp)) fun hHeld=>?_
   clear hK K;refine ay 19 ?_;refine wpAnyH_done (by kernel_rfl) ?_ _;refine NoPanic.normal ?_;go_wp2;refine bodyPost_ret (v:=.tuple #[.agg #[.bool false,.int .i64 pm,.int .i64 pd],.bool (dZ pm pd)]) (by simp[results,Tryz.results248,go_sem,hcr]) rfl ⟨rfl,?_⟩;exact (eu (B:=B+1) gu.out (by have:=cO.out;omega) _ _ _)

  ·skip
   refine wp_region_noPanic ?_;refine wp_region_held_drew (S:=fun w'=>w'.cell? ⟨b,off,none⟩=some (.bool false)∧w'.cell? ⟨b,off+3,none⟩=some (.bool true)∧w'.cell? ⟨B+2,0,none⟩=some (.bool false)∧w'.cell? ⟨B+2,1,none⟩=some (.int .i64 pm)∧w'.cell? ⟨B+2,2,none⟩=some (.int .i64 pd)) (by kernel_rfl) ⟨WM,WO,hpc 0,hpc 1,hpc 2⟩ (fun hHeld=>?_);refine ay 0 ?_;refine ay 1 ?_;refine ay 2 ?_;refine ay 3 ?_;refine ay 4 ?_;refine ay 5 ?_;refine ay 6 ?_;refine ay 7 ?_;refine ay 8 ?_;refine ay 9 ?_;refine ay 10 ?_;refine ay 11 ?_;refine ay 12 ?_;refine ay 13 ?_;refine bK 14 rfl ?_
   try simp only[Act.put,tk1,tk2,tk3,tk4,aQ,aS]
   refine bK 15 rfl ?_
   try simp only[Act.put,tk1,tk2,tk3,tk4,aQ,aS]
   refine bK 16 rfl ?_
   try simp only[Act.put,tk1,tk2,tk3,tk4,aQ,aS]
   refine ay 17 ?_;refine bJ 18 fun K hK=>?_
   go_simp;obtain⟨k0,k1,k2,k3,k4⟩:=hHeld;go_wp2_with fail;refine aT hK (by refine⟨?_,?_,?_,?_,?_⟩<;>(try rw[wV])<;>(rw[World.cell?_setCell_far _ _ _ _ ?_,World.cell?_setCell_far _ _ _ _ ?_,World.cell?_setCell_far _ _ _ _ ?_]<;>first|assumption|exact hne2|exact hnp)) fun hHeld=>?_
   clear hK K;refine ay 19 ?_;refine wpAnyH_done (by kernel_rfl) ?_ _;refine NoPanic.normal ?_;go_wp2;refine bodyPost_ret (v:=.tuple #[.agg #[.bool false,.int .i64 pm,.int .i64 pd],.bool (false)]) (by simp[results,Tryz.results248,go_sem,hcr]) rfl ⟨rfl,?_⟩;exact (eu (B:=B+1) bF.out (by have:=cO.out;omega) _ _ _)

 ·cases bt
  ·skip
   refine wp_region_noPanic ?_;refine wp_region_held_drew (S:=fun w'=>w'.cell? ⟨b,off,none⟩=some (.bool true)∧w'.cell? ⟨b,off+3,none⟩=some (.bool false)∧w'.cell? ⟨B+2,0,none⟩=some (.bool false)∧w'.cell? ⟨B+2,1,none⟩=some (.int .i64 pm)∧w'.cell? ⟨B+2,2,none⟩=some (.int .i64 pd)) (by kernel_rfl) ⟨WM,WO,hpc 0,hpc 1,hpc 2⟩ (fun hHeld=>?_);refine ay 0 ?_;refine ay 1 ?_;refine ay 2 ?_;refine ay 3 ?_;refine ay 4 ?_;refine ay 5 ?_;refine ay 6 ?_;refine bK 7 rfl ?_
   try simp only[Act.put,tk1,tk2,tk3,tk4,aQ,aS]
   refine bK 8 rfl ?_
   try simp only[Act.put,tk1,tk2,tk3,tk4,aQ,aS]
   refine bK 9 rfl ?_
   try simp only[Act.put,tk1,tk2,tk3,tk4,aQ,aS]
   refine bK 10 rfl ?_
   try simp only[Act.put,tk1,tk2,tk3,tk4,aQ,aS]
   refine bK 11 rfl ?_
   try simp only[Act.put,tk1,tk2,tk3,tk4,aQ,aS]
   refine ay 12 ?_;refine ay 13 ?_;refine bK 14 rfl ?_
   try simp only[Act.put,tk1,tk2,tk3,tk4,aQ,aS]
   refine bK 15 rfl ?_
   try simp only[Act.put,tk1,tk2,tk3,tk4,aQ,aS]
   refine bK 16 rfl ?_
   try simp only[Act.put,tk1,tk2,tk3,tk4,aQ,aS]
   refine ay 17 ?_;refine bJ 18 fun K hK=>?_
   go_simp;obtain⟨k0,k1,k2,k3,k4⟩:=hHeld;go_wp2_with fail;refine aT hK (by refine⟨?_,?_,?_,?_,?_⟩<;>(try rw[wV])<;>(rw[World.cell?_setCell_far _ _ _ _ ?_,World.cell?_setCell_far _ _ _ _ ?_,World.cell?_setCell_far _ _ _ _ ?_]<;>first|assumption|exact hne2|exact hnp)) fun hHeld=>?_
   clear hK K;refine ay 19 ?_;refine wpAnyH_done (by kernel_rfl) ?_ _;refine NoPanic.normal ?_;go_wp2;refine bodyPost_ret (v:=.tuple #[.agg #[.bool false,.int .i64 pm,.int .i64 pd],.bool (false)]) (by simp[results,Tryz.results248,go_sem,hcr]) rfl ⟨rfl,?_⟩;exact (eu (B:=B+1) bF.out (by have:=cO.out;omega) _ _ _)

  ·skip
   refine wp_region_noPanic ?_;refine wp_region_held_drew (S:=fun w'=>w'.cell? ⟨b,off,none⟩=some (.bool true)∧w'.cell? ⟨b,off+3,none⟩=some (.bool true)∧w'.cell? ⟨B+2,0,none⟩=some (.bool false)∧w'.cell? ⟨B+2,1,none⟩=some (.int .i64 pm)∧w'.cell? ⟨B+2,2,none⟩=some (.int .i64 pd)) (by kernel_rfl) ⟨WM,WO,hpc 0,hpc 1,hpc 2⟩ (fun hHeld=>?_);refine ay 0 ?_;refine ay 1 ?_;refine ay 2 ?_;refine ay 3 ?_;refine ay 4 ?_;refine ay 5 ?_;refine ay 6 ?_;refine bK 7 rfl ?_
   try simp only[Act.put,tk1,tk2,tk3,tk4,aQ,aS]
   refine bK 8 rfl ?_
   try simp only[Act.put,tk1,tk2,tk3,tk4,aQ,aS]
   refine bK 9 rfl ?_
   try simp only[Act.put,tk1,tk2,tk3,tk4,aQ,aS]
   refine bK 10 rfl ?_
   try simp only[Act.put,tk1,tk2,tk3,tk4,aQ,aS]
   refine bK 11 rfl ?_
   try simp only[Act.put,tk1,tk2,tk3,tk4,aQ,aS]
   refine ay 12 ?_;refine ay 13 ?_;refine bK 14 rfl ?_
   try simp only[Act.put,tk1,tk2,tk3,tk4,aQ,aS]
   refine bK 15 rfl ?_
   try simp only[Act.put,tk1,tk2,tk3,tk4,aQ,aS]
   refine bK 16 rfl ?_
   try simp only[Act.put,tk1,tk2,tk3,tk4,aQ,aS]
   refine ay 17 ?_;refine bJ 18 fun K hK=>?_
   go_simp;obtain⟨k0,k1,k2,k3,k4⟩:=hHeld;go_wp2_with fail;refine aT hK (by refine⟨?_,?_,?_,?_,?_⟩<;>(try rw[wV])<;>(rw[World.cell?_setCell_far _ _ _ _ ?_,World.cell?_setCell_far _ _ _ _ ?_,World.cell?_setCell_far _ _ _ _ ?_]<;>first|assumption|exact hne2|exact hnp)) fun hHeld=>?_
   clear hK K;refine ay 19 ?_;refine wpAnyH_done (by kernel_rfl) ?_ _;refine NoPanic.normal ?_;go_wp2;refine bodyPost_ret (v:=.tuple #[.agg #[.bool false,.int .i64 pm,.int .i64 pd],.bool (false)]) (by simp[results,Tryz.results248,go_sem,hcr]) rfl ⟨rfl,?_⟩;exact (eu (B:=B+1) bF.out (by have:=cO.out;omega) _ _ _)
theorem Oh (own:Ty) (l:List Ty) (A:Option Addr) (k c:Nat) (w:World) (hL:bZ w) (hk:k=l.length) (hm:k≤maxLen) (hr:Rd w A (tys l)):
  Calls Tryz.prog 249 #[own.v,.slice A k c] w fun e w'=>e=.returned (.tuple #[aG.v,.bool (l.all fun t=>decide (t=aG))])∧Below w.heap.size w w':=by
 obtain⟨tr,m,d⟩:=own;have hfr:=FI.new w tr m d;obtain⟨W,hW⟩:=zE ((w.alloc (.cells #[.bool tr,.int .i64 m,.int .i64 d] 32)).alloc (.cells #[.bool false,.int .i64 0,.int .i64 0] 32));obtain⟨B,hB⟩:=zE w.heap.size;rw[←hW,←hB] at hfr;have HF:=zH hfr;have cO:=zH hB;have HR:=zH hr;have lS:=zH hk;have HL:Hid (∀W,Below w.heap.size w W→bZ W):=fun W hb=>hL.below hb
 have HN:Hid (∀j (hj:j<l.length),l[j]≠aG→(l.all fun t=>decide (t=aG))=false):=fun j hj h=>by
  cases e:(l.all fun t=>decide (t=aG))
  ·rfl
  ·exact absurd (of_decide_eq_true (List.all_eq_true.1 e _ (List.getElem_mem hj))) h
 have HY:Hid ((∀i (hi:i<l.length),l[i]=aG)→(l.all fun t=>decide (t=aG))=true):=fun h=>by
  refine List.all_eq_true.2 (fun x hx=>?_);obtain⟨i,hi,rfl⟩:=List.getElem_of_mem hx;exact decide_eq_true (h i hi)
 have hm2:k≤9223372036854775807:=by unfold maxLen at hm;omega
 generalize (l.all fun t=>decide (t=aG))=res at*;unfold Ty.v;unfold aG at HN HY⊢;simp only
 clear hr hL hm hfr hk;go_enter Tryz.func249,Tryz.ntmps249
 go_upto_region 1 with fail
 simp only[←hW,←hB]
 clear hW hB;go_wp2
 go_loopg [10] k (fun g iv wr=>∃j:Nat,j+g=k∧iv=.int .i64 j∧Hid (∀i (hi:i<l.length),i<j→l[i]=⟨true,0,0⟩)∧Hid (Below W.heap.size W wr))
 case atStart=>exact⟨0,by omega,rfl,(fun i hi h=>absurd h (by omega)),Below.refl _ _⟩
 case round=>
  obtain⟨j,hj,rfl,hall,hbr⟩:=hrel;by_cases hlt:j<k
  ·have hjl:j<l.length:=by rw[←lS.out];exact hlt
   obtain⟨b,off,hA,hb,d0,d1,d2⟩:=HR.out.ty hjl;subst hA;have HNJ:=zH (HN.out j hjl)
   have um:Hid (l[j]=⟨true,0,0⟩→∀i (hi:i<l.length),i<j+1→l[i]=⟨true,0,0⟩):=fun h i hi hij=>by
    by_cases hij2:i<j
    ·exact hall.out i hi hij2
    ·obtain rfl:i=j:=by omega
     exact h
   generalize l[j]=t at*;obtain⟨tt,tm,td⟩:=t;obtain⟨dq,qh⟩:=zF (decide ((⟨tt,tm,td⟩:Ty)=⟨true,0,0⟩));have HE:=fun W=>Dl ⟨tt,tm,td⟩ ⟨true,0,0⟩ W
   simp only[qh,Ty.v] at HE;simp only at d0 d1 d2;have jr:=ah HF.out.w hbr.out;have e0:=(jr.cell hb).trans d0;have e1:=(jr.cell hb).trans d1;have e2:=(jr.cell hb).trans d2;have jF:=(HL.out _ jr).alloc (.cells #[.bool tt,.int .i64 tm,.int .i64 td] 32);have g0:=jF.truth 0 _ rfl;have g1:=jF.truth 1 _ rfl;have g2:=jF.truth 2 _ rfl;unfold aG at g0 g1 g2;simp only at g0 g1 g2;have fQ:Hid (Below W.heap.size W (wr.alloc (.cells #[.bool tt,.int .i64 tm,.int .i64 td] 32))):=ah hbr.out (zB _ _);have vk:=zH qh;clear hbr jr d0 d1 d2 jF qh hall;cases dq
   ·have hq:res=false:=HNJ.out (of_decide_eq_false vk.out);subst hq;have hkr:=HF.out.r.below fQ.out HF.out.r.lt;have hcr:=hkr.cells;have yt:=hkr.aF;have gu:=zH (ah HF.out.w fQ.out);have BP:¬(8=B+1):=by have h1:=(HL.out w (Below.refl _ _)).lt.2.2.2.2;have h2:=cO.out;omega
    clear hkr um HN HY HNJ vk;go_wp2;refine bodyPost_ret (v:=.tuple #[.agg #[.bool true,.int .i64 0,.int .i64 0],.bool false]) (by simp[results,Tryz.results249,go_sem,hcr]) rfl ⟨rfl,?_⟩;exact eu (B:=B+1) gu.out (by have:=cO.out;omega) _ _ _
   ·have HAN:=zH (um.out (of_decide_eq_true vk.out));clear um HN HY HNJ vk;go_wp2
    go_roundg (k-(j+1))
    case measure=>omega
    case rel=>exact⟨j+1,by omega,by go_num,HAN,fQ⟩
  ·obtain rfl:j=k:=by omega
   have hq:res=true:=HY.out (fun i hi=>hall.out i hi (by rw[lS.out];exact hi));subst hq;have jr:=ah HF.out.w hbr.out;have jF:=HL.out _ jr;have g0:=jF.truth 0 _ rfl;have g1:=jF.truth 1 _ rfl;have g2:=jF.truth 2 _ rfl;unfold aG at g0 g1 g2;simp only at g0 g1 g2;have hkr:=HF.out.r.below hbr.out HF.out.r.lt;have hcr:=hkr.cells;have yt:=hkr.aF;have gu:=zH jr;clear hall hbr jr jF hkr HN HY;go_wp2;refine bodyPost_ret (v:=.tuple #[.agg #[.bool true,.int .i64 0,.int .i64 0],.bool true]) (by simp[results,Tryz.results249,go_sem,hcr]) rfl ⟨rfl,?_⟩;exact eu (B:=B+1) gu.out (by have:=cO.out;omega) _ _ _
def qQ (sg:List Sg) (n:Nd):Option Ty:=if sN n.op then pW sg n else some aI
def rowT (ts:List Ty) (row:List Nat):List Ty:=row.map fun k=>ts.getD k aI
def lY (sg:List Sg):List Nd→List (List Nat)→List Ty→List Ty × Int
 |n::r,a::ar,ts=>match qQ sg n with
  |none=>([],12)
  |some own=>if (dU n.op own (rowT ts a)).2 then lY sg r ar (ts++[(dU n.op own (rowT ts a)).1]) else ([],13)
 |_,_,ts=>(ts,0)
def eG (sg:List Sg) (e:List Nd):List Ty × Int:=if bC e=0 then lY sg e (iY e) [] else ([],bC e)
def iK (sg:List Sg) (e:List Nd):Ty × Int:=let r:=eG sg e;if r.2=0 then (r.1.getD (r.1.length-1) aI,0) else (aI,r.2)
theorem Ri:∀(e:List Nd) (k:Nat) (st:List Nat),chk e st.length=0→(∀x∈st,x<k)→∀j (hj:j<e.length),∃row,(iM e k st)[j]?=some row∧row.length=(aC e[j].op).ops∧(∀x∈row,x<k+j)∧bP e[j]=0
 |[],_,_,_,_,j,hj=>by simp at hj
 |n::r,k,st,h,hst,j,hj=>by
  obtain⟨h1,h2,h3⟩:=AX h;cases j with
  |zero=>exact⟨_,rfl,by rw[List.length_reverse,List.length_take];exact Nat.min_eq_left h2,fun x hx=>hst x (List.mem_of_mem_take (List.mem_reverse.1 hx)),h1⟩
  |succ j=>
   have ih:=Ri r (k+1) (k::st.drop (aC n.op).ops) (by rw[List.length_cons,List.length_drop];exact h3)
    (fun x hx=>by rcases List.mem_cons.1 hx with rfl|hx
                  ·omega
                  ·exact Nat.lt_succ_of_lt (hst x (List.mem_of_mem_drop hx))) j (by simpa using hj)
   obtain⟨row,e1,e2,e3,e4⟩:=ih;exact⟨row,e1,e2,fun x hx=>by have:=e3 x hx;omega,e4⟩
theorem Oi {e:List Nd} (h:bC e=0) (j:Nat) (hj:j<e.length):∃row,(iY e)[j]?=some row∧row.length=(aC e[j].op).ops∧(∀x∈row,x<j)∧bP e[j]=0:=by
 unfold bC at h;split at h
 ·cases h
 ·obtain⟨row,h1,h2,h3,h4⟩:=Ri e 0 [] h (fun x hx=>by cases hx) j hj;exact⟨row,h1,h2,fun x hx=>by have:=h3 x hx;omega,h4⟩
theorem wW {e:List Nd} (h:bC e=0):0<e.length∧e.length≤60:=by
 unfold bC at h;split at h
 ·cases h
 ·refine⟨?_,by omega⟩;cases e with
  |nil=>rw[chk] at h;simp at h
  |cons n r=>simp
theorem Oj {n:Nd} (h:bP n=0):1≤n.op∧n.op≤24:=by
 unfold bP at h;split at h
 ·cases h
 ·next h'=>
  exact⟨by have:¬n.op<1:=fun h1=>h' (Or.inl h1);omega,by have:¬24<n.op:=fun h1=>h' (Or.inr (Or.inl h1));omega⟩
theorem FK:aN aI=true:=by decide
theorem sS {l:List Ty} (h:∀t∈l,aN t=true) (i:Nat):aN (l.getD i aI)=true:=by
 rw[List.getD_eq_getElem?_getD];rcases Nat.lt_or_ge i l.length with hi|hi
 ·rw[List.getElem?_eq_getElem hi];exact h _ (List.getElem_mem hi)
 ·rw[List.getElem?_eq_none hi];exact FK
theorem Qm {sg:List Sg} {n:Nd} {t:Ty} (h:pW sg n=some t):aN t=true:=by
 unfold pW at h;obtain⟨s,hs,rfl⟩:=Option.map_eq_some_iff.1 h;have:=List.find?_some hs;unfold sK at this;simp only[Bool.and_eq_true] at this;exact this.2.2.1
theorem IJ {sg:List Sg} {n:Nd} {t:Ty} (h:qQ sg n=some t):aN t=true:=by
 unfold qQ at h;split at h
 ·exact Qm h
 ·injection h with h;subst h;exact FK
theorem FM (k:Int) (own:Ty) (l:List Ty) (ho:aN own=true) (hl:∀t∈l,aN t=true) (h:(dU k own l).2=true):aN (dU k own l).1=true:=by
 have hA:=sS hl 0;have hB:=sS hl 1;have ht:aN aG=true:=by decide
 revert h
 unfold dU;by_cases h1:k=1
 ·rw[if_pos h1];intro _;decide
 rw[if_neg h1];clear h1;by_cases h1:k=2
 ·rw[if_pos h1];intro _;decide
 rw[if_neg h1];clear h1;by_cases h1:k=3
 ·rw[if_pos h1];intro _;decide
 rw[if_neg h1];clear h1;by_cases h1:k=4
 ·rw[if_pos h1];intro _;decide
 rw[if_neg h1];clear h1;by_cases h1:k≤8
 ·rw[if_pos h1];intro _;exact ho
 rw[if_neg h1];clear h1;by_cases h1:k=11
 ·rw[if_pos h1];intro h;simp only[Bool.and_eq_true] at h;exact h.2.2
 rw[if_neg h1];clear h1;by_cases h1:k=12
 ·rw[if_pos h1];intro h;simp only[Bool.and_eq_true] at h;exact h.2.2
 rw[if_neg h1];clear h1;by_cases h1:k≤14
 ·rw[if_pos h1];intro _;exact hA
 rw[if_neg h1];clear h1;by_cases h1:k=15
 ·rw[if_pos h1];intro _;exact hB
 rw[if_neg h1];clear h1;by_cases h1:k=16
 ·rw[if_pos h1];intro _;exact ht
 rw[if_neg h1];clear h1;by_cases h1:k=17
 ·rw[if_pos h1];intro _;exact ht
 rw[if_neg h1];clear h1;by_cases h1:k≤20
 ·rw[if_pos h1];intro _;exact ht
 rw[if_neg h1];clear h1;by_cases h1:k≤23
 ·rw[if_pos h1];intro _;exact hA
 rw[if_neg h1];clear h1;intro _;exact ho
theorem KW {sg:List Sg} {n:Nd} {r:List Nd} {a:List Nat} {ar:List (List Nat)} {ts:List Ty} {own:Ty} (h:qQ sg n=some own) (h2:(dU n.op own (rowT ts a)).2=true):
  lY sg (n::r) (a::ar) ts=lY sg r ar (ts++[(dU n.op own (rowT ts a)).1]):=by
 rw[lY,h];simp only[h2,if_true]
theorem KX {sg:List Sg} {n:Nd} {r:List Nd} {a:List Nat} {ar:List (List Nat)} {ts:List Ty} (h:qQ sg n=none):lY sg (n::r) (a::ar) ts=([],12):=by rw[lY,h]
theorem Ol {sg:List Sg} {n:Nd} {r:List Nd} {a:List Nat} {ar:List (List Nat)} {ts:List Ty} {own:Ty} (h:qQ sg n=some own) (h2:(dU n.op own (rowT ts a)).2=false):
  lY sg (n::r) (a::ar) ts=([],13):=by
 rw[lY,h];simp only[h2];rfl
theorem Om {sg:List Sg}:∀(r:List Nd) (ar:List (List Nat)) (ts:List Ty),ar.length=r.length→(lY sg r ar ts).2=0→(lY sg r ar ts).1.length=ts.length+r.length
 |[],[],ts,_,_=>rfl
 |n::r,a::ar,ts,hl,h=>by
  cases ho:qQ sg n with
  |none=>rw[KX ho] at h;cases h
  |some own=>
   cases h2:(dU n.op own (rowT ts a)).2 with
   |false=>rw[Ol ho h2] at h;cases h
   |true=>
    rw[KW ho h2] at h⊢;rw[Om r ar _ (by simpa using hl) h];simp;omega
 |[],a::ar,ts,hl,_=>by simp at hl
 |n::r,[],ts,hl,_=>by simp at hl
def Ae (b:Bool) (w:World) (e:Ending) (w':World):Prop:=e=.returned (.bool b)∧Below w.heap.size w w'
theorem IK (n:Int) (w:World):Calls Tryz.prog 226 #[.int .i64 n] w (Ae (sN n) w):=by
 unfold sN;obtain⟨a,ha⟩:=zF (decide (n≥5));obtain⟨b,hb⟩:=zF (decide (n≤8));rw[Bool.decide_and,show decide (5≤n)=a from ha,hb];cases a<;>cases b<;>simp only[decide_eq_true_eq,decide_eq_false_iff_not] at ha hb
 all_goals
  go_enter Tryz.func226,Tryz.ntmps226;go_wp2;go_ret;exact⟨rfl,Below.refl _ _⟩
theorem KY (m d:Int) (w:World):Calls Tryz.prog 81 #[.agg #[.int .i64 m,.int .i64 d]] w (Ae (dZ m d) w):=by
 have hu:dZ m d=(decide (m≥-3)&&(decide (m≤3)&&(decide (d≥-3)&&decide (d≤3)))):=by
  unfold dZ;rw[Bool.eq_iff_iff];simp only[Bool.and_eq_true,decide_eq_true_eq];omega
 rw[hu];obtain⟨a,ha⟩:=zF (decide (m≥-3));obtain⟨b,hb⟩:=zF (decide (m≤3));obtain⟨c,hc⟩:=zF (decide (d≥-3));obtain⟨f,hf⟩:=zF (decide (d≤3));rw[ha,hb,hc,hf];clear hu;cases a<;>cases b<;>cases c<;>cases f<;>simp only[decide_eq_true_eq,decide_eq_false_iff_not] at ha hb hc hf
 all_goals try (exfalso;omega)
 all_goals
  go_enter Tryz.func81,Tryz.ntmps81
  go_upto_region 1 with fail
  generalize hX:w.alloc _=X;obtain⟨hk,hw⟩:=zA hX;have hk:=hk.cells;clear hX;go_wp2;go_ret;exact⟨rfl,hw⟩
theorem sU (t:Ty) (w:World):Calls Tryz.prog 80 #[t.v] w (Ae (aN t) w):=by
 obtain⟨t,m,d⟩:=t;unfold Ty.v aN;simp only
 cases t
 ·simp only[Bool.false_eq_true,if_false]
  have HU:=zH (fun W=>KY m d W);go_enter Tryz.func80,Tryz.ntmps80
  go_upto_region 1 with fail
  generalize hX:w.alloc _=X;obtain⟨hk,hw⟩:=zA hX;have hk:=hk.cells;clear hX;go_wp2_with fail;refine (HU.out _).mono ?_;rintro e w1 ⟨rfl,hb⟩;go_wp2;go_ret;exact⟨rfl,ah hw hb⟩
 ·rw[if_pos rfl,show decide ((⟨true,m,d⟩:Ty)=aG)=(decide (m=0)&&decide (d=0)) by unfold aG;rw[Bool.eq_iff_iff];simp];obtain⟨a,ha⟩:=zF (decide (m=0));obtain⟨b,hb⟩:=zF (decide (d=0));rw[ha,hb];cases a<;>cases b<;>simp only[decide_eq_true_eq,decide_eq_false_iff_not] at ha hb
  all_goals
   go_enter Tryz.func80,Tryz.ntmps80
   go_upto_region 1 with fail
   generalize hX:w.alloc _=X;obtain⟨hk,hw⟩:=zA hX;have hk:=hk.cells;clear hX;go_wp2;go_ret
   first|exact⟨rfl,hw⟩|exact⟨rfl,ah hw (zB _ _)⟩
end Go.Proofs.YtgfeadgafdijaaaGreatDoor
