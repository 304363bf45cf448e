/- A part of the proof: Wh Wi Wj Wl Um Uf. -/
import Derived.Test.YtmmbjngbeiokeaaGreatDoorF01
import Derived.Test.YtmmbjngbeiokeaaGreatDoorF23
import Derived.Test.YtmmbjngbeiokeaaGreatDoorF26
import Derived.Test.YtmmbjngbeiokeaaGreatDoorF28
import Derived.Test.YtmmbjngbeiokeaaGreatDoorF32
import Derived.Test.YtmmbjngbeiokeaaGreatDoorF34
import Derived.Test.YtmmbjngbeiokeaaGreatDoorF35
set_option linter.unusedVariables false
set_option linter.unusedSimpArgs false
set_option maxRecDepth 100000
set_option maxHeartbeats 40000000
namespace Go.Proofs.YtmmbjngbeiokeaaGreatDoor
open Go.RowKit
def zPv:Pv × Hd:=(⟨⟨#[]⟩,⟨false,0,0⟩,false,⟨false,⟨#[]⟩,⟨#[]⟩⟩,⟨false,⟨#[]⟩,⟨#[]⟩⟩,[]⟩,⟨none,0,0⟩)
structure CW (w:World) (D u B:Nat) (y:Pv × Hd) (bs:List (Nat × Nd)) (W:World):Prop where
 d:DW w D u W
 b:Blk W B 41 (pvCells y)
 r:Blk W (B+1) 41 (pvCells zPv)
 hB:w.heap.size≤B
 nb:∀p∈bs,B+2≤p.1∧Blk W p.1 87 p.2.cells
section
variable {w W X:World} {D u B:Nat} {y:Pv × Hd} {bs:List (Nat × Nd)}
theorem CW.onl (h:CW w D u B y bs W) (hd:DS X D u) (ho:Onl D W X):CW w D u B y bs X:=by
 have h1:=h.d.hD;have h2:=h.hB;exact⟨h.d.onl hd ho,ho.blk h.b (by omega),ho.blk h.r (by omega),h.hB,fun p hp=>⟨(h.nb p hp).1,ho.blk (h.nb p hp).2 (by have:=(h.nb p hp).1;omega)⟩⟩
theorem CW.below (h:CW w D u B y bs W) (hb:Below W.heap.size W X):CW w D u B y bs X:=h.onl (h.d.ds.below hb) (Onl.of_below hb)
theorem CW.next (h:CW w D u B y bs W) (q:Int) (h1:1≤q) (h2:q≤1000):Calls Tryz.prog 32 #[.pointer (some ⟨D,0,none⟩),.int .i64 q] W fun e X=>∃r:Nat,(r:Int)<q∧e=.returned (.int .i64 r)∧CW w D u B y bs X∧Onl D W X:=
 (next_any W D u q h.d.ds h1 (by omega)).mono fun _ _ ⟨r,hr,he,hd,ho⟩=>⟨r,hr,he,h.onl hd ho,ho⟩
theorem CW.push (h:CW w D u B y bs W) (n:Nd):CW w D u B y ((W.heap.size,n)::bs) (W.alloc (.cells n.cells.toArray 87)):=by
 have k:=h.below (zB W (.cells n.cells.toArray 87))
 exact⟨k.d,k.b,k.r,k.hB,fun p hp=>by
  rcases List.mem_cons.1 hp with rfl|hp
  ·exact⟨h.r.lt,Blk.new W _ _⟩
  ·exact k.nb p hp⟩
theorem CW.pushX (h:CW w D u B y bs W) (n:Nd) (hX:W.alloc (.cells n.cells.toArray 87)=X):CW w D u B y ((W.heap.size,n)::bs) X:=hX ▸ h.push n
theorem CW.low (h:CW w D u B y bs W) (hb:Below (B+2) W X):CW w D u B y [] X:=
 ⟨h.d.low (hb.mono (by have:=h.hB;omega)),h.b.below hb (by omega),h.r.below hb (by omega),h.hB,fun _ hp=>(by cases hp)⟩
theorem CW.put {N:Nat} {n:Nd} (h:CW w D u B y ((N,n)::bs) W) (n':Nd) (hN:∀p∈bs,p.1≠N):CW w D u B y ((N,n')::bs) (((((W.setCell ⟨N,0,none⟩ (.int .i64 n'.op)).setCell ⟨N,1,none⟩ (.bool n'.num.neg)).setCell ⟨N,2,none⟩ (.string n'.num.num)).setCell ⟨N,3,none⟩ (.string n'.num.den)).setCell ⟨N,4,none⟩ (.string n'.name)):=by
 obtain⟨h1,h2⟩:=h.nb _ List.mem_cons_self;have on:Onl N W (((((W.setCell ⟨N,0,none⟩ (.int .i64 n'.op)).setCell ⟨N,1,none⟩ (.bool n'.num.neg)).setCell ⟨N,2,none⟩ (.string n'.num.num)).setCell ⟨N,3,none⟩ (.string n'.num.den)).setCell ⟨N,4,none⟩ (.string n'.name)):=(((((Onl.refl _ _).set 0 _).set 1 _).set 2 _).set 3 _).set 4 _;have k:=h.low (on.below h1 h.r.lt);refine⟨k.d,k.b,k.r,h.hB,fun p hp=>?_⟩;rcases List.mem_cons.1 hp with rfl|hp
 ·exact⟨h1,((((h2.set 0 _).set 1 _).set 2 _).set 3 _).set 4 _⟩
 ·exact⟨(h.nb p (List.mem_cons_of_mem _ hp)).1,on.blk (h.nb p (List.mem_cons_of_mem _ hp)).2 (hN p hp)⟩
theorem CW.set (h:CW w D u B y bs W) (i:Nat) (v:Value):DW w D u (W.setCell ⟨B,i,none⟩ v)∧Blk (W.setCell ⟨B,i,none⟩ v) B 41 ((pvCells y).set i v)∧Blk (W.setCell ⟨B,i,none⟩ v) (B+1) 41 (pvCells zPv):=by
 have hb:Below w.heap.size W (W.setCell ⟨B,i,none⟩ v):=(Below.refl _ _).setCell (p:=⟨B,i,none⟩) h.hB v;exact⟨h.d.low hb,h.b.set i v,h.r.other (by show B+1≠B;omega) v⟩
theorem CW.turn (h:CW w D u B y bs W) (on:Onl B W X) (y':Pv × Hd) (hb:Blk X B 41 (pvCells y')):CW w D u B y' [] X:=
 ⟨h.d.low (on.below h.hB (Nat.le_trans h.hB (Nat.le_of_lt h.b.lt))),hb,on.blk h.r (by omega),h.hB,fun _ hp=>(by cases hp)⟩
theorem CW.body (h:CW w D u B y bs W) (z:Hd):CW w D u B (y.1,z) [] (W.setCell ⟨B,4,none⟩ (.slice z.a z.n z.c)):=h.turn ((Onl.refl _ _).set 4 _) _ (h.b.set 4 _)
theorem CW.step (h:CW w D u B y bs W) (s:Ra):CW w D u B ({y.1 with step:=s},y.2) [] (((W.setCell ⟨B,6,none⟩ (.bool s.neg)).setCell ⟨B,7,none⟩ (.string s.num)).setCell ⟨B,8,none⟩ (.string s.den)):=h.turn ((((Onl.refl _ _).set 6 _).set 7 _).set 8 _) _ (((h.b.set 6 _).set 7 _).set 8 _)
theorem CW.cap (h:CW w D u B y bs W) (s:Ra):CW w D u B ({y.1 with cap:=s},y.2) [] (((W.setCell ⟨B,9,none⟩ (.bool s.neg)).setCell ⟨B,10,none⟩ (.string s.num)).setCell ⟨B,11,none⟩ (.string s.den)):=h.turn ((((Onl.refl _ _).set 9 _).set 10 _).set 11 _) _ (((h.b.set 9 _).set 10 _).set 11 _)
theorem CW.start {x:Pv × Hd} (hd:DS w D u) (hu:u≤w.heap.size) (hW:(w.alloc (.cells (pvCells x).toArray 41)).alloc (.cells (pvCells zPv).toArray 41)=W):CW w D u w.heap.size x [] W:=by
 obtain⟨k0,k1,k2,_⟩:=kTwo_new w 41 41 (pvCells x).toArray (pvCells zPv).toArray;rw[hW] at k0 k1 k2;exact⟨(⟨hd,Onl.refl _ _,hd.lt,hu⟩:DW w D u w).below k2,k0,k1,Nat.le_refl _,fun _ hp=>(by cases hp)⟩
end
def CiRet (D u:Nat) (x:Pv × Hd) (w:World) (e:Ending) (w':World):Prop:=∃y:Pv × Hd,e=.returned (.agg (pvCells y).toArray)∧y.1.name=x.1.name∧y.1.ty=x.1.ty∧DS w' D u∧Onl D w w'
theorem wcircle_any (D u:Nat) (x:Pv × Hd) (ot:ByteArray) (w:World) (hd:DS w D u) (hu:u≤w.heap.size):
  Calls Tryz.prog 39 #[.pointer (some ⟨D,0,none⟩),.agg (pvCells x).toArray,.string ot] w (CiRet D u x w):=by
 go_enter Tryz.func39,Tryz.ntmps39;unfold pvCells
 go_upto_region 1 with fail
 generalize hW:(w.alloc _).alloc _=W;have h:=CW.start hd hu hW;clear hW hd hu;generalize w.heap.size=B at h⊢;go_wp2_with fail;refine (h.next 3 (by omega) (by omega)).mono ?_;rintro e w1 ⟨r,hr,rfl,h',_⟩;clear h hr
 go_upto_if 12 with fail
 go_cut [7] from 12 to 12 (fun ov X=>(∃o:Int,ov=.int .i64 o)∧CW w D u B x [] X)
 case first=>
  go_wp2
  all_goals
   go_meet
   case rel=>exact⟨⟨_,rfl⟩,h'⟩
 case rest=>
  clear h';obtain⟨⟨o,rfl⟩,h⟩:=hcut;go_wp2_with fail;refine (h.next 4 (by omega) (by omega)).mono ?_;rintro e w1 ⟨r1,hr1,rfl,h',_⟩;clear h;go_wp2_with fail;refine (h'.next 3 (by omega) (by omega)).mono ?_;rintro e w2 ⟨r2,hr2,rfl,h,_⟩;clear h';go_wp2_with fail;refine (wfr _ _ w2 (by omega) (by omega) (by omega) (by omega)).mono ?_;rintro e w3 ⟨an,au,ad,rfl,hb⟩;replace h:=h.below hb;clear hb hr1 hr2
  go_upto_region 5 with fail
  generalize hX:w3.alloc _=X;have h':=h.pushX ⟨3,⟨an,au,ad⟩,⟨#[]⟩⟩ hX;clear hX h;generalize w3.heap.size=N1 at h'⊢;go_wp2_with fail;refine (h'.next 40 (by omega) (by omega)).mono ?_;rintro e w4 ⟨r3,hr3,rfl,h,_⟩;clear h';go_wp2_with fail;refine (wfr _ _ w4 (by omega) (by omega) (by omega) (by omega)).mono ?_;rintro e w5 ⟨bn,bu,bd,rfl,hb⟩;replace h:=h.below hb;clear hb hr3
  go_upto_region 6 with fail
  generalize hX:w5.alloc _=X2;have h':=h.pushX ⟨1,⟨bn,bu,bd⟩,⟨#[]⟩⟩ hX;have hne:N1<w5.heap.size:=(h.nb _ List.mem_cons_self).2.lt;clear hX h;generalize w5.heap.size=N2 at h' hne⊢;go_wp2_with fail;refine (h'.next 2 (by omega) (by omega)).mono ?_;rintro e w6 ⟨r4,hr4,rfl,h,_⟩;clear h' hr4
  go_upto_if 27 with fail
  go_cut [] from 27 to 28 (fun X=>∃n2,CW w D u B x [(N2,n2),(N1,⟨3,⟨an,au,ad⟩,⟨#[]⟩⟩)] X)
  case first=>
   have c2:=(h.nb _ List.mem_cons_self).2.cells;have f2:=(h.nb _ List.mem_cons_self).2.froz;simp only[Nd.cells] at c2 f2;go_wp2
   ·go_meet
    case rel=>exact⟨_,h.put ⟨5,⟨false,⟨#[]⟩,⟨#[]⟩⟩,⟨#[119,97,103,101]⟩⟩ (fun p hp=>by simp at hp;subst hp;show N1≠N2;omega)⟩
   ·go_meet
    case rel=>exact⟨_,h⟩
  case rest=>
   clear h;obtain⟨⟨p2,⟨pn,pu,pd⟩,pm⟩,h⟩:=hcut;have c2:=(h.nb _ List.mem_cons_self).2.cells;have c1:=(h.nb _ (List.mem_cons_of_mem _ List.mem_cons_self)).2.cells;have fB:=h.b.froz;have cB:=h.b.cells;have hBz:=h.b.lt;simp only[Nd.cells] at c1 c2;unfold pvCells at cB;clear hne
   go_upto_region 9 with fail
   have h':=h.body ⟨some ⟨wc.heap.size,0,none⟩,5,5⟩;have e5:(wc.setCell ⟨B,4,none⟩ (.slice (some ⟨wc.heap.size,0,none⟩) 5 5)).heap.size=wc.heap.size:=by simp[World.setCell]
   simp only at h';generalize wc.setCell ⟨B,4,none⟩ (.slice (some ⟨wc.heap.size,0,none⟩) 5 5)=Y at h' e5⊢;generalize hZ:Y.alloc _=Z;have ho:=own_newX hZ 5 5 (B+2) rfl (by omega) h'.r.lt;rw[e5] at ho;clear h c1 c2 cB fB hBz e5;have h:=h'.below (zA hZ).2;clear hZ h';generalize wc.heap.size=N at h ho⊢;go_wp2_with fail;refine (h.next 2 (by omega) (by omega)).mono ?_;rintro e w7 ⟨r5,hr5,rfl,h',hx⟩;replace ho:=onl_row ho hx (by have:=h.d.hD;have:=h.hB;omega);clear h hx hr5
   go_upto_if 40 with fail
   go_cut [] from 40 to 47 (fun X=>∃z,CW w D u B (x.1,z) [] X)
   case first=>
    go_wp2
    ·have hc:=fun X (h:CW w D u B (x.1,⟨some ⟨N,0,none⟩,5,5⟩) [] X)=>show X.cell? ⟨B,4,none⟩=some (.slice (some ⟨N,0,none⟩) 5 5) from h.b.cells 4
     refine reS (CW w D u B (x.1,⟨some ⟨N,0,none⟩,5,5⟩) []) 7 (h'.below (drewN_below _ _ 1)) (fun w8 h8 h=>?_);replace ho:=own_below ho h8;refine reA ?_;refine reA ?_;refine reC 2 (wfr 1 4 w8 (by omega) (by omega) (by omega) (by omega)) ?_;rintro e w9 ⟨cn,cu,cd,rfl,hb⟩;replace ho:=own_below ho hb;refine⟨_,rfl,h.below hb,fun h=>?_⟩;refine reZ 3 ?_;refine reV 4 (fun _=>h.below (zB _ _)) (fun _=>?_);refine reP 5 info_node Tryz.underlying36 ho (by omega) h.r.lt (fun v' w10 ho _ _ hb=>⟨h.low hb,fun h=>?_⟩);obtain⟨A1,c1,rfl,_⟩:=own_rd ho;have c:=h.b.cells 4;have f:=h.b.froz;refine reZ 6 ?_;refine reW 7 (fun h=>absurd rfl h) (fun _=>?_);refine reE ?_;go_wp2
     go_meet
     case rel=>exact⟨_,h.body ⟨A1,6,c1⟩⟩
    ·go_meet
     case rel=>exact⟨_,h'⟩
   case rest=>
    clear h' ho;obtain⟨z,h⟩:=hcut;go_wp2_with fail;refine (wfrac_any 1 1 wc (by omega) (by omega) (by omega) (by omega)).mono ?_;rintro e w1 ⟨⟨an,au,ad⟩,rfl,s1,hb⟩;have h':=h.below hb;clear hb h;go_wp2_with fail;refine (wfrac_any 1 2 w1 (by omega) (by omega) (by omega) (by omega)).mono ?_;rintro e w2 ⟨⟨bn,bu,bd⟩,rfl,s2,hb⟩;have h:=h'.below hb;clear hb h';go_wp2_with fail;refine (wfrac_any 5 1 w2 (by omega) (by omega) (by omega) (by omega)).mono ?_;rintro e w3 ⟨⟨cn,cu,cd⟩,rfl,s3,hb⟩;have h':=h.below hb;clear hb h;unfold Ra.v;go_wp2_with fail;refine (h'.next 3 (by omega) (by omega)).mono ?_;rintro e w4 ⟨r,hr,rfl,h,_⟩;clear h'
    obtain⟨q,hsz,hq⟩:∃q:Ra,SzR 18 q∧∀W,Sem.run Tryz.prog (Instr.index 154 (.agg #[.bool an,.string au,.string ad,.bool bn,.string bu,.string bd,.bool cn,.string cu,.string cd]) (.int .i64 (r:Int))) W=Result.ok (.agg #[.bool q.neg,.string q.num,.string q.den]) W:=by
     rcases (by omega:r=0∨r=1∨r=2) with rfl|rfl|rfl
     ·exact⟨⟨an,au,ad⟩,s1,fun _=>by kernel_rfl⟩
     ·exact⟨⟨bn,bu,bd⟩,s2,fun _=>by kernel_rfl⟩
     ·exact⟨⟨cn,cu,cd⟩,s3,fun _=>by kernel_rfl⟩
    have cB:=h.b.cells;have fB:=h.b.froz;unfold pvCells at cB;clear hr s1 s2 s3
    go_upto_region 12 with fail
    obtain⟨y,hy⟩:=zE (({x.1 with step:=q},z):Pv × Hd);have h':CW w D u B y [] _:=hy ▸ h.step q;have n1:y.1.name=x.1.name:=by rw[hy]
    have n2:y.1.ty=x.1.ty:=by rw[hy]
    replace hsz:SzR 18 y.1.step:=by rw[hy];exact hsz
    clear hy;generalize World.setCell _ ⟨B,8,none⟩ _=Y at h'⊢;clear h cB fB hq;have hc:=fun X (h:CW w D u B y [] X)=>show X.cell? ⟨B,6,none⟩=some (.bool y.1.step.neg)∧X.cell? ⟨B,7,none⟩=some (.string y.1.step.num)∧X.cell? ⟨B,8,none⟩=some (.string y.1.step.den) from⟨h.b.cells 6,h.b.cells 7,h.b.cells 8⟩
    refine reS (CW w D u B y []) 8 (h'.below (drewN_below _ _ 1)) (fun w5 _ h=>?_)
    iterate 3 refine reA ?_
    refine reC 3 (h.next 30 (by omega) (by omega)) ?_;rintro e w6 ⟨r,hr,rfl,h,_⟩;refine⟨_,rfl,h,fun h=>?_⟩;have hw:IntKind.i64.wrap (1+(r:Int))=1+(r:Int):=IntWalk.i64_in _ (by omega);refine reZ 4 ?_;refine reC 5 (sOf_any (1+(r:Int)) w6 (by omega) (by omega)) ?_;rintro e w7 ⟨rfl,hb⟩;refine⟨_,rfl,h.below hb,fun h=>?_⟩;have hs2:SzR 18 (ofI (1+(r:Int))):=by have:=ofI_sz (1+(r:Int)) (by omega) (by omega);exact⟨Nat.le_trans this.1 (by omega),Nat.le_trans this.2 (by omega)⟩
    clear hw hb;refine reC 6 (wMul_any y.1.step (ofI (1+(r:Int))) 18 w7 hsz hs2 (by omega) (by omega)) ?_;rintro e w8 ⟨p,rfl,_,hb⟩;refine⟨.agg #[.bool p.neg,.string p.num,.string p.den],rfl,h.below hb,fun h=>?_⟩;have cB:=h.b.cells;have fB:=h.b.froz;unfold pvCells at cB;clear hb hs2 hr hc;refine reZ 7 ?_;refine reW 8 (fun h=>absurd rfl h) (fun _=>?_);refine reE ?_;obtain⟨y',hy⟩:=zE (({y.1 with cap:=p},y.2):Pv × Hd);have h':CW w D u B y' [] _:=hy ▸ h.cap p;replace n1:y'.1.name=x.1.name:=by rw[hy];exact n1
    replace n2:y'.1.ty=x.1.ty:=by rw[hy];exact n2
    clear hy;generalize World.setCell _ ⟨B,11,none⟩ _=Y at h'⊢;clear h cB fB;have N1:=zH n1;have N2:=zH n2;clear n1 n2;have cB:=h'.b.cells;have cR:=h'.r.cells;have fR:=h'.r.froz;unfold pvCells at cB cR;unfold zPv at cR;have on:Onl (B+1) Y ((((((((((((Y.setCell ⟨B+1,0,none⟩ (.string y'.1.name)).setCell ⟨B+1,1,none⟩ (.bool y'.1.ty.truth)).setCell ⟨B+1,2,none⟩ (.int .i64 y'.1.ty.money)).setCell ⟨B+1,3,none⟩ (.int .i64 y'.1.ty.days)).setCell ⟨B+1,4,none⟩ (.slice y'.2.a y'.2.n y'.2.c)).setCell ⟨B+1,5,none⟩ (.bool y'.1.charge)).setCell ⟨B+1,6,none⟩ (.bool y'.1.step.neg)).setCell ⟨B+1,7,none⟩ (.string y'.1.step.num)).setCell ⟨B+1,8,none⟩ (.string y'.1.step.den)).setCell ⟨B+1,9,none⟩ (.bool y'.1.cap.neg)).setCell ⟨B+1,10,none⟩ (.string y'.1.cap.num)).setCell ⟨B+1,11,none⟩ (.string y'.1.cap.den)):=((((((((((((Onl.refl _ _).set 0 _).set 1 _).set 2 _).set 3 _).set 4 _).set 5 _).set 6 _).set 7 _).set 8 _).set 9 _).set 10 _).set 11 _;have hl:=h'.d.low (on.below (Nat.le_succ_of_le h'.hB) (Nat.le_trans h'.hB (Nat.le_of_lt h'.b.lt)));clear on;go_wp2;exact bodyPost_ret (v:=.agg (pvCells y').toArray) (by simp[results,Tryz.results39,go_sem,pvCells,cR]) rfl ⟨y',rfl,N1.out,N2.out,hl.ds,hl.on⟩
theorem jDecl:(Tryz.prog.info? 52).map (fun i=>(i.zero,i.size,i.bytes))=some (some (.agg #[.string ⟨#[]⟩,.bool false,.int .i64 0,.int .i64 0]),4,40):=by kernel_rfl
theorem jSched:(Tryz.prog.info? 79).map (fun i=>(i.zero,i.size,i.bytes))=some (some (.agg #[.string ⟨#[]⟩,.int .i64 0,.int .i64 0,.slice none 0 0]),4,56):=by kernel_rfl
theorem jProv:(Tryz.prog.info? 41).map (fun i=>(i.zero,i.size,i.bytes))=some (some (.agg #[.string ⟨#[]⟩,.bool false,.int .i64 0,.int .i64 0,.slice none 0 0,.bool false,.bool false,.string ⟨#[]⟩,.string ⟨#[]⟩,.bool false,.string ⟨#[]⟩,.string ⟨#[]⟩]),12,152):=by kernel_rfl
def MRet (w:World) (e:Ending) (w':World):Prop:=∃(ps:List (Pv × Hd)) (f s p:Hd),e=.returned (lawV f s p)∧RowAt w' pvCells ps p∧(ps.map fun x=>x.1.name).Sublist six∧Below w.heap.size w w'∧(∀ad,p.a=some ad→w.heap.size≤ad.block)∧ps≠[]
theorem wMade11_any (xs:List (List Int × Hd)) (hh:Hd) (w:World) (hr:RowAt w rowV xs hh) (hq:∀r∈xs,IR w w.heap.size r):
  Calls Tryz.prog 15 #[.slice hh.a hh.n hh.c] w (MRet w):=by
 go_enter Tryz.func15,Tryz.ntmps15
 go_upto_region 1 with fail
 generalize hW:w.alloc _=W;obtain⟨h0,hb⟩:=zA hW;clear hW;go_wp2_with fail;refine (wlist_any xs hh 0 w.heap.size W (hr.below hb) (fun r hm=>(hq r hm).below hb)).mono ?_;rintro e w1 ⟨r,rfl,hir,rfl⟩
 go_upto_region 2 with fail
 generalize hX:W.alloc _=W1;obtain⟨hd0,hg⟩:=zA hX;have hds:DS W1 W.heap.size (W.heap.size+1):=⟨_,_,_,_,0,⟨hd0,hir.len,Nat.le_trans hir.cap hir.max,hir.rd.below hg,hir.rng,fun hn ad e=>by have:=hir.lt hn ad e;have:=hb.size;omega,Nat.zero_le _⟩,Nat.lt_succ_self _,fun hn ad e=>by have:=hir.lt hn ad e;have:=hb.size;omega⟩
 have h0D:=h0.lt;replace h0:=h0.below hg h0.lt;have hb1:=bstep hb hg;have hDM:=hd0.lt;clear hX hg hd0 hir;generalize W.heap.size=D at hds h0D hDM⊢;clear hb;go_wp2_with fail;refine (wNum_any 1 0 W1).mono ?_;rintro e w2 ⟨rfl,hb2⟩
 go_upto_region 3 with fail
 generalize hX:w2.alloc _=W2;obtain⟨hm,hg⟩:=zA hX;have hb3:=bstep hb2 hg;replace hds:=hds.below hb3;replace h0:=h0.below hb3 h0.lt;replace hb1:=bstep hb1 hb3;replace hDM:D<w2.heap.size:=Nat.lt_of_lt_of_le hDM hb2.size;clear hX hg hb2 hb3;generalize w2.heap.size=M at hm hDM⊢;go_wp2_with fail;refine (wNum_any 0 0 W2).mono ?_;rintro e w3 ⟨rfl,hb2⟩;replace hds:=hds.below hb2;replace h0:=h0.below hb2 h0.lt;replace hm:=hm.below hb2 hm.lt;replace hb1:=bstep hb1 hb2;clear hb2
 go_upto_region 4 with fail
 generalize hX:(w3.alloc _).alloc _=X;have h:=MZ.first hds h0 hm hb1 h0D hDM ⟨⟨#[97,103,101]⟩,⟨false,0,0⟩⟩ hX
 clear hX hds h0 hm hb1 h0D hDM;generalize w3.heap.size+1=L at h⊢;generalize w3.heap.size+2=U at h;generalize (Value.slice (some ⟨w3.heap.size,0,none⟩) 1 1)=fv at h;go_wp2_with fail;refine (h.next 4 (by omega) (by omega)).mono ?_;rintro e w1 ⟨r1,hr1,rfl,h',_⟩;clear h hr1
 go_upto_if 28 with fail
 go_cut [] from 28 to 35 (fun X=>∃U fs fv,fs.length≤2∧MZ w X D M L 0 U fs [] [] fv (.slice none 0 0) (.slice none 0 0))
 case first=>
  have hc:=h'.cells;go_wp2_with (at_builtin;go_must (refine zPg jDecl Tryz.underlying24 h'.f (by simp) h'.hB ?_))
  ·intro v' w2 ho hg;obtain⟨A1,c1,rfl,_⟩:=own_rd ho;have kL:=(TF.grown h'.f hg).blk h'.b (by decide);have cL:=kL.cells;have fL:=kL.froz;go_wp2
   go_meet
   case rel=>exact⟨_,_,_,by simp,h'.pushF ⟨⟨#[114,101,110,116]⟩,⟨false,1,0⟩⟩ ho hg⟩
  ·go_meet
   case rel=>exact⟨_,_,_,by simp,h'⟩
 case rest=>
  clear h';obtain⟨U,fs,fv,hf,h⟩:=hcut;have hc:=h.cells;go_wp2_with (at_builtin;go_must (refine zPg jDecl Tryz.underlying24 h.f (by omega) h.hB ?_));intro v' w2 ho hg;obtain⟨A1,c1,rfl,_⟩:=own_rd ho;have kL:=(TF.grown h.f hg).blk h.b (by decide);have cL:=kL.cells;have fL:=kL.froz
  go_upto_region 7 with fail
  have h':=h.pushF ⟨⟨#[119,97,103,101]⟩,⟨false,1,0⟩⟩ ho hg;have hf3:(fs++[(⟨⟨#[119,97,103,101]⟩,⟨false,1,0⟩⟩:Dc)]).length≤3:=by rw[List.length_append];simp;omega
  generalize World.setCell w2 _ _=Y at h'⊢;generalize fs++[(⟨⟨#[119,97,103,101]⟩,⟨false,1,0⟩⟩:Dc)]=fs at h' hf3;clear h hc kL cL fL ho hg hf;generalize (Value.slice A1 _ c1)=fv at h';generalize w2.heap.size=U at h';have hc:=fun X (h:MZ w X D M L 0 U fs [] [] fv (.slice none 0 0) (.slice none 0 0))=>h.cells
  refine reS (fun X=>MZ w X D M L 0 U fs [] [] fv (.slice none 0 0) (.slice none 0 0)) 7 (h'.below (drewN_below _ _ 1)) (fun w1 _ h=>?_)
  iterate 3 refine reA ?_
  refine reC 3 (wbrackets_any D (D+1) true w1 h.ds h.hDu) ?_;rintro e w2 ⟨b1,rfl,hd1,ho1⟩;refine⟨_,rfl,h.onl hd1 ho1,fun h=>?_⟩;refine reZ 4 ?_;refine reV 5 (fun _=>h.below (zB _ _)) (fun _=>?_);refine reZ 6 ?_;generalize hX:w2.alloc _=X;have hx:=(h.below (zA hX).2).b;have cL:=hx.cells;have fL:=hx.froz;refine reW 7 (fun h=>absurd rfl h) (fun _=>?_);refine reE ?_;have k:=h.setSX (⟨⟨#[98,97,115,105,99]⟩,1,0,[]⟩,b1) hX;generalize World.setCell X _ _=Y at k⊢;generalize w2.heap.size+1=U2 at k;generalize (Value.slice (some ⟨w2.heap.size,0,none⟩) 1 1)=sv at k;clear hc h' h hX hx cL fL hd1 ho1;go_wp2_with fail;refine (k.next 2 (by omega) (by omega)).mono ?_;rintro e w3 ⟨r2,hr2,rfl,h,_⟩;clear k hr2
  go_upto_if 52 with fail
  go_cut [] from 52 to 62 (fun X=>∃U ss sv,ss.length≤2∧MZ w X D M L 0 U fs ss [] fv sv (.slice none 0 0))
  case first=>
   go_wp2
   ·have hc:=fun X (h:SZ L M fv sv (.slice none 0 0) X)=>h.cells
    refine reS (SZ L M fv sv (.slice none 0 0)) 10 (h.below (drewN_below _ _ 1)).sz (fun w1 h1 hS=>?_);replace h:=h.below h1
    iterate 5 refine reA ?_
    refine reC 5 (wbrackets_any D (D+1) false w1 h.ds h.hDu) ?_;rintro e w2 ⟨b2,rfl,hd1,ho1⟩;replace h:=h.onl hd1 ho1;refine⟨_,rfl,h.sz,fun hS=>?_⟩;refine reZ 6 ?_;refine reV 7 (fun _=>(h.below (zB _ _)).sz) (fun _=>?_);refine reP 8 jSched Tryz.underlying25 h.s (by simp) h.hB (fun v' w4 ho hg _ _=>⟨h.sz.tf (TF.grown h.s hg) (by decide) (by decide),fun hS=>?_⟩);obtain⟨A1,c1,rfl,_⟩:=own_rd ho;have cL:=hS.1.cells;have fL:=hS.1.froz;refine reZ 9 ?_;refine reW 10 (fun h=>absurd rfl h) (fun _=>?_);refine reE ?_;go_wp2
    go_meet
    case rel=>exact⟨_,_,_,by simp,h.pushS (⟨⟨#[101,120,116,114,97]⟩,1,0,[]⟩,b2) ho hg⟩
   ·go_meet
    case rel=>exact⟨_,_,_,by simp,h⟩
  case rest=>
   clear h;obtain⟨U,ss,sv,hs2,h⟩:=hcut
   go_upto_region 11 with fail
   generalize hX:wc.alloc _=X;have h':=h.names hX;have hN0:wc.heap.size≠0:=by have:=h.hL;have:=h.hU;have:=h.hW;omega
   generalize wc.heap.size=N at h' hN0⊢;clear h hX;go_wp2
   go_loopg [7] 6 (fun g iv wr=>∃(i:Nat) (ps:List (Pv × Hd)) (pv:Value) (U:Nat),i+g=6∧iv=.int .i64 i∧MZ w wr D M L N U fs ss ps fv sv pv∧Pk i ps)
   case atStart=>exact⟨0,[],_,_,by omega,rfl,h',Pk.zero⟩
   case round=>
    clear h';obtain⟨i,ps,pv,U,hi,rfl,h,hp⟩:=hrel;by_cases hlt:i<6
    ·have hl6:i<six.length:=hlt;have hc:=fun X (h:MZ w X D M L N U fs ss ps fv sv pv)=>And.intro (h.nm hN0 hl6) h.cells
     obtain⟨s,hs⟩:=zE (six[i]'hl6);rw[←hs] at hc;have HS:=zH hs;clear hs;have i0:(0:Int)≤(i:Int):=by omega
     have i1:(i:Int)<6:=by omega
     go_upto_region 14 with fail
     refine reS (fun X=>MZ w X D M L N U fs ss ps fv sv pv) 6 (h.below (drewN_below _ _ 1)) (fun w1 _ h=>?_)
     iterate 5 refine reA ?_
     refine reV 5 (fun _=>h.below (zB _ _)) (fun _=>?_);refine reW 6 (fun h=>absurd rfl h) (fun _=>?_);refine reE ?_;clear hc;generalize hX:w1.alloc _=X;obtain⟨hP0,hb⟩:=zA hX;have k:=h.up.low hb;clear hX h hb;generalize w1.heap.size=P at hP0 k⊢;obtain⟨x,hx1,hx2,hP⟩:∃x:Pv × Hd,x.1.name=s∧Hid (x.1.ty.truth=true∨(x.1.ty.money=1∧x.1.ty.days=0))∧Blk X P 41 (pvCells x):=⟨(⟨s,⟨false,1,0⟩,false,⟨false,⟨#[]⟩,⟨#[]⟩⟩,⟨false,⟨#[]⟩,⟨#[]⟩⟩,[]⟩,⟨none,0,0⟩),rfl,.inr ⟨rfl,rfl⟩,hP0⟩
     clear hP0;have HX:=zH hx1;clear hx1
     go_upto_region 15 with fail
     go_cut [81] from 73 to 80 (fun bv Y=>(∃b,bv=.bool b)∧MZ w Y D M L N P fs ss ps fv sv pv∧Blk Y P 41 (pvCells x))
     case first=>
      have hn:=k.nm hN0 hl6;rw[←HS.out] at hn;by_cases he:s=⟨#[116,104,114,101,115,104,111,108,100]⟩
      ·subst he;go_wp2_with fail;refine (k.next 2 (by omega) (by omega)).mono ?_;rintro e w2 ⟨r3,_,rfl,k',ho⟩;have hP':=ho.blk hP (by have:=k.hM;have:=k.hL;have:=k.hU;omega);clear k hP;go_wp2
       all_goals
        go_meet
        case rel=>exact⟨⟨_,rfl⟩,k',hP'⟩
      ·have he1:=(st_ne he).1;have he2:=(st_ne he).2;go_wp2
       go_meet
       case rel=>exact⟨⟨_,rfl⟩,k,hP⟩
     case rest=>
      clear k hP;obtain⟨⟨b,rfl⟩,k,hP⟩:=hcut
      go_upto_if 81 with fail
      go_cut [] from 82 to 83 (fun Y=>∃x:Pv × Hd,Hid (x.1.name=s)∧Hid (x.1.ty.truth=true∨(x.1.ty.money=1∧x.1.ty.days=0))∧MZ w Y D M L N P fs ss ps fv sv pv∧Blk Y P 41 (pvCells x))
      case first=>
       cases b
       ·go_wp2
        go_meet
        case rel=>exact⟨x,HX,hx2,k,hP⟩
       ·go_wp2_with fail;refine (wTruth_any wc).mono ?_;rintro e w2 ⟨rfl,hb⟩;have hP':=hP.below hb hP.lt;have k':=k.below hb;have cP:=hP'.cells;have fP:=hP'.froz;unfold pvCells at cP;clear k hP hb;go_wp2
        go_meet
        case rel=>exact⟨({x.1 with ty:=⟨true,0,0⟩},x.2),HX,.inl rfl,k'.at ((((Onl.refl _ _).set 1 _).set 2 _).set 3 _),((hP'.set 1 _).set 2 _).set 3 _⟩
      case rest=>
       clear HX hx2 k hP x;obtain⟨x,HX,hx2,k,hP⟩:=hcut;have hn:=k.nm hN0 hl6;rw[←HS.out] at hn
       go_upto_region 17 with fail
       go_cut [93] from 84 to 92 (fun bv Y=>(∃b,bv=.bool b)∧Y=wc)
       case first=>
        by_cases he:s=⟨#[116,97,120]⟩
        ·subst he;go_wp2
         go_meet
         case rel=>exact⟨⟨_,rfl⟩,rfl⟩
        ·have he1:=(st_ne he).1;have he2:=(st_ne he).2;by_cases hf:s=⟨#[116,111,116,97,108]⟩
         ·subst hf;go_wp2
          go_meet
          case rel=>exact⟨⟨_,rfl⟩,rfl⟩
         ·have hf1:=(st_ne hf).1;have hf2:=(st_ne hf).2;go_wp2
          go_meet
          case rel=>exact⟨⟨_,rfl⟩,rfl⟩
       case rest=>
        obtain⟨⟨b2,rfl⟩,rfl⟩:=hcut;clear hn
        go_upto_if 93 with fail
        go_cut [] from 94 to 97 (fun Y=>∃x:Pv × Hd,Hid (x.1.name=s)∧Hid (x.1.ty.truth=true∨(x.1.ty.money=1∧x.1.ty.days=0))∧MZ w Y D M L N P fs ss ps fv sv pv∧Blk Y P 41 (pvCells x))
        case first=>
         cases b2
         ·go_wp2
          go_meet
          case rel=>exact⟨x,HX,hx2,k,hP⟩
         ·go_wp2_with fail;refine (k.next 3 (by omega) (by omega)).mono ?_;rintro e w2 ⟨r3,_,rfl,k',ho⟩;have hP':=ho.blk hP (by have:=k.hM;have:=k.hL;have:=k.hU;omega);have cP:=hP'.cells;have fP:=hP'.froz;unfold pvCells at cP;clear k hP ho;go_wp2
          go_meet
          case rel=>exact⟨({x.1 with charge:=decide (0<r3)},x.2),HX,hx2,k'.at ((Onl.refl _ _).set 5 _),hP'.set 5 _⟩
        case rest=>
         clear HX hx2 k hP x;obtain⟨x,HX,hx2,k,hP⟩:=hcut
         go_upto_region 19 with fail
         go_cut [104] from 98 to 103 (fun bv Y=>(∃b,bv=.bool b∧Hid (i=3→b=true))∧MZ w Y D M L N P fs ss ps fv sv pv∧Blk Y P 41 (pvCells x))
         case first=>
          by_cases h3:i=3
          ·subst h3;go_wp2
           go_meet
           case rel=>exact⟨⟨true,rfl,fun _=>rfl⟩,k,hP⟩
          ·have h3b:((i:Int)==3)=false:=beq_eq_false_iff_ne.2 (by omega);have h3c:¬(i:Int)=3:=by omega
           go_wp2_with fail;refine (k.next 5 (by omega) (by omega)).mono ?_;rintro e w2 ⟨r3,_,rfl,k',ho⟩;have hP':=ho.blk hP (by have:=k.hM;have:=k.hL;have:=k.hU;omega);clear k hP ho;go_wp2
           go_meet
           case rel=>exact⟨⟨_,rfl,fun h=>absurd h h3⟩,k',hP'⟩
         case rest=>
          clear k hP;obtain⟨⟨b3,rfl,h3⟩,k,hP⟩:=hcut;have cP:=hP.cells;unfold pvCells at cP;have hc:=k.cells;cases b3
          ·go_wp2
           go_roundg (6-(i+1))
           case measure=>omega
           case rel=>exact⟨i+1,_,_,_,by omega,by go_num,k,hp.skip hl6 (fun e=>by have:=h3.out e;cases this)⟩
          ·go_wp2_with (at_builtin;go_must (refine zPg jProv Tryz.underlying26 k.p (by have:=hp.len;omega) k.hB ?_));intro v' w2 ho hg;obtain⟨A1,c1,rfl,_⟩:=own_rd ho;have kL:=(TF.grown k.p hg).blk k.b (by decide);have cL:=kL.cells;have fL:=kL.froz;go_wp2
           go_roundg (6-(i+1))
           case measure=>omega
           case rel=>exact⟨i+1,_,_,_,by omega,by go_num,k.pushP x ho hg,hp.push hl6 x (HX.out.trans HS.out) hx2.out⟩
    ·obtain rfl:i=6:=by omega
     go_wp2_with fail;refine (h.next 8 (by omega) (by omega)).mono ?_;rintro e w1 ⟨kd,hkd,rfl,k,_⟩;clear h;obtain⟨f9,s9,p9,rfl,rfl,rfl,rf,rs,rp⟩:=k.rows;have hc:=k.cells;go_wp2_with fail;refine (wSigs_any fs ss ps f9 s9 p9 w1 rf rs rp (by omega) (by omega) (by have:=hp.len;omega)).mono ?_;rintro e w2 ⟨av,sg,rfl,hsl,hso,hb⟩;have h:=k.below hb;have hso:w2.ownsRow (M+1) 75 5 av sg.length (sgs sg):=own_lower hso k.hB;clear k hc hb rf rs rp;obtain⟨g,pc,hpv⟩:=h.pnn (hp.ne (by omega));rw[hpv] at h⊢;clear hpv p9;obtain⟨Aa,ca,rfl,_⟩:=own_rd hso;obtain⟨n0,hn0⟩:=zE ps.length;rw[←hn0] at h⊢;have hnp:n0≤6:=by have:=hp.len;omega
     go_wp2
     go_loopg [11] n0 (fun q iv wr=>∃(j:Nat) (ps:List (Pv × Hd)),j+q=n0∧iv=.int .i64 j∧MZ w wr D M L N U fs ss ps (.slice f9.a f9.n f9.c) (.slice s9.a s9.n s9.c) (.slice (some ⟨g,0,none⟩) n0 pc)∧Pk 6 ps∧ps.length=n0∧wr.ownsRow (M+1) 75 5 (.slice Aa sg.length ca) sg.length (sgs sg))
     case atStart=>exact⟨0,ps,by omega,rfl,h,hp,hn0.symm,hso⟩
     case round=>
      clear h hp hso hn0;obtain⟨j,ps,hj,rfl,h,hp,hpl,hso⟩:=hrel;by_cases hlt:j<n0
      ·have hjp:j<ps.length:=by omega
       have hc:=fun X (h:MZ w X D M L N U fs ss ps (.slice f9.a f9.n f9.c) (.slice s9.a s9.n s9.c) (.slice (some ⟨g,0,none⟩) n0 pc))=>And.intro (h.pc hjp) h.cells
       have HT:=zH (hp.ty _ (List.getElem_mem hjp));obtain⟨x,hx⟩:=zE ps[j];rw[←hx] at hc HT;have HX:=zH hx;clear hx;have j0:(0:Int)≤(j:Int):=by omega
       have j1:(j:Int)<(n0:Int):=by omega
       have hw:IntKind.i64.wrap ((j:Int)+1)=(j:Int)+1:=IntWalk.i64_in _ (by omega);have hl0:=hc _ h
       go_upto_region 26 with fail
       clear hl0;refine reS (fun X=>MZ w X D M L N U fs ss ps (.slice f9.a f9.n f9.c) (.slice s9.a s9.n s9.c) (.slice (some ⟨g,0,none⟩) n0 pc)) 26 (h.below (drewN_below _ _ 1)) (fun w3 h3 h=>?_);replace hso:=own_below hso h3
       iterate 12 refine reA ?_
       refine reZ 13 ?_;refine reZ 14 ?_;refine reZ 15 ?_;refine reZ 16 ?_;refine reZ 17 ?_;refine reZ 18 ?_;refine reZ 19 ?_;refine reZ 20 ?_;refine reZ 21 ?_;refine reC 12 (wbefore_any sg Aa sg.length ca _ _ w3 rfl hsl (own_hd hso).2.2.2) ?_;rintro e w4 ⟨v2,sg2,rfl,hl2,ho2,hb2⟩;replace hso:=own_below hso hb2;obtain⟨A2,c2,rfl,_⟩:=own_rd ho2;refine⟨_,rfl,h.below hb2,fun h=>?_⟩;clear hb2 h3;refine reC 22 (wlist_any xs hh (j+1) w.heap.size w4 (hr.below h.on) (fun r hm=>(hq r hm).below h.on)) ?_;rintro e w5 ⟨r2,rfl,hir,rfl⟩;refine⟨_,rfl,h,fun h=>?_⟩;clear hw;refine reC 23 (wMade8_any sg2 A2 sg2.length c2 r2 _ _ _ w4 rfl hl2 (own_hd ho2).2.2.2 (fun ad e=>by subst e;exact (ho2.lt _ rfl).2) ⟨hir.len,hir.cap,hir.max,hir.rd,hir.rng,fun hn ad e=>Nat.lt_of_lt_of_le (hir.lt hn ad e) h.on.size⟩ (HT.out.imp id Or.inl)) ?_;rintro e w6 ⟨v5,ns,rfl,hl5,ho5,hb5⟩;replace hso:=own_below hso hb5;obtain⟨A5,c5,rfl,_⟩:=own_rd ho5;refine⟨_,rfl,h.below hb5,fun h=>?_⟩;refine reZ 24 ?_;refine reZ 25 ?_;have cg:=(h.pc hjp).2.2.2.2.1;have fg:=h.pf;refine reW 26 (fun h=>absurd rfl h) (fun _=>?_);refine reE ?_;have k:=h.putN hpl.symm j hjp (x.1,⟨A5,ns.length,c5⟩) 4 [.slice A5 ns.length c5] (by simp) (by rw[←HX.out];rfl);replace hso:=own_put hso h ((Onl.refl _ _).set (j*12+4) (.slice A5 ns.length c5));have hp':=hp.set j hjp (x.1,⟨A5,ns.length,c5⟩) (by rw[←HX.out]) (by rw[←HX.out]);clear h cg fg hc ho5 hb5 ho2;go_wp2
       go_roundg (n0-(j+1))
       case measure=>omega
       case rel=>exact⟨j+1,_,by omega,by go_num,k,hp',by rw[List.length_set];exact hpl,hso⟩
      ·obtain rfl:n0=j:=by omega
       have hn1:1≤n0:=by have:=hp.ne (by omega);cases ps with|nil=>exact absurd rfl this|cons a b=>simp at hpl;omega
       have hc:=h.cells;go_wp2_with fail;refine (wFind11_any ps f9 s9 ⟨some ⟨g,0,none⟩,n0,pc⟩ _ wr h.pr).mono ?_;rintro e w1 ⟨i1,o1,rfl,hi1,hb⟩;have k:=h.below hb;clear h hc hb hso;have hc:=k.cells;have HI1:Hid (o1=true→i1<n0):=fun e=>by rw[←hpl];exact hi1 e
       go_wp2_with fail;refine (wFind11_any ps f9 s9 ⟨some ⟨g,0,none⟩,n0,pc⟩ _ w1 k.pr).mono ?_;rintro e w2 ⟨i2,o2,rfl,hi2,hb⟩;have h:=k.below hb;have HI2:Hid (o2=true→i2<n0):=fun e=>by rw[←hpl];exact hi2 e
       clear k hc hb hi1 hi2
       go_upto_region 29 with fail
       go_cut [169] from 158 to 168 (fun bv Y=>(∃b,bv=.bool b∧Hid (b=true→o1=true∧o2=true))∧MZ w Y D M L N U fs ss ps (.slice f9.a f9.n f9.c) (.slice s9.a s9.n s9.c) (.slice (some ⟨g,0,none⟩) n0 pc))
       case first=>
        by_cases ha:1≤kd
        ·by_cases hb:kd≤3
         all_goals
          cases o1<;>cases o2
          all_goals
           go_wp2
           go_meet
           case rel=>exact⟨⟨_,rfl,by intro h;first|(cases h;done)|exact⟨rfl,rfl⟩|exact⟨trivial,trivial⟩⟩,h⟩
        ·go_wp2
         go_meet
         case rel=>exact⟨⟨_,rfl,fun h=>by cases h⟩,h⟩
       case rest=>
        clear h;obtain⟨⟨b,rfl,hbo⟩,h⟩:=hcut
        go_upto_if 169 with fail
        go_cut [] from 170 to 191 (fun Y=>∃ps,MZ w Y D M L N U fs ss ps (.slice f9.a f9.n f9.c) (.slice s9.a s9.n s9.c) (.slice (some ⟨g,0,none⟩) n0 pc)∧Pk 6 ps∧ps.length=n0)
        case first=>
         cases b
         ·go_wp2
          go_meet
          case rel=>exact⟨ps,h,hp,hpl⟩
         ·obtain⟨rfl,rfl⟩:=hbo.out rfl
          go_upto_region 30 with fail
          have hjp:i1<ps.length:=by have:=HI1.out rfl;omega
          have hc:=fun X (h:MZ w X D M L N U fs ss ps (.slice f9.a f9.n f9.c) (.slice s9.a s9.n s9.c) (.slice (some ⟨g,0,none⟩) n0 pc))=>And.intro (h.pc hjp) h.cells
          have jq:(i1:Int)<(n0:Int):=by omega
          have jz:(0:Int)≤(i1:Int):=by omega
          obtain⟨x,hx⟩:=zE ps[i1];rw[←hx] at hc;have HX:=zH hx;clear hx;refine reS (fun X=>MZ w X D M L N U fs ss ps (.slice f9.a f9.n f9.c) (.slice s9.a s9.n s9.c) (.slice (some ⟨g,0,none⟩) n0 pc)) 11 (h.below (drewN_below _ _ 1)) (fun w3 _ h=>?_)
          iterate 9 refine reA ?_
          refine reC 9 (wcircle_any D (D+1) x _ w3 h.ds h.hDu) ?_;rintro e w4 ⟨y,rfl,hy1,hy2,hd1,ho1⟩;refine⟨.agg #[.string y.1.name,.bool y.1.ty.truth,.int .i64 y.1.ty.money,.int .i64 y.1.ty.days,.slice y.2.a y.2.n y.2.c,.bool y.1.charge,.bool y.1.step.neg,.string y.1.step.num,.string y.1.step.den,.bool y.1.cap.neg,.string y.1.cap.num,.string y.1.cap.den],rfl,h.onl hd1 ho1,fun h=>?_⟩;have HY1:=zH hy1;have HY2:=zH hy2;clear hy1 hy2 hd1 ho1 hc;refine reZ 10 ?_;have cg:=h.pc hjp;have fg:=h.pf;refine reW 11 (fun h=>absurd rfl h) (fun _=>?_);refine reE ?_;have k:=h.putN hpl.symm i1 hjp y 0 (pvCells y) (by simp[pvCells]) rfl;have hp':=hp.set i1 hjp y (by rw[←HX.out];exact HY1.out) (by rw[←HX.out];exact HY2.out);have hpl':(ps.set i1 y).length=n0:=by rw[List.length_set];exact hpl
          clear h cg fg hp hpl;have h:=k;have hp:=hp';have hl2:i2<n0:=HI2.out rfl;obtain⟨ps,hps⟩:=zE (ps.set i1 y);rw[←hps] at h hp hpl';have hpl:=hpl'
          go_upto_region 31 with fail
          clear hps k hp' hpl' HX HY1 HY2 hjp;have hjp:i2<ps.length:=by omega
          have hc:=fun X (h:MZ w X D M L N U fs ss ps (.slice f9.a f9.n f9.c) (.slice s9.a s9.n s9.c) (.slice (some ⟨g,0,none⟩) n0 pc))=>And.intro (h.pc hjp) h.cells
          have jq:(i2:Int)<(n0:Int):=by omega
          have jz:(0:Int)≤(i2:Int):=by omega
          obtain⟨x,hx⟩:=zE ps[i2];rw[←hx] at hc;have HX:=zH hx;clear hx;refine reS (fun X=>MZ w X D M L N U fs ss ps (.slice f9.a f9.n f9.c) (.slice s9.a s9.n s9.c) (.slice (some ⟨g,0,none⟩) n0 pc)) 11 (h.below (drewN_below _ _ 1)) (fun w3 _ h=>?_)
          iterate 9 refine reA ?_
          refine reC 9 (wcircle_any D (D+1) x _ w3 h.ds h.hDu) ?_;rintro e w4 ⟨y,rfl,hy1,hy2,hd1,ho1⟩;refine⟨.agg #[.string y.1.name,.bool y.1.ty.truth,.int .i64 y.1.ty.money,.int .i64 y.1.ty.days,.slice y.2.a y.2.n y.2.c,.bool y.1.charge,.bool y.1.step.neg,.string y.1.step.num,.string y.1.step.den,.bool y.1.cap.neg,.string y.1.cap.num,.string y.1.cap.den],rfl,h.onl hd1 ho1,fun h=>?_⟩;have HY1:=zH hy1;have HY2:=zH hy2;clear hy1 hy2 hd1 ho1 hc;refine reZ 10 ?_;have cg:=h.pc hjp;have fg:=h.pf;refine reW 11 (fun h=>absurd rfl h) (fun _=>?_);refine reE ?_;have k:=h.putN hpl.symm i2 hjp y 0 (pvCells y) (by simp[pvCells]) rfl;have hp':=hp.set i2 hjp y (by rw[←HX.out];exact HY1.out) (by rw[←HX.out];exact HY2.out);have hpl':(ps.set i2 y).length=n0:=by rw[List.length_set];exact hpl
          clear h cg fg hp hpl;go_wp2
          go_meet
          case rel=>exact⟨_,k,hp',hpl'⟩
        case rest=>
         clear h hp hpl HI2 hbo;obtain⟨ps,h,hp,hpl⟩:=hcut
         go_upto_region 32 with fail
         go_cut [196] from 192 to 195 (fun bv Y=>(∃b,bv=.bool b∧Hid (b=true→o1=true))∧MZ w Y D M L N U fs ss ps (.slice f9.a f9.n f9.c) (.slice s9.a s9.n s9.c) (.slice (some ⟨g,0,none⟩) n0 pc))
         case first=>
          by_cases ha:kd=4
          ·subst ha;cases o1
           all_goals
            go_wp2
            go_meet
            case rel=>exact⟨⟨_,rfl,by intro h;first|(cases h;done)|rfl|trivial⟩,h⟩
          ·have ha1:((kd:Int)==4)=false:=beq_eq_false_iff_ne.2 (by omega);have ha2:¬(kd:Int)=4:=by omega
           go_wp2
           go_meet
           case rel=>exact⟨⟨_,rfl,fun h=>by cases h⟩,h⟩
         case rest=>
          clear h;obtain⟨⟨b,rfl,hbo⟩,h⟩:=hcut
          go_upto_if 196 with fail
          go_cut [] from 197 to 207 (fun Y=>∃ps,MZ w Y D M L N U fs ss ps (.slice f9.a f9.n f9.c) (.slice s9.a s9.n s9.c) (.slice (some ⟨g,0,none⟩) n0 pc)∧Pk 6 ps∧ps.length=n0)
          case first=>
           cases b
           ·go_wp2
            go_meet
            case rel=>exact⟨ps,h,hp,hpl⟩
           ·obtain rfl:=hbo.out rfl;have hi1:i1<ps.length:=by have:=HI1.out rfl;omega
            go_upto_region 33 with fail
            have hjp:i1<ps.length:=hi1;have hc:=fun X (h:MZ w X D M L N U fs ss ps (.slice f9.a f9.n f9.c) (.slice s9.a s9.n s9.c) (.slice (some ⟨g,0,none⟩) n0 pc))=>And.intro (h.pc hjp) h.cells
            have jq:(i1:Int)<(n0:Int):=by omega
            have jz:(0:Int)≤(i1:Int):=by omega
            obtain⟨x,hx⟩:=zE ps[i1];rw[←hx] at hc;have HX:=zH hx;clear hx;refine reS (fun X=>MZ w X D M L N U fs ss ps (.slice f9.a f9.n f9.c) (.slice s9.a s9.n s9.c) (.slice (some ⟨g,0,none⟩) n0 pc)) 11 (h.below (drewN_below _ _ 1)) (fun w3 _ h=>?_)
            iterate 9 refine reA ?_
            refine reC 9 (wcircle_any D (D+1) x _ w3 h.ds h.hDu) ?_;rintro e w4 ⟨y,rfl,hy1,hy2,hd1,ho1⟩;refine⟨.agg #[.string y.1.name,.bool y.1.ty.truth,.int .i64 y.1.ty.money,.int .i64 y.1.ty.days,.slice y.2.a y.2.n y.2.c,.bool y.1.charge,.bool y.1.step.neg,.string y.1.step.num,.string y.1.step.den,.bool y.1.cap.neg,.string y.1.cap.num,.string y.1.cap.den],rfl,h.onl hd1 ho1,fun h=>?_⟩;have HY1:=zH hy1;have HY2:=zH hy2;clear hy1 hy2 hd1 ho1 hc;refine reZ 10 ?_;have cg:=h.pc hjp;have fg:=h.pf;refine reW 11 (fun h=>absurd rfl h) (fun _=>?_);refine reE ?_;have k:=h.putN hpl.symm i1 hjp y 0 (pvCells y) (by simp[pvCells]) rfl;have hp':=hp.set i1 hjp y (by rw[←HX.out];exact HY1.out) (by rw[←HX.out];exact HY2.out);have hpl':(ps.set i1 y).length=n0:=by rw[List.length_set];exact hpl
            clear h cg fg hp hpl;go_wp2
            go_meet
            case rel=>exact⟨_,k,hp',hpl'⟩
          case rest=>
           clear h hp hpl HI1 hbo;obtain⟨ps,h,hp,hpl⟩:=hcut
           go_upto_if 209 with fail
           go_cut [] from 209 to 237 (fun Y=>∃ps,MZ w Y D M L N U fs ss ps (.slice f9.a f9.n f9.c) (.slice s9.a s9.n s9.c) (.slice (some ⟨g,0,none⟩) n0 pc)∧Pk 6 ps∧ps.length=n0)
           case first=>
            by_cases ha:kd=5
            ·subst ha;have hc:=h.cells;go_wp2_with fail;refine (h.next (n0:Int) (by omega) (by omega)).mono ?_;rintro e w1 ⟨q,hq1,rfl,k,_⟩;have hjp:q<ps.length:=by omega
             have q0:(0:Int)≤(q:Int):=by omega
             clear h hc;have hc:=And.intro (k.pc hjp) k.cells;go_wp2
             ·clear hc;have hc:=fun X (h:MZ w X D M L N U fs ss ps (.slice f9.a f9.n f9.c) (.slice s9.a s9.n s9.c) (.slice (some ⟨g,0,none⟩) n0 pc))=>h.cells
              refine reS (fun X=>MZ w X D M L N U fs ss ps (.slice f9.a f9.n f9.c) (.slice s9.a s9.n s9.c) (.slice (some ⟨g,0,none⟩) n0 pc)) 6 (k.below (drewN_below _ _ 1)) (fun w3 _ h=>?_)
              iterate 3 refine reA ?_
              refine reC 3 (wfr 1 2 w3 (by omega) (by omega) (by omega) (by omega)) ?_;rintro e w4 ⟨an,au,ad,rfl,hb⟩;refine⟨_,rfl,h.below hb,fun h=>?_⟩;clear hb hc k;refine reZ 4 ?_;refine reZ 5 ?_;have cg:=h.pc hjp;have fg:=h.pf;refine reW 6 (fun h=>absurd rfl h) (fun _=>?_);refine reE ?_;have k:=h.putN hpl.symm q hjp ({ps[q].1 with step:=⟨an,au,ad⟩},ps[q].2) 6 [.bool an,.string au,.string ad] (by simp) rfl;have hp':=hp.set q hjp ({ps[q].1 with step:=⟨an,au,ad⟩},ps[q].2) rfl rfl;have hpl':(ps.set q ({ps[q].1 with step:=⟨an,au,ad⟩},ps[q].2)).length=n0:=by rw[List.length_set];exact hpl
              generalize ps.set q ({ps[q].1 with step:=⟨an,au,ad⟩},ps[q].2)=ps2 at k hp' hpl';clear h cg fg hp hpl;have hjp2:q<ps2.length:=by omega
              go_upto_region 38 with fail
              have hc:=fun X (h:MZ w X D M L N U fs ss ps2 (.slice f9.a f9.n f9.c) (.slice s9.a s9.n s9.c) (.slice (some ⟨g,0,none⟩) n0 pc))=>h.cells
              refine reS (fun X=>MZ w X D M L N U fs ss ps2 (.slice f9.a f9.n f9.c) (.slice s9.a s9.n s9.c) (.slice (some ⟨g,0,none⟩) n0 pc)) 9 (k.below (drewN_below _ _ 1)) (fun w3 _ h=>?_)
              iterate 4 refine reA ?_
              refine reC 4 (h.next 100 (by omega) (by omega)) ?_;rintro e w5 ⟨r9,hr9,rfl,h,_⟩;refine⟨_,rfl,h,fun h=>?_⟩;have hw:IntKind.i64.wrap (1+(r9:Int))=1+(r9:Int):=IntWalk.i64_in _ (by omega);refine reZ 5 ?_;refine reC 6 (wOf (1+(r9:Int)) w5 (by omega) (by omega)) ?_;rintro e w6 ⟨bn,bu,bd,rfl,hb⟩;refine⟨_,rfl,h.below hb,fun h=>?_⟩;clear hw hr9 hb hc k;refine reZ 7 ?_;refine reZ 8 ?_;have cg:=h.pc hjp2;have fg:=h.pf;refine reW 9 (fun h=>absurd rfl h) (fun _=>?_);refine reE ?_;have k:=h.putN hpl'.symm q hjp2 ({ps2[q].1 with cap:=⟨bn,bu,bd⟩},ps2[q].2) 9 [.bool bn,.string bu,.string bd] (by simp) rfl;have hp:=hp'.set q hjp2 ({ps2[q].1 with cap:=⟨bn,bu,bd⟩},ps2[q].2) rfl rfl;clear h cg fg;go_wp2
              go_meet
              case rel=>exact⟨_,k,hp,by rw[List.length_set];exact hpl'⟩
             ·go_meet
              case rel=>exact⟨_,k,hp,hpl⟩
            ·have ha1:((kd:Int)==5)=false:=beq_eq_false_iff_ne.2 (by omega);have ha2:¬(kd:Int)=5:=by omega
             go_wp2
             go_meet
             case rel=>exact⟨ps,h,hp,hpl⟩
           case rest=>
            clear h hp hpl;obtain⟨ps,h,hp,hpl⟩:=hcut;have hc:=h.cells;have cr:=h.r.cells;have fr:=h.r.froz;have hg:=h.gB;have on:Onl w.heap.size wc (((wc.setCell ⟨w.heap.size,0,none⟩ (.slice f9.a f9.n f9.c)).setCell ⟨w.heap.size,1,none⟩ (.slice s9.a s9.n s9.c)).setCell ⟨w.heap.size,2,none⟩ (.slice (some ⟨g,0,none⟩) n0 pc)):=(((Onl.refl _ _).set 0 _).set 1 _).set 2 _;have hr2:=h.pr;have hfin:=And.intro (on.rd hr2.rd (Nat.ne_of_gt hg)) (h.on.trans (on.below (Nat.le_refl _) h.on.size));have HP:=zH (And.intro hp.nm (And.intro hr2.len (And.intro hr2.cap (And.intro hr2.max (And.intro hg (hp.ne (by omega)))))));clear on hr2 hg hp hpl;go_wp2;exact bodyPost_ret (v:=lawV f9 s9 ⟨some ⟨g,0,none⟩,n0,pc⟩) (by simp[results,Tryz.results15,go_sem,cr,lawV]) rfl ⟨ps,f9,s9,⟨some ⟨g,0,none⟩,n0,pc⟩,rfl,⟨HP.out.2.1,HP.out.2.2.1,HP.out.2.2.2.1,hfin.1⟩,HP.out.1,hfin.2,fun ad e=>(by cases e;exact Nat.le_of_lt HP.out.2.2.2.2.1),HP.out.2.2.2.2.2⟩
theorem jInts:(Tryz.prog.info? 89).map (fun i=>(i.zero,i.size,i.bytes))=some (some (.slice none 0 0),1,24):=by kernel_rfl
def CutRet (w:World) (e:Ending) (w':World):Prop:=∃(ys:List (List Int × Hd)) (h:Hd),e=.returned (.slice h.a h.n h.c)∧RowAt w' rowV ys h∧(∀r∈ys,IR w w.heap.size r)∧Below w.heap.size w w'
theorem IR.cut {w:World} {u m:Nat} {r:List Int × Hd} (h:IR w u r) (hm:m≤r.2.n):IR w u (r.1.take m,⟨r.2.a,m,r.2.c⟩):=by
 have h1:=h.len;have h2:=h.cap;refine⟨by show m=(r.1.take m).length;rw[List.length_take];omega,by show m≤r.2.c;omega,h.max,?_,fun x hx=>h.rng x (List.mem_of_mem_take hx),fun hn ad e=>h.lt (fun e0=>hn (by show r.1.take m=[];rw[e0,List.take_nil])) ad e⟩;have:=h.rd.take m;unfold zvs at this⊢;rw[List.map_take];exact this
theorem wcut_any (xs:List (List Int × Hd)) (hh:Hd) (w:World) (hr:RowAt w rowV xs hh) (hq:∀r∈xs,IR w w.heap.size r):
  Calls Tryz.prog 16 #[.slice hh.a hh.n hh.c] w (CutRet w):=by
 obtain⟨A,n,c⟩:=hh;have hm:n≤9223372036854775807:=by have:=hr.cap;have:=hr.max;unfold maxLen at this;simp only at*;omega
 go_enter Tryz.func16,Tryz.ntmps16;go_wp2
 go_loopg [3,4] 8 (fun g ov iv wr=>∃(j:Nat) (ys:List (List Int × Hd)),j+g=8∧iv=.int .i64 j∧wr.ownsRow w.heap.size 89 1 ov ys.length (ys.flatMap rowV)∧ys.length=j∧Hid (∀r∈ys,IR w w.heap.size r)∧Below w.heap.size w wr)
 case atStart=>exact⟨0,[],by omega,rfl,World.ownsRow_nil _ _ _ _,rfl,fun _ h=>(by cases h),Below.refl _ _⟩
 case round=>
  obtain⟨j,ys,hj,rfl,ho,hl,hy,hb⟩:=hrel;by_cases hlt:j<n
  ·by_cases h8:j<8
   ·obtain⟨b,off,rfl,_,hx,hc0⟩:=hr.at 1 (fun _=>rfl) (by omega) hlt;have HI:=zH (hq _ (List.getElem_mem hx));obtain⟨x,hxe⟩:=zE xs[j];rw[←hxe] at hc0 HI;clear hxe;have hc:=fun (X:World) (hX:Below w.heap.size w X)=>show X.cell? ⟨b,off+j,none⟩=some (Value.slice x.2.a x.2.n x.2.c) from by have:=hc0 X hX 0 _ rfl;simpa using this
    clear hc0;obtain⟨l,⟨a,k,cc⟩⟩:=x;simp only at hc;have hk:=HI.out.cap;have hk2:=HI.out.max;unfold maxLen at hk2;simp only at hk hk2;have j0:(0:Int)≤(j:Int):=by omega
    have j1:(j:Int)<(n:Int):=by omega
    obtain⟨m,hm0,hm1⟩:∃m:Nat,min (k:Int) 60=(m:Int)∧m≤k:=⟨min k 60,by omega,by omega⟩
    have hm2:(m:Int).toNat=m:=by omega
    have m0:(0:Int)≤(m:Int):=by omega
    have m1:(m:Int)≤(cc:Int):=by omega
    go_upto_region 5 with fail
    refine reS (Below w.heap.size w) 99 hb.drew (fun w1 h1 hS=>?_);replace ho:=own_below ho h1
    iterate 12 refine reA ?_
    refine reV 12 (fun _=>hS.alloc hS.size _) (fun _=>?_);refine reP 13 jInts Tryz.underlying22 ho (by omega) hS.size (fun v' w9 ho _ _ hb9=>⟨hS.trans hb9,fun hS=>?_⟩);refine reA ?_;refine reE ?_;go_wp2
    go_roundg (8-(j+1))
    case measure=>omega
    case rel=>exact⟨j+1,ys++[(l.take m,⟨a,m,cc⟩)],by omega,by go_num,by rw[List.flatMap_append,List.length_append];exact ho,by simp[hl],fun r hr=>by
     rcases List.mem_append.1 hr with hr|hr
     ·exact hy.out r hr
     ·rw[List.mem_singleton.1 hr];exact HI.out.cut hm1,hS⟩
   ·go_wp2;go_ret;obtain⟨A2,c2,rfl,h3,h4,h5,_⟩:=own_rd ho;exact⟨ys,⟨A2,ys.length,c2⟩,rfl,⟨rfl,h3,h4,h5⟩,hy.out,hb⟩
  ·go_wp2;go_ret;obtain⟨A2,c2,rfl,h3,h4,h5,_⟩:=own_rd ho;exact⟨ys,⟨A2,ys.length,c2⟩,rfl,⟨rfl,h3,h4,h5⟩,hy.out,hb⟩
theorem wmade11_any (xs:List (List Int × Hd)) (hh:Hd) (w:World) (hr:RowAt w rowV xs hh) (hq:∀r∈xs,IR w w.heap.size r):
  Calls Tryz.prog 5 #[.slice hh.a hh.n hh.c] w (MRet w):=by
 go_enter Tryz.func5,Tryz.ntmps5
 go_upto_region 1 with fail
 generalize hW:w.alloc _=W;obtain⟨hk,hb⟩:=zA hW;clear hW;go_wp2_with fail;refine (wcut_any xs hh W (hr.below hb) (fun r hm=>?_)).mono ?_
 ·have h:=(hq r hm).below hb;exact⟨h.len,h.cap,h.max,h.rd,h.rng,fun hn ad e=>Nat.lt_of_lt_of_le (h.lt hn ad e) hb.size⟩
 rintro e w1 ⟨ys,h1,rfl,hy,hyq,hb1⟩;have hk1:=hk.below hb1 hk.lt;go_wp2_with fail;refine (wMade11_any ys h1 w1 hy (fun r hm=>?_)).mono ?_
 ·have h:=(hyq r hm).below hb1;exact⟨h.len,h.cap,h.max,h.rd,h.rng,fun hn ad e=>Nat.lt_of_lt_of_le (h.lt hn ad e) hb1.size⟩
 rintro e w2 ⟨ps,f,s,p,rfl,hp,hn,hb2,hg,hne⟩;have hk2:=hk1.below hb2 hk1.lt;have ck:=hk2.cells;have fk:=hk2.froz;have on:Onl w.heap.size w2 (((w2.setCell ⟨w.heap.size,0,none⟩ (.slice f.a f.n f.c)).setCell ⟨w.heap.size,1,none⟩ (.slice s.a s.n s.c)).setCell ⟨w.heap.size,2,none⟩ (.slice p.a p.n p.c)):=(((Onl.refl _ _).set 0 _).set 1 _).set 2 _;have hfin:=And.intro (on.trans (Onl.refl _ _)) (bstep hb (bstep hb1 hb2));have HN:=zH hne;have HP:=zH (And.intro hn (fun ad e=>Nat.le_of_lt (Nat.lt_of_lt_of_le hk1.lt (hg ad e))))
 have HF:Hid (∀Y,Onl w.heap.size w2 Y→RowAt Y pvCells ps p):=by
  intro Y on;refine⟨hp.len,hp.cap,hp.max,?_⟩;rcases hp.rd with h0|⟨b',off',e,hb',hc'⟩
  ·exact .inl h0
  ·rw[e];exact on.rd (.inr ⟨b',off',rfl,hb',hc'⟩) (by have:=hg _ e;have:=hk1.lt;simp only at*;omega)
 have HF:=zH (HF.out _ on);clear hp hn hg hne on hb hb1 hb2 hk hk1 hk2 hr hq hy hyq;unfold lawV;go_wp2;exact bodyPost_ret (v:=lawV f s p) (by simp[results,Tryz.results5,go_sem,ck,lawV]) rfl ⟨ps,f,s,p,rfl,HF.out,HP.out.1,hfin.2.trans (hfin.1.below (Nat.le_refl _) hfin.2.size),HP.out.2,HN.out⟩
theorem uFindN_any (q:ByteArray) (xs:List (Pv × Hd)) (f s p:Hd) (w:World) (hr:RowAt w pvCells xs p) (h0:0<xs.length) [hinh:Inhabited (Pv × Hd)] (z:Int) (hz:findL q xs=z) (hz0:z<0):
  Calls Tryz.prog 6 #[lawV f s p,.string q] w fun e w'=>e=.returned (.tuple #[.int .i64 0,.bool false])∧Below w.heap.size w w':=by
 obtain⟨fa,fn,fc⟩:=f;obtain⟨sa,sn,sc⟩:=s;obtain⟨pa,pn,pc⟩:=p;unfold lawV;simp only
 obtain⟨W,hW⟩:=zE ((w.alloc (.cells #[.slice fa fn fc,.slice sa sn sc,.slice pa pn pc] 28)).alloc (.cells #[.string q] 9));obtain⟨B,hB⟩:=zE w.heap.size;have HK:Hid (Blk W B 28 [.slice fa fn fc,.slice sa sn sc,.slice pa pn pc]):=by show Blk _ _ _ _;rw[hW,hB];exact (Blk.new w _ _).alloc _
 have HQ:Hid (Blk W (B+1) 9 [.string q]):=by
  show Blk _ _ _ _;rw[hW,hB];have h:=Blk.new (w.alloc (.cells #[.slice fa fn fc,.slice sa sn sc,.slice pa pn pc] 28)) 9 #[.string q];rw[World.size_alloc] at h;exact h
 have HBA:Hid (Below w.heap.size w W):=by show Below _ _ _;rw[hW];exact (zB _ _).alloc (by simp) _
 have HF:=zH (idxPv_at xs ⟨pa,pn,pc⟩ q (B+1) 9 W HQ.out (hr.below HBA.out) h0);rw[hz] at HF;simp only at HF;have hmf:∀(fn:Fn) (first cap:Array Value) (w:World),(Instr.makeFunc fn first cap).run Tryz.prog w=.ok (.func fn first cap) w:=fun _ _ _ _=>rfl
 have hkc:=HK.out.cells;have hmx:max z 0=0:=by omega
 have hmz:¬0≤z:=by omega
 have hmd:decide (0≤z)=false:=decide_eq_false hmz;clear hz hr;go_enter Tryz.func6,Tryz.ntmps6
 go_upto_region 1 with fail
 simp only[←hW,←hB]
 clear hW hB;go_wp2_with fail;refine HF.out.mono ?_;rintro e w2 ⟨rfl,hb2⟩;have HB2:=zH (bstep HBA.out hb2);clear hb2;go_wp2;go_ret2;exact⟨rfl,HB2.out⟩
theorem str_eq (a b:ByteArray):(a.toList==b.toList)=decide (a=b):=by
 by_cases h:a=b
 ·subst h;simp
 ·have h2:¬a.toList=b.toList:=fun e=>h (by rw[ByteArray.toList_eq,ByteArray.toList_eq] at e;exact ByteArray.ext (Array.toList_inj.1 e))
  rw[decide_eq_false h];exact beq_eq_false_iff_ne.2 h2
section
variable [hinh:Inhabited (Pv × Hd)] {ps:List (Pv × Hd)}
theorem findL_hit (hn:(ps.map fun x=>x.1.name).Nodup) {i:Nat} (hi:i<ps.length):findL ps[i].1.name ps=i:=by
 unfold findL Lib.idxBy;rw[Lib.idxByFrom_hit (fun _ y=>isName ps[i].1.name y) default ps i 0 hi (by rw[getElem!_pos ps i hi];simp[isName]) (fun j hj=>?_)]
 ·simp
 ·rw[getElem!_pos ps j (by omega)];unfold isName;refine decide_eq_false (fun e=>?_);have h1:=List.pairwise_iff_getElem.1 hn j i (by simp;omega) (by simpa using hi) hj;exact h1 (by simpa using e)
theorem findL_miss {q:ByteArray} (h:ps.any (isName q)=false):findL q ps<0:=by
 have h1:=Lib.idxBy_nonneg_iff (fun _ y=>isName q y) ps (default:Pv × Hd);unfold findL;have h2:decide (0≤Lib.idxBy (fun _ y=>isName q y) ps (default:Pv × Hd))=false:=h1.trans h;have h3:=of_decide_eq_false h2;omega
theorem findL_has {q:ByteArray} (h:ps.any (isName q)=true):0≤findL q ps:=by
 have h1:=Lib.idxBy_nonneg_iff (fun _ y=>isName q y) ps (default:Pv × Hd);exact of_decide_eq_true (h1.trans h)
end
theorem any_take (ps:List (Pv × Hd)) (q:ByteArray) {j:Nat} (hj:j<ps.length):(ps.take (j+1)).any (isName q)=((ps.take j).any (isName q)||isName q ps[j]):=by
 rw[List.take_succ_eq_append_getElem hj,List.any_append];simp
theorem finds_core (xs:List (List Int × Hd)) (hh:Hd) (t s:ByteArray) (hS:∀W,Calls Tryz.prog 7 #[.string t] W fun e w'=>e=.returned (.string s)∧w'=W) (w:World) (hr:RowAt w rowV xs hh) (hq:∀r∈xs,IR w w.heap.size r)
  (hY:Calls Tryz.prog 4 #[] w fun e w'=>e=.returned (.bool true)∧Below w.heap.size w w') [hinh:Inhabited (Pv × Hd)]:
  Calls Tryz.prog 3 #[.slice hh.a hh.n hh.c,.string t] w fun e w'=>e=.returned (.bool true)∧Below w.heap.size w w':=by
 have HS:=zH hS;clear hS;go_enter Tryz.func3,Tryz.ntmps3;go_wp2_with fail;refine hY.mono ?_;rintro e w1 ⟨rfl,hb1⟩;clear hY;go_wp2_with fail;refine (wmade11_any xs hh w1 (hr.below hb1) (fun r hm=>?_)).mono ?_
 ·have h:=(hq r hm).below hb1;exact⟨h.len,h.cap,h.max,h.rd,h.rng,fun hn ad e=>Nat.lt_of_lt_of_le (h.lt hn ad e) hb1.size⟩
 rintro e w2 ⟨ps,f,s9,p,rfl,hp,hn,hb2,_,hne⟩;have hb:=bstep hb1 hb2;have hn:=hn.nodup six_nodup;clear hr hq hb1 hb2;obtain⟨pa,pn,pc⟩:=p;have hlen:=hp.len;simp only at hlen;have hpos:0<ps.length:=List.length_pos_iff.2 hne;have hmx:=hp.max;have hcp:=hp.cap;unfold maxLen at hmx;simp only at hmx hcp;have HLN:=zH hlen;clear hlen;unfold lawV
 go_upto_region 3 with fail
 generalize hW:w2.alloc _=W;obtain⟨hk,hbW⟩:=zA hW;replace hp:=hp.below hbW;replace hb:=bstep hb hbW;have hL:=fun (X:World) (h:Below W.heap.size W X)=>show X.cell? ⟨w2.heap.size,0,none⟩=some (Value.slice f.a f.n f.c)∧X.cell? ⟨w2.heap.size,1,none⟩=some (Value.slice s9.a s9.n s9.c)∧X.cell? ⟨w2.heap.size,2,none⟩=some (Value.slice pa pn pc) from⟨(hk.below h hk.lt).cells 0,(hk.below h hk.lt).cells 1,(hk.below h hk.lt).cells 2⟩
 have hF:=fun (q:ByteArray) (z:Int) (X:World) (h:Below W.heap.size W X)=>uFind_any q ps f s9 ⟨pa,pn,pc⟩ X (hp.below h) hpos z
 have hG:=fun (q:ByteArray) (z:Int) (X:World) (h:Below W.heap.size W X)=>uFindN_any q ps f s9 ⟨pa,pn,pc⟩ X (hp.below h) hpos z
 unfold lawV at hF hG;have HF:=zH hF;have HG:=zH hG;have HP:=zH hp;have HN:=zH hn;clear hW hk hbW hF hG hp hn hne;generalize w2.heap.size=L at hL⊢;have hX:=Below.refl W.heap.size W;go_wp2
 go_loopg [7,8] pn (fun g tv iv wr=>∃(j:Nat) (b:Bool),j+g=pn∧iv=.int .i64 j∧tv=.bool b∧Hid (b=(ps.take j).any (isName s))∧Below W.heap.size W wr)
 case atStart=>exact⟨0,false,by omega,rfl,rfl,rfl,hX⟩
 case round=>
  clear hX;obtain⟨j,b,hj,rfl,rfl,hbb,hX⟩:=hrel;by_cases hlt:j<pn
  ·obtain⟨bk,off,x,rfl,_,hx,hxe,hc⟩:=pv_at HP.out hlt;have HT:=zH (any_take ps s hx);have HFi:=zH (findL_hit HN.out hx);rw[hxe] at HT HFi;clear hxe;have j0:(0:Int)≤(j:Int):=by omega
   have j1:(j:Int)<(pn:Int):=by omega
   have hl0:=hL _ hX
   go_upto_region 7 with fail
   clear hl0;refine reS (Below W.heap.size W) 99 hX.drew (fun w3 h3 hS=>?_)
   iterate 7 refine reA ?_
   refine reC 7 (HF.out x.1.name j w3 hS HFi.out (by omega)) ?_;rintro e w4 ⟨rfl,hb4⟩;refine⟨_,rfl,bstep hS hb4,fun hS=>?_⟩
   iterate 5 refine reA ?_
   refine reE ?_;clear hX h3 hb4;have hl0:=hL _ hS
   go_upto_region 10 with fail
   clear hl0;refine reS (Below W.heap.size W) 99 hS.drew (fun w5 h5 hS=>?_);cases b
   ·have HE:=str_eq x.1.name s;obtain⟨q,hq⟩:=zF (decide (x.1.name=s));rw[hq] at HE;have HQ:=zH hq;clear hq
    iterate 9 refine reA ?_
    refine reC 9 (HS.out w5) ?_;rintro e w6 ⟨rfl,rfl⟩;refine⟨_,rfl,hS,fun hS=>?_⟩
    iterate 3 refine reA ?_
    refine reE ?_;go_wp2
    go_roundg (pn-(j+1))
    case measure=>omega
    case rel=>exact⟨j+1,q,by omega,by go_num,rfl,(by show _=_;rw[HT.out,←hbb.out,Bool.false_or];exact HQ.out.symm),hS⟩
   ·iterate 2 refine reA ?_
    refine reN 2 ?_;refine reN 3 ?_;refine reN 4 ?_;refine reN 5 ?_;refine reN 6 ?_;refine reN 7 ?_;refine reN 8 ?_;refine reN 9 ?_;refine reN 10 ?_;refine reZ 11 ?_;refine reZ 12 ?_;refine reE ?_;go_wp2
    go_roundg (pn-(j+1))
    case measure=>omega
    case rel=>exact⟨j+1,true,by omega,by go_num,rfl,(by show _=_;rw[HT.out,←hbb.out,Bool.true_or]),hS⟩
  ·obtain rfl:pn=j:=by omega
   have hbe:Hid (b=ps.any (isName s)):=by show _=_;rw[hbb.out,HLN.out,List.take_length]
   have hl0:=hL _ hX
   go_upto_region 11 with fail
   clear hl0;refine reS (Below W.heap.size W) 99 hX.drew (fun w3 h3 hS=>?_)
   iterate 2 refine reA ?_
   refine reC 2 (HS.out w3) ?_;rintro e w4 ⟨rfl,rfl⟩;refine⟨_,rfl,hS,fun hS=>?_⟩;cases b
   ·refine reC 3 (HG.out s _ _ hS rfl (findL_miss hbe.out.symm)) ?_;rintro e w5 ⟨rfl,hb5⟩;refine⟨_,rfl,bstep hS hb5,fun hS=>?_⟩
    iterate 5 refine reA ?_
    refine reE ?_;go_wp2;go_ret;exact⟨rfl,bstep hb hS⟩
   ·refine reC 3 (HF.out s _ _ hS rfl (findL_has hbe.out.symm)) ?_;rintro e w5 ⟨rfl,hb5⟩;refine⟨_,rfl,bstep hS hb5,fun hS=>?_⟩
    iterate 5 refine reA ?_
    refine reE ?_;go_wp2;go_ret;exact⟨rfl,bstep hb hS⟩
def rdrs:List Value:=[.string ⟨#[102,97,99,116]⟩,.func (Fn.func 89) #[] #[],.string ⟨#[115,99,104,101,100,117,108,101]⟩,.func (Fn.func 91) #[] #[],.string ⟨#[112,114,111,118,105,115,105,111,110]⟩,.func (Fn.func 93) #[] #[]]
theorem readers_any (w:World):Calls Tryz.prog 48 #[] w fun e w'=>e=.returned (.slice (some ⟨w.heap.size,0,none⟩) 3 3)∧Blk w' w.heap.size 115 rdrs∧Below w.heap.size w w':=by
 obtain⟨W,hW⟩:=zE (w.alloc (.cells rdrs.toArray 115));obtain⟨B,hB⟩:=zE w.heap.size;have HK:Hid (Blk W B 115 rdrs):=by show Blk _ _ _ _;rw[hW,hB];exact Blk.new w _ _
 have HBA:Hid (Below w.heap.size w W):=by show Below _ _ _;rw[hW];exact zB _ _
 go_enter Tryz.func48,Tryz.ntmps48;go_wp2;go_ret;refine⟨rfl,?_,?_⟩
 ·have h:=HK.out;rw[hW,hB] at h;exact h
 ·have h:=HBA.out;rw[hW] at h;exact h
theorem st_nil (w:World):(Instr.typeAssert .nilIface 20 105 true).run Tryz.prog w=.ok (.tuple #[.agg #[],.bool false]) w:=by
 kernel_rfl
theorem lcatch_idle (a:Nat) (w:World):
  CallsD Tryz.prog 45 #[.pointer (some ⟨a,0,none⟩)] .returning w fun e u' w'=>e=.returned (.tuple #[])∧u'=.returning∧Below w.heap.size w w':=by
 refine callsD_of_wpS Tryz.func45 rfl fun c₀ cs hu=>?_
 apply wpS_seq;apply wpS_region;simp[wpOpsS,go_sem,recoverD,hu,Tryz.ntmps45,Exit.thenS,st_nil];refine wpS_of_wp ?_;go_wp2;cases c₀
 simp_all [bodyPostS,results,Tryz.results45]
 exact zB _ _
def sFact:ByteArray:=⟨#[102,97,99,116,32]⟩
def sSch:ByteArray:=⟨#[115,99,104,101,100,117,108,101,32]⟩
def sPrv:ByteArray:=⟨#[112,114,111,118,105,115,105,111,110,32]⟩
def sChg:ByteArray:=⟨#[32,99,104,97,114,103,101]⟩
def sStp:ByteArray:=⟨#[32,115,116,101,112,32]⟩
def sCap:ByteArray:=⟨#[32,99,97,112,32]⟩
def sSp:ByteArray:=⟨#[32]⟩
def sNl:ByteArray:=⟨#[10]⟩
def sCs:ByteArray:=⟨#[58,32]⟩
def sSep (k:Nat):ByteArray:=if k=0 then ⟨#[58]⟩ else ⟨#[44]⟩
def bodyT (e:List Nd):ByteArray:=⟨(if checkE e=0 then textE e else []).toArray⟩
def declW (d:Dc):List ByteArray:=[sFact,d.name,sSp,tyText d.ty,sNl]
def schW (s:Sc):List ByteArray:=[sSch,s.name,sSp,tyText ⟨false,s.money,s.days⟩]
def bkW (k:Nat) (b:Bk):List ByteArray:=[sSep k,sSp,textR b.fr,sSp,textR b.rt]
def bksL:Nat→List Bk→List UInt8
 |_,[]=>[]
 |k,b::r=>bytesL (bkW k b)++bksL (k+1) r
def schL (s:Sc):List UInt8:=bytesL (schW s)++bksL 0 s.brs++bytesL [sNl]
def pvW (p:Pv):List ByteArray:=[sPrv,p.name,sSp,tyText p.ty]
def stW (p:Pv):List ByteArray:=[sStp,textR p.step,sCap,textR p.cap]
def pvL (p:Pv):List UInt8:=bytesL (pvW p)++(if p.charge then bytesL [sChg] else [])++(if plainP p then [] else bytesL (stW p))++bytesL [sCs,bodyT p.body,sNl]
def declL (d:Dc):List UInt8:=bytesL (declW d)
def textL (l:Lw):List UInt8:=l.facts.flatMap declL++l.schs.flatMap schL++l.provs.flatMap pvL
structure WS (B b:Nat) (w0 w:World) (bs:List UInt8):Prop where
 ib:Lib.IsBuilder 71 5 B b (lc bs) w
 bl:Below B w0 w
 hb:B≤w0.heap.size
theorem WS.size {B b:Nat} {w0 w:World} {bs:List UInt8} (h:WS B b w0 w bs):B≤w.heap.size:=Nat.le_trans h.hb h.bl.size
theorem WS.grow {B b:Nat} {w0 w w':World} {bs:List UInt8} (h:WS B b w0 w bs) (hb:Below w.heap.size w w'):WS B b w0 w' bs:=
 ⟨isb_below h.ib hb,h.bl.trans (hb.mono h.size),h.hb⟩
theorem WS.lt {B b:Nat} {w0 w:World} {bs:List UInt8} (h:WS B b w0 w bs):b<w.heap.size:=isb_lt h.ib
theorem WS.words {B b:Nat} {w0 w:World} {bs:List UInt8} (h:WS B b w0 w bs) (l:List ByteArray) (g n:Nat) (hg:Blk w g 9 (strs l)) (hgb:b<g) (hn:n=l.length) (hm:n≤1000) (h0:l≠[]) (hlen:bs.length+(bytesL l).length≤100000000000000):
  Calls Tryz.prog 50 #[.pointer (some ⟨b,0,none⟩),.slice (some ⟨g,0,none⟩) n n] w fun e w'=>e=.returned (.tuple #[])∧(WS B b w0 w' (bs++bytesL l)∧BF b w w'):=by
 refine (uWords_any B b g n n bs l w h.ib hg (by omega) hn hm h0 hlen h.size).mono ?_;rintro e w' ⟨rfl,hx,hb,hf⟩;exact⟨rfl,⟨.inr hx,h.bl.trans hb,h.hb⟩,hf⟩
end Go.Proofs.YtmmbjngbeiokeaaGreatDoor
