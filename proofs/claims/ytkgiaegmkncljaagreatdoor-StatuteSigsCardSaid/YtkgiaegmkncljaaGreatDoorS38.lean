/- A part of the proof: Wg Wh Wi. -/
import Derived.Test.YtkgiaegmkncljaaGreatDoorS01
import Derived.Test.YtkgiaegmkncljaaGreatDoorS33
import Derived.Test.YtkgiaegmkncljaaGreatDoorS36
import Derived.Test.YtkgiaegmkncljaaGreatDoorS37
set_option linter.unusedVariables false
set_option linter.unusedSimpArgs false
set_option maxRecDepth 100000
set_option maxHeartbeats 40000000
namespace Go.Proofs.YtkgiaegmkncljaaGreatDoor
open Go.RowKit
theorem made2:MadeC 13 2:=wmade_step 1 4 (by omega) (by omega) (by omega) (wmade_step 0 1 (by omega) (by omega) (by omega) (wmade_zero 0 (by omega) 1))
theorem wMade8_any (l:List Sg) (A:Option Addr) (k c:Nat) (r:List Int × Hd) (t:Bool) (m d:Int) (w:World) (hk:k=l.length) (hm:k≤1000) (hr:Rd w A (sgs l)) (hA:∀ad,A=some ad→ad.block<w.heap.size) (hi:IR w w.heap.size r) (hn:∀s∈l,nameOk s.name=true) (ht:TyK 5 t m d):
  Calls Tryz.prog 15 #[.slice A k c,.agg #[.bool t,.int .i64 m,.int .i64 d],.slice r.2.a r.2.n r.2.c] w (NsRet (TK l t m d 13) w):=by
 go_enter Tryz.func15,Tryz.ntmps15
 go_upto_region 1 with fail
 generalize hW:w.alloc _=W;obtain⟨hb,hg⟩:=zA hW;have hBD:w.heap.size<W.heap.size:=hb.lt;clear hW;generalize hB:w.heap.size=B at hb hBD⊢
 go_upto_region 2 with fail
 generalize hW:W.alloc _=W2;obtain⟨hd0,hg2⟩:=zA hW;have hb:=hb.below hg2 hb.lt;have hg3:=bstep hg hg2;have hs:SgR W2 W.heap.size A k l:=⟨hk,hm,hr.below hg3,fun ad e=>by have:=hA ad e;have:=hg.size;omega,hn⟩
 have hds:DS W2 W.heap.size (W.heap.size+1):=⟨_,_,_,_,0,⟨hd0,hi.len,Nat.le_trans hi.cap hi.max,hi.rd.below hg3,hi.rng,fun hn ad e=>by have:=hi.lt hn ad e;have:=hg.size;omega,Nat.zero_le _⟩,Nat.lt_succ_self _,fun hn ad e=>by have:=hi.lt hn ad e;have:=hg.size;omega⟩
 have hu:W.heap.size+1≤W2.heap.size:=hd0.lt;have hwD:=hg.size;clear hW hk hm hr hA hi hn hd0 hg hg2;generalize W.heap.size=D at hs hds hu hBD hwD⊢;have hc:=fun X (h:Below W2.heap.size W2 X)=>And.intro ((hb.below h hb.lt).cells 0) (And.intro ((hb.below h hb.lt).cells 1) ((hb.below h hb.lt).cells 2))
 have hb2:=Below.refl W2.heap.size W2
 go_upto_region 3 with fail
 go_cut [29] from 12 to 28 (fun lv X=>(∃q:Bool,lv=.bool q∧Hid (q=false→TyK 1 t m d))∧Below W2.heap.size W2 X)
 case first=>
  refine reS (Below W2.heap.size W2) 99 hb2.drew (fun w1 _ hS=>?_);cases t
  ·refine reZ 0 ?_;refine reZ 1 ?_;refine reZ 2 ?_;refine reZ 3 ?_;refine reZ 4 ?_;refine reC 5 (wKind_any 0 (by omega) (by omega) _) ?_;rintro e w1 ⟨t1,m1,d1,rfl,hT,hb⟩;obtain⟨rfl,hT⟩:=K5.lo (r:=0) hT (by omega);refine⟨_,rfl,bstep hS hb,fun hS=>?_⟩;clear hb;obtain⟨q1,hq1⟩:=zF (!decide ((⟨false,m,d⟩:Ty)=⟨false,m1,d1⟩));have HE:=fun W=>neq_ty ⟨false,m,d⟩ ⟨false,m1,d1⟩ W
   simp only[hq1,Ty.v] at HE
   have HQ1:Hid (q1=false→TyK 1 false m d):=fun h=>by
    obtain⟨rfl,rfl⟩:m=m1∧d=d1:=by simpa using hq1.trans h
    exact hT
   clear hq1 hT;refine reZ 6 ?_;clear HE;cases q1
   ·refine reZ 7 ?_;refine reZ 8 ?_;refine reN 9 ?_;refine reN 10 ?_;refine reN 11 ?_;refine reZ 12 ?_;refine reZ 13 ?_;refine reN 14 ?_;refine reN 15 ?_;refine reN 16 ?_;refine reZ 17 ?_;refine reE ?_;go_wp2
    go_meet
    case rel=>exact⟨⟨_,rfl,fun _=>HQ1.out trivial⟩,hS⟩
   ·refine reZ 7 ?_;refine reZ 8 ?_;refine reZ 9 ?_;refine reC 10 (wKind_any 1 (by omega) (by omega) _) ?_;rintro e w1 ⟨t2,m2,d2,rfl,hT,hb⟩;obtain⟨rfl,hT⟩:=K5.lo (r:=1) hT (by omega);refine⟨_,rfl,bstep hS hb,fun hS=>?_⟩;clear hb;obtain⟨q2,hq2⟩:=zF (!decide ((⟨false,m,d⟩:Ty)=⟨false,m2,d2⟩));have HE:=fun W=>neq_ty ⟨false,m,d⟩ ⟨false,m2,d2⟩ W
    simp only[hq2,Ty.v] at HE
    have HQ2:Hid (q2=false→TyK 1 false m d):=fun h=>by
     obtain⟨rfl,rfl⟩:m=m2∧d=d2:=by simpa using hq2.trans h
     exact hT
    clear hq2 hT;refine reZ 11 ?_;clear HE;cases q2
    ·refine reZ 12 ?_;refine reZ 13 ?_;refine reN 14 ?_;refine reN 15 ?_;refine reN 16 ?_;refine reZ 17 ?_;refine reE ?_;go_wp2
     go_meet
     case rel=>exact⟨⟨_,rfl,fun _=>HQ2.out trivial⟩,hS⟩
    ·refine reZ 12 ?_;refine reZ 13 ?_;refine reZ 14 ?_;refine reC 15 (wKind_any 2 (by omega) (by omega) _) ?_;rintro e w1 ⟨t3,m3,d3,rfl,hT,hb⟩;obtain⟨rfl,hT⟩:=K5.lo (r:=2) hT (by omega);refine⟨_,rfl,bstep hS hb,fun hS=>?_⟩;clear hb;obtain⟨q3,hq3⟩:=zF (!decide ((⟨false,m,d⟩:Ty)=⟨false,m3,d3⟩));have HE:=fun W=>neq_ty ⟨false,m,d⟩ ⟨false,m3,d3⟩ W
     simp only[hq3,Ty.v] at HE
     have HQ3:Hid (q3=false→TyK 1 false m d):=fun h=>by
      obtain⟨rfl,rfl⟩:m=m3∧d=d3:=by simpa using hq3.trans h
      exact hT
     clear hq3 hT;refine reZ 16 ?_;clear HE;cases q3
     ·refine reZ 17 ?_;refine reE ?_;go_wp2
      go_meet
      case rel=>exact⟨⟨_,rfl,fun _=>HQ3.out trivial⟩,hS⟩
     ·refine reZ 17 ?_;refine reE ?_;go_wp2
      go_meet
      case rel=>exact⟨⟨_,rfl,fun h=>by cases h⟩,hS⟩
  ·refine reZ 0 ?_;refine reZ 1 ?_;refine reZ 2 ?_;refine reZ 3 ?_;refine reN 4 ?_;refine reN 5 ?_;refine reN 6 ?_;refine reZ 7 ?_;refine reZ 8 ?_;refine reN 9 ?_;refine reN 10 ?_;refine reN 11 ?_;refine reZ 12 ?_;refine reZ 13 ?_;refine reN 14 ?_;refine reN 15 ?_;refine reN 16 ?_;refine reZ 17 ?_;refine reE ?_;go_wp2
   go_meet
   case rel=>exact⟨⟨_,rfl,fun _=>.inl ⟨Nat.le_refl _,rfl,ht.tru⟩⟩,hS⟩
 case rest=>
  obtain⟨⟨q,rfl,HQ⟩,hX⟩:=hcut;obtain⟨c0,c1,c2⟩:=hc _ hX;clear hc;cases q
  ·go_wp2_with fail;refine (made2 l A k c D (D+1) t m d wc (hs.onl (Onl.of_below hX)) (hds.below hX) (Nat.le_trans hu hX.size) (HQ.out trivial)).mono ?_;rintro e w1 ⟨v,ns,rfl,h1,h2,h3,h4⟩;go_wp2;go_ret;exact⟨v,ns,rfl,h1,own_lower h2 (Nat.le_trans hg3.size hX.size),(bstep hg3 hX).trans (h4.below hwD (Nat.le_trans hg3.size hX.size))⟩
  ·go_wp2_with fail;refine (wmade_zero 0 (by omega) 13 l A k c D (D+1) t m d wc (hs.onl (Onl.of_below hX)) (hds.below hX) (Nat.le_trans hu hX.size) (ht.mono (by omega))).mono ?_;rintro e w1 ⟨v,ns,rfl,h1,h2,h3,h4⟩;go_wp2;go_ret;exact⟨v,ns,rfl,h1,own_lower h2 (Nat.le_trans hg3.size hX.size),(bstep hg3 hX).trans (h4.below hwD (Nat.le_trans hg3.size hX.size))⟩
def zPv:Pv × Hd:=(⟨⟨#[]⟩,⟨false,0,0⟩,false,⟨false,⟨#[]⟩,⟨#[]⟩⟩,⟨false,⟨#[]⟩,⟨#[]⟩⟩,[]⟩,⟨none,0,0⟩)
structure CW (w:World) (D u B:Nat) (y:Pv × Hd) (bs:List (Nat × Nd)) (W:World):Prop where
 d:DW w D u W
 b:Blk W B 46 (pvCells y)
 r:Blk W (B+1) 46 (pvCells zPv)
 hB:w.heap.size≤B
 nb:∀p∈bs,B+2≤p.1∧Blk W p.1 59 p.2.cells
section
variable {w W X:World} {D u B:Nat} {y:Pv × Hd} {bs:List (Nat × Nd)}
theorem CW.onl (h:CW w D u B y bs W) (hd:DS X D u) (ho:Onl D W X):CW w D u B y bs X:=by
 have h1:=h.d.hD;have h2:=h.hB;exact⟨h.d.onl hd ho,ho.blk h.b (by omega),ho.blk h.r (by omega),h.hB,fun p hp=>⟨(h.nb p hp).1,ho.blk (h.nb p hp).2 (by have:=(h.nb p hp).1;omega)⟩⟩
theorem CW.below (h:CW w D u B y bs W) (hb:Below W.heap.size W X):CW w D u B y bs X:=h.onl (h.d.ds.below hb) (Onl.of_below hb)
theorem CW.next (h:CW w D u B y bs W) (q:Int) (h1:1≤q) (h2:q≤1000):Calls Tryz.prog 71 #[.pointer (some ⟨D,0,none⟩),.int .i64 q] W fun e X=>∃r:Nat,(r:Int)<q∧e=.returned (.int .i64 r)∧CW w D u B y bs X∧Onl D W X:=
 (next_any W D u q h.d.ds h1 (by omega)).mono fun _ _ ⟨r,hr,he,hd,ho⟩=>⟨r,hr,he,h.onl hd ho,ho⟩
theorem CW.push (h:CW w D u B y bs W) (n:Nd):CW w D u B y ((W.heap.size,n)::bs) (W.alloc (.cells n.cells.toArray 59)):=by
 have k:=h.below (zB W (.cells n.cells.toArray 59))
 exact⟨k.d,k.b,k.r,k.hB,fun p hp=>by
  rcases List.mem_cons.1 hp with rfl|hp
  ·exact⟨h.r.lt,Blk.new W _ _⟩
  ·exact k.nb p hp⟩
theorem CW.pushX (h:CW w D u B y bs W) (n:Nd) (hX:W.alloc (.cells n.cells.toArray 59)=X):CW w D u B y ((W.heap.size,n)::bs) X:=hX ▸ h.push n
theorem CW.low (h:CW w D u B y bs W) (hb:Below (B+2) W X):CW w D u B y [] X:=
 ⟨h.d.low (hb.mono (by have:=h.hB;omega)),h.b.below hb (by omega),h.r.below hb (by omega),h.hB,fun _ hp=>(by cases hp)⟩
theorem CW.put {N:Nat} {n:Nd} (h:CW w D u B y ((N,n)::bs) W) (n':Nd) (hN:∀p∈bs,p.1≠N):CW w D u B y ((N,n')::bs) (((((W.setCell ⟨N,0,none⟩ (.int .i64 n'.op)).setCell ⟨N,1,none⟩ (.bool n'.num.neg)).setCell ⟨N,2,none⟩ (.string n'.num.num)).setCell ⟨N,3,none⟩ (.string n'.num.den)).setCell ⟨N,4,none⟩ (.string n'.name)):=by
 obtain⟨h1,h2⟩:=h.nb _ List.mem_cons_self;have on:Onl N W (((((W.setCell ⟨N,0,none⟩ (.int .i64 n'.op)).setCell ⟨N,1,none⟩ (.bool n'.num.neg)).setCell ⟨N,2,none⟩ (.string n'.num.num)).setCell ⟨N,3,none⟩ (.string n'.num.den)).setCell ⟨N,4,none⟩ (.string n'.name)):=(((((Onl.refl _ _).set 0 _).set 1 _).set 2 _).set 3 _).set 4 _;have k:=h.low (on.below h1 h.r.lt);refine⟨k.d,k.b,k.r,h.hB,fun p hp=>?_⟩;rcases List.mem_cons.1 hp with rfl|hp
 ·exact⟨h1,((((h2.set 0 _).set 1 _).set 2 _).set 3 _).set 4 _⟩
 ·exact⟨(h.nb p (List.mem_cons_of_mem _ hp)).1,on.blk (h.nb p (List.mem_cons_of_mem _ hp)).2 (hN p hp)⟩
theorem CW.set (h:CW w D u B y bs W) (i:Nat) (v:Value):DW w D u (W.setCell ⟨B,i,none⟩ v)∧Blk (W.setCell ⟨B,i,none⟩ v) B 46 ((pvCells y).set i v)∧Blk (W.setCell ⟨B,i,none⟩ v) (B+1) 46 (pvCells zPv):=by
 have hb:Below w.heap.size W (W.setCell ⟨B,i,none⟩ v):=(Below.refl _ _).setCell (p:=⟨B,i,none⟩) h.hB v;exact⟨h.d.low hb,h.b.set i v,h.r.other (by show B+1≠B;omega) v⟩
theorem CW.turn (h:CW w D u B y bs W) (on:Onl B W X) (y':Pv × Hd) (hb:Blk X B 46 (pvCells y')):CW w D u B y' [] X:=
 ⟨h.d.low (on.below h.hB (Nat.le_trans h.hB (Nat.le_of_lt h.b.lt))),hb,on.blk h.r (by omega),h.hB,fun _ hp=>(by cases hp)⟩
theorem CW.body (h:CW w D u B y bs W) (z:Hd) (ns:List Nd):CW w D u B ({y.1 with body:=ns},z) [] (W.setCell ⟨B,4,none⟩ (.slice z.a z.n z.c)):=h.turn ((Onl.refl _ _).set 4 _) _ (h.b.set 4 _)
theorem CW.step (h:CW w D u B y bs W) (s:Ra):CW w D u B ({y.1 with step:=s},y.2) [] (((W.setCell ⟨B,6,none⟩ (.bool s.neg)).setCell ⟨B,7,none⟩ (.string s.num)).setCell ⟨B,8,none⟩ (.string s.den)):=h.turn ((((Onl.refl _ _).set 6 _).set 7 _).set 8 _) _ (((h.b.set 6 _).set 7 _).set 8 _)
theorem CW.cap (h:CW w D u B y bs W) (s:Ra):CW w D u B ({y.1 with cap:=s},y.2) [] (((W.setCell ⟨B,9,none⟩ (.bool s.neg)).setCell ⟨B,10,none⟩ (.string s.num)).setCell ⟨B,11,none⟩ (.string s.den)):=h.turn ((((Onl.refl _ _).set 9 _).set 10 _).set 11 _) _ (((h.b.set 9 _).set 10 _).set 11 _)
theorem CW.start {x:Pv × Hd} (hd:DS w D u) (hu:u≤w.heap.size) (hW:(w.alloc (.cells (pvCells x).toArray 46)).alloc (.cells (pvCells zPv).toArray 46)=W):CW w D u w.heap.size x [] W:=by
 obtain⟨k0,k1,k2,_⟩:=kTwo_new w 46 46 (pvCells x).toArray (pvCells zPv).toArray;rw[hW] at k0 k1 k2;exact⟨(⟨hd,Onl.refl _ _,hd.lt,hu⟩:DW w D u w).below k2,k0,k1,Nat.le_refl _,fun _ hp=>(by cases hp)⟩
end
structure CQ (w:World) (D u B:Nat) (y:Pv × Hd) (W:World):Prop where
 c:CW w D u B y [] W
 q:W.ownsRow (B+2) 59 5 (.slice y.2.a y.2.n y.2.c) y.1.body.length (nds y.1.body)
section
variable {w W X:World} {D u B:Nat} {y:Pv × Hd}
theorem CQ.onl (h:CQ w D u B y W) (hd:DS X D u) (ho:Onl D W X):CQ w D u B y X:=⟨h.c.onl hd ho,onl_row h.q ho (by have:=h.c.d.hD;have:=h.c.hB;omega)⟩
theorem CQ.below (h:CQ w D u B y W) (hb:Below W.heap.size W X):CQ w D u B y X:=h.onl (h.c.d.ds.below hb) (Onl.of_below hb)
theorem CQ.next (h:CQ w D u B y W) (q:Int) (h1:1≤q) (h2:q≤1000):Calls Tryz.prog 71 #[.pointer (some ⟨D,0,none⟩),.int .i64 q] W fun e X=>∃r:Nat,(r:Int)<q∧e=.returned (.int .i64 r)∧CQ w D u B y X∧Onl D W X:=
 (next_any W D u q h.c.d.ds h1 (by omega)).mono fun _ _ ⟨r,hr,he,hd,ho⟩=>⟨r,hr,he,h.onl hd ho,ho⟩
theorem CQ.step (h:CQ w D u B y W) (s:Ra):CQ w D u B ({y.1 with step:=s},y.2) (((W.setCell ⟨B,6,none⟩ (.bool s.neg)).setCell ⟨B,7,none⟩ (.string s.num)).setCell ⟨B,8,none⟩ (.string s.den)):=⟨h.c.step s,onl_row h.q ((((Onl.refl _ _).set 6 _).set 7 _).set 8 _) (by omega)⟩
theorem CQ.cap (h:CQ w D u B y W) (s:Ra):CQ w D u B ({y.1 with cap:=s},y.2) (((W.setCell ⟨B,9,none⟩ (.bool s.neg)).setCell ⟨B,10,none⟩ (.string s.num)).setCell ⟨B,11,none⟩ (.string s.den)):=⟨h.c.cap s,onl_row h.q ((((Onl.refl _ _).set 9 _).set 10 _).set 11 _) (by omega)⟩
end
structure CiG (sg:List Sg) (x y:Pv):Prop where
 n:y.name=x.name
 t:y.ty=x.ty
 c:y.charge=x.charge
 b:TE sg tCash y.body
 l:y.body.length≤60
theorem CiG.step {sg:List Sg} {x y:Pv} (h:CiG sg x y) (s:Ra):CiG sg x {y with step:=s}:=⟨h.n,h.t,h.c,h.b,h.l⟩
theorem CiG.cap {sg:List Sg} {x y:Pv} (h:CiG sg x y) (s:Ra):CiG sg x {y with cap:=s}:=⟨h.n,h.t,h.c,h.b,h.l⟩
theorem te_circ {sg:List Sg} {n2:Nd} {q:Ra} {o:Int} {ot:ByteArray} (h2:TE sg tCash [n2]) (hq:fitsR q=true) (ho:o=6∨o=8) (hot:nameOk ot=true) (hO:∀op:Int,op=6∨op=8→sigOf sg ⟨op,zR,ot⟩=some tCash):TE sg tCash [n2,⟨3,q,nE⟩,⟨o,zR,ot⟩,⟨11,zR,nE⟩,⟨9,zR,nE⟩]:=by
 have h3:TE sg tCash ([[(⟨3,q,nE⟩:Nd)],[⟨o,zR,ot⟩]].flatten++[⟨11,zR,nE⟩]):=TE.two (TE.lit (by omega) hq rfl) (TE.nam (by omega) hot (hO o ho)) (wr_op (by omega)) rfl (of_rule rfl rfl);have h4:=TE.sum (op:=9) (.inl rfl) rfl h2 h3;exact h4
def CiRet (sg:List Sg) (D u:Nat) (x:Pv × Hd) (w:World) (e:Ending) (w':World):Prop:=∃y:Pv × Hd,e=.returned (.agg (pvCells y).toArray)∧CiG sg x.1 y.1∧capB y.1.step y.1.cap=true∧w'.ownsRow w.heap.size 59 5 (.slice y.2.a y.2.n y.2.c) y.1.body.length (nds y.1.body)∧DS w' D u∧Onl D w w'
theorem wcircle_any (sg:List Sg) (D u:Nat) (x:Pv × Hd) (ot:ByteArray) (w:World) (hd:DS w D u) (hu:u≤w.heap.size) (hot:nameOk ot=true) (hO:∀op:Int,op=6∨op=8→sigOf sg ⟨op,zR,ot⟩=some tCash) (hW:sigOf sg ⟨5,zR,wage⟩=some tCash):
  Calls Tryz.prog 75 #[.pointer (some ⟨D,0,none⟩),.agg (pvCells x).toArray,.string ot] w (CiRet sg D u x w):=by
 have HT:Hid (∀(n2:Nd) (q:Ra) (o:Int),TE sg tCash [n2]→fitsR q=true→o=6∨o=8→TE sg tCash [n2,⟨3,q,nE⟩,⟨o,zR,ot⟩,⟨11,zR,nE⟩,⟨9,zR,nE⟩]):=fun _ _ _ h2 hq ho=>te_circ h2 hq ho hot hO
 have HW:Hid (TE sg tCash [⟨5,zR,wage⟩]):=TE.nam (by omega) (by decide) hW;clear hot hO hW;go_enter Tryz.func75,Tryz.ntmps75;unfold pvCells
 go_upto_region 1 with fail
 generalize hW:(w.alloc _).alloc _=W;have h:=CW.start hd hu hW;clear hW hd hu;generalize w.heap.size=B at h⊢;go_wp2_with fail;refine (h.next 3 (by omega) (by omega)).mono ?_;rintro e w1 ⟨r,hr,rfl,h',_⟩;clear h hr
 go_upto_if 12 with fail
 go_cut [7] from 12 to 12 (fun ov X=>(∃o:Int,ov=.int .i64 o∧Hid (o=6∨o=8))∧CW w D u B x [] X)
 case first=>
  go_wp2
  all_goals
   go_meet
   case rel=>exact⟨⟨_,rfl,by show _∨_;first|exact .inl rfl|exact .inr rfl⟩,h'⟩
 case rest=>
  clear h';obtain⟨⟨o,rfl,HO⟩,h⟩:=hcut;go_wp2_with fail;refine (h.next 4 (by omega) (by omega)).mono ?_;rintro e w1 ⟨r1,hr1,rfl,h',_⟩;clear h;go_wp2_with fail;refine (h'.next 3 (by omega) (by omega)).mono ?_;rintro e w2 ⟨r2,hr2,rfl,h,_⟩;clear h';go_wp2_with fail;refine (wfr _ _ w2 (by omega) (by omega) (by omega) (by omega)).mono ?_;rintro e w3 ⟨an,au,ad,rfl,hf1,hb⟩;replace h:=h.below hb;replace HT:Hid (∀n2:Nd,TE sg tCash [n2]→TE sg tCash [n2,⟨3,⟨an,au,ad⟩,nE⟩,⟨o,zR,ot⟩,⟨11,zR,nE⟩,⟨9,zR,nE⟩]):=fun n2 h2=>HT.out n2 _ o h2 hf1 HO.out
  clear hb hr1 hr2 hf1 HO
  go_upto_region 5 with fail
  generalize hX:w3.alloc _=X;have h':=h.pushX ⟨3,⟨an,au,ad⟩,⟨#[]⟩⟩ hX;clear hX h;generalize w3.heap.size=N1 at h'⊢;go_wp2_with fail;refine (h'.next 40 (by omega) (by omega)).mono ?_;rintro e w4 ⟨r3,hr3,rfl,h,_⟩;clear h';go_wp2_with fail;refine (wfr _ _ w4 (by omega) (by omega) (by omega) (by omega)).mono ?_;rintro e w5 ⟨bn,bu,bd,rfl,hf2,hb⟩;replace h:=h.below hb;have HC:Hid (TE sg tCash [⟨1,⟨bn,bu,bd⟩,nE⟩]):=TE.lit (by omega) hf2 rfl;clear hb hr3 hf2
  go_upto_region 6 with fail
  generalize hX:w5.alloc _=X2;have h':=h.pushX ⟨1,⟨bn,bu,bd⟩,⟨#[]⟩⟩ hX;have hne:N1<w5.heap.size:=(h.nb _ List.mem_cons_self).2.lt;clear hX h;generalize w5.heap.size=N2 at h' hne⊢;go_wp2_with fail;refine (h'.next 2 (by omega) (by omega)).mono ?_;rintro e w6 ⟨r4,hr4,rfl,h,_⟩;clear h' hr4
  go_upto_if 27 with fail
  go_cut [] from 27 to 28 (fun X=>∃n2,Hid (TE sg tCash [n2])∧CW w D u B x [(N2,n2),(N1,⟨3,⟨an,au,ad⟩,⟨#[]⟩⟩)] X)
  case first=>
   have c2:=(h.nb _ List.mem_cons_self).2.cells;have f2:=(h.nb _ List.mem_cons_self).2.froz;simp only[Nd.cells] at c2 f2;go_wp2
   ·go_meet
    case rel=>exact⟨_,HW,h.put ⟨5,⟨false,⟨#[]⟩,⟨#[]⟩⟩,⟨#[119,97,103,101]⟩⟩ (fun p hp=>by simp at hp;subst hp;show N1≠N2;omega)⟩
   ·go_meet
    case rel=>exact⟨_,HC,h⟩
  case rest=>
   clear h HC HW;obtain⟨⟨p2,⟨pn,pu,pd⟩,pm⟩,HN2,h⟩:=hcut;replace HT:=zH (HT.out _ HN2.out);clear HN2;have c2:=(h.nb _ List.mem_cons_self).2.cells;have c1:=(h.nb _ (List.mem_cons_of_mem _ List.mem_cons_self)).2.cells;have fB:=h.b.froz;have cB:=h.b.cells;have hBz:=h.b.lt;simp only[Nd.cells] at c1 c2;unfold pvCells at cB;clear hne
   go_upto_region 9 with fail
   have h':=h.body ⟨some ⟨wc.heap.size,0,none⟩,5,5⟩ [⟨p2,⟨pn,pu,pd⟩,pm⟩,⟨3,⟨an,au,ad⟩,nE⟩,⟨o,zR,ot⟩,⟨11,zR,nE⟩,⟨9,zR,nE⟩];have e5:(wc.setCell ⟨B,4,none⟩ (.slice (some ⟨wc.heap.size,0,none⟩) 5 5)).heap.size=wc.heap.size:=by simp[World.setCell]
   simp only at h';generalize wc.setCell ⟨B,4,none⟩ (.slice (some ⟨wc.heap.size,0,none⟩) 5 5)=Y at h' e5⊢;generalize hZ:Y.alloc _=Z;have ho:=own_newX hZ 5 5 (B+2) rfl (by omega) h'.r.lt;rw[e5] at ho;clear h c1 c2 cB fB hBz e5;have h:=h'.below (zA hZ).2;clear hZ h';generalize wc.heap.size=N at h ho⊢;obtain⟨ns,hns⟩:=zE ([⟨p2,⟨pn,pu,pd⟩,pm⟩,⟨3,⟨an,au,ad⟩,nE⟩,⟨o,zR,ot⟩,⟨11,zR,nE⟩,⟨9,zR,nE⟩]:List Nd);rw[←hns] at h HT;have HQ:CQ w D u B ({x.1 with body:=ns},⟨some ⟨N,0,none⟩,5,5⟩) Z:=⟨h,by show World.ownsRow _ _ _ _ _ ns.length (nds ns);rw[hns];exact ho⟩
   have hl5:ns.length=5:=by rw[hns];rfl
   clear h ho hns;replace h:=HQ;clear HQ;go_wp2_with fail;refine (h.next 2 (by omega) (by omega)).mono ?_;rintro e w7 ⟨r5,hr5,rfl,h',_⟩;clear h hr5
   go_upto_if 40 with fail
   go_cut [] from 40 to 47 (fun X=>∃z ns,CQ w D u B ({x.1 with body:=ns},z) X∧Hid (TE sg tCash ns∧ns.length≤60))
   case first=>
    go_wp2
    ·have ho:World.ownsRow _ (B+2) 59 5 (.slice (some ⟨N,0,none⟩) 5 5) 5 (nds ns):=hl5 ▸ h'.q;have h:=h'.c;clear h';have hc:=fun X (h:CW w D u B ({x.1 with body:=ns},⟨some ⟨N,0,none⟩,5,5⟩) [] X)=>show X.cell? ⟨B,4,none⟩=some (.slice (some ⟨N,0,none⟩) 5 5) from h.b.cells 4
     refine reS (CW w D u B ({x.1 with body:=ns},⟨some ⟨N,0,none⟩,5,5⟩) []) 7 (h.below (drewN_below _ _ 1)) (fun w8 h8 h=>?_);replace ho:=own_below ho h8;refine reA ?_;refine reA ?_;refine reC 2 (wfrac_any 1 4 w8 (by omega) (by omega) (by omega) (by omega)) ?_;rintro e w9 ⟨rfl,hb⟩;replace ho:=own_below ho hb;refine⟨_,rfl,h.below hb,fun h=>?_⟩
     have HD:Hid (TE sg tCash (ns++[⟨21,frR 1 4,nE⟩])):=by
      have h9:=TE.stp (op:=21) (by omega) (frR_fits (by omega) (by omega) (by omega) (by omega)) (show 0<signR (frR 1 4) by decide+kernel) rfl HT.out;rw[List.flatten_cons,List.flatten_nil,List.append_nil] at h9;exact h9
     obtain⟨⟨cn,cu,cd⟩,hs⟩:=zF (frR 1 4);rw[hs] at HD⊢;clear hs;unfold Ra.v;refine reZ 3 ?_;refine reV 4 (fun _=>h.below (zB _ _)) (fun _=>?_);refine reP 5 info_node Tryz.underlying41 ho (by omega) h.r.lt (fun v' w10 ho _ _ hb=>⟨h.low hb,fun h=>?_⟩);obtain⟨A1,c1,rfl,_⟩:=own_rd ho;have c:=h.b.cells 4;have f:=h.b.froz;refine reZ 6 ?_;refine reW 7 (fun h=>absurd rfl h) (fun _=>?_);refine reE ?_;go_wp2
     go_meet
     case rel=>exact⟨⟨A1,6,c1⟩,ns++[⟨21,⟨cn,cu,cd⟩,nE⟩],⟨h.body ⟨A1,6,c1⟩ _,by show World.ownsRow _ _ _ _ _ (ns++_).length (nds (ns++_));rw[nds_append,List.length_append,hl5];exact onl_row ho ((Onl.refl _ _).set 4 _) (by omega)⟩,HD.out,by rw[List.length_append,hl5];show 5+1≤60;omega⟩
    ·go_meet
     case rel=>exact⟨_,_,h',HT.out,by omega⟩
   case rest=>
    clear h' HT hl5 ns;obtain⟨z,ns,h,HN⟩:=hcut;go_wp2_with fail;refine (wfrac_any 1 1 wc (by omega) (by omega) (by omega) (by omega)).mono ?_;rintro e w1 ⟨rfl,hb⟩;obtain⟨⟨an,au,ad⟩,hs⟩:=zF (frR 1 1);rw[hs];have Sa:Hid ((⟨an,au,ad⟩:Ra)∈[frR 1 1,frR 1 2,frR 5 1]):=by show _∈_;rw[←hs];simp
    have h':=h.below hb;clear hb h hs;go_wp2_with fail;refine (wfrac_any 1 2 w1 (by omega) (by omega) (by omega) (by omega)).mono ?_;rintro e w2 ⟨rfl,hb⟩;obtain⟨⟨bn,bu,bd⟩,hs⟩:=zF (frR 1 2);rw[hs];have Sb:Hid ((⟨bn,bu,bd⟩:Ra)∈[frR 1 1,frR 1 2,frR 5 1]):=by show _∈_;rw[←hs];simp
    have h:=h'.below hb;clear hb h' hs;go_wp2_with fail;refine (wfrac_any 5 1 w2 (by omega) (by omega) (by omega) (by omega)).mono ?_;rintro e w3 ⟨rfl,hb⟩;obtain⟨⟨cn,cu,cd⟩,hs⟩:=zF (frR 5 1);rw[hs];have Sc:Hid ((⟨cn,cu,cd⟩:Ra)∈[frR 1 1,frR 1 2,frR 5 1]):=by show _∈_;rw[←hs];simp
    have h':=h.below hb;clear hb h hs;unfold Ra.v;go_wp2_with fail;refine (h'.next 3 (by omega) (by omega)).mono ?_;rintro e w4 ⟨r,hr,rfl,h,_⟩;clear h'
    obtain⟨q,hsz,hq⟩:∃q:Ra,Hid (q∈[frR 1 1,frR 1 2,frR 5 1])∧∀W,Sem.run Tryz.prog (Instr.index 210 (.agg #[.bool an,.string au,.string ad,.bool bn,.string bu,.string bd,.bool cn,.string cu,.string cd]) (.int .i64 (r:Int))) W=Result.ok (.agg #[.bool q.neg,.string q.num,.string q.den]) W:=by
     rcases (by omega:r=0∨r=1∨r=2) with rfl|rfl|rfl
     ·exact⟨⟨an,au,ad⟩,Sa,fun _=>by kernel_rfl⟩
     ·exact⟨⟨bn,bu,bd⟩,Sb,fun _=>by kernel_rfl⟩
     ·exact⟨⟨cn,cu,cd⟩,Sc,fun _=>by kernel_rfl⟩
    have cB:=h.c.b.cells;have fB:=h.c.b.froz;unfold pvCells at cB;clear hr Sa Sb Sc
    go_upto_region 12 with fail
    obtain⟨y,hy⟩:=zE (({x.1 with body:=ns,step:=q},z):Pv × Hd);have h':CQ w D u B y _:=hy ▸ h.step q;have HG:Hid (CiG sg x.1 y.1):=by show CiG _ _ _;rw[hy];exact⟨rfl,rfl,rfl,HN.out.1,HN.out.2⟩
    replace hsz:Hid (y.1.step∈[frR 1 1,frR 1 2,frR 5 1]):=by show _∈_;rw[hy];exact hsz.out
    clear hy HN;generalize World.setCell _ ⟨B,8,none⟩ _=Y at h'⊢;clear h cB fB hq;have hc:=fun X (h:CQ w D u B y X)=>show X.cell? ⟨B,6,none⟩=some (.bool y.1.step.neg)∧X.cell? ⟨B,7,none⟩=some (.string y.1.step.num)∧X.cell? ⟨B,8,none⟩=some (.string y.1.step.den) from⟨h.c.b.cells 6,h.c.b.cells 7,h.c.b.cells 8⟩
    refine reS (CQ w D u B y) 8 (h'.below (drewN_below _ _ 1)) (fun w5 _ h=>?_)
    iterate 3 refine reA ?_
    refine reC 3 (h.next 30 (by omega) (by omega)) ?_;rintro e w6 ⟨r,hr,rfl,h,_⟩;refine⟨_,rfl,h,fun h=>?_⟩;have hw:IntKind.i64.wrap (1+(r:Int))=1+(r:Int):=IntWalk.i64_in _ (by omega);refine reZ 4 ?_;refine reC 5 (sOf_any (1+(r:Int)) w6 (by omega) (by omega)) ?_;rintro e w7 ⟨rfl,hb⟩;refine⟨_,rfl,h.below hb,fun h=>?_⟩;have hr9:r<30:=by omega
    clear hw hb;refine reC 6 (wcap y.1.step hsz.out r hr9 w7) ?_;rintro e w8 ⟨p,rfl,hcap,hb⟩;have HCB:=zH hcap;clear hcap;refine⟨.agg #[.bool p.neg,.string p.num,.string p.den],rfl,h.below hb,fun h=>?_⟩;have cB:=h.c.b.cells;have fB:=h.c.b.froz;unfold pvCells at cB;clear hb hr9 hr hc;refine reZ 7 ?_;refine reW 8 (fun h=>absurd rfl h) (fun _=>?_);refine reE ?_;obtain⟨y',hy⟩:=zE (({y.1 with cap:=p},y.2):Pv × Hd);have h':CQ w D u B y' _:=hy ▸ h.cap p;replace HG:Hid (CiG sg x.1 y'.1):=by show CiG _ _ _;rw[hy];exact HG.out.cap p
    replace HCB:Hid (capB y'.1.step y'.1.cap=true):=by show _=_;rw[hy];exact HCB.out
    clear hy;generalize World.setCell _ ⟨B,11,none⟩ _=Y at h'⊢;clear h cB fB;have cB:=h'.c.b.cells;have cR:=h'.c.r.cells;have fR:=h'.c.r.froz;unfold pvCells at cB cR;unfold zPv at cR;have on:Onl (B+1) Y ((((((((((((Y.setCell ⟨B+1,0,none⟩ (.string y'.1.name)).setCell ⟨B+1,1,none⟩ (.bool y'.1.ty.truth)).setCell ⟨B+1,2,none⟩ (.int .i64 y'.1.ty.money)).setCell ⟨B+1,3,none⟩ (.int .i64 y'.1.ty.days)).setCell ⟨B+1,4,none⟩ (.slice y'.2.a y'.2.n y'.2.c)).setCell ⟨B+1,5,none⟩ (.bool y'.1.charge)).setCell ⟨B+1,6,none⟩ (.bool y'.1.step.neg)).setCell ⟨B+1,7,none⟩ (.string y'.1.step.num)).setCell ⟨B+1,8,none⟩ (.string y'.1.step.den)).setCell ⟨B+1,9,none⟩ (.bool y'.1.cap.neg)).setCell ⟨B+1,10,none⟩ (.string y'.1.cap.num)).setCell ⟨B+1,11,none⟩ (.string y'.1.cap.den)):=((((((((((((Onl.refl _ _).set 0 _).set 1 _).set 2 _).set 3 _).set 4 _).set 5 _).set 6 _).set 7 _).set 8 _).set 9 _).set 10 _).set 11 _;have hl:=h'.c.d.low (on.below (Nat.le_succ_of_le h'.c.hB) (Nat.le_trans h'.c.hB (Nat.le_of_lt h'.c.b.lt)));have hq:=own_lower (onl_row h'.q on (by omega)) (Nat.le_succ_of_le (Nat.le_succ_of_le h'.c.hB));clear on;go_wp2;exact bodyPost_ret (v:=.agg (pvCells y').toArray) (by simp[results,Tryz.results75,go_sem,pvCells,cR]) rfl ⟨y',rfl,HG.out,HCB.out,hq,hl.ds,hl.on⟩
theorem jDecl:(Tryz.prog.info? 53).map (fun i=>(i.zero,i.size,i.bytes))=some (some (.agg #[.string ⟨#[]⟩,.bool false,.int .i64 0,.int .i64 0]),4,40):=by kernel_rfl
theorem jSched:(Tryz.prog.info? 56).map (fun i=>(i.zero,i.size,i.bytes))=some (some (.agg #[.string ⟨#[]⟩,.int .i64 0,.int .i64 0,.slice none 0 0]),4,56):=by kernel_rfl
theorem jProv:(Tryz.prog.info? 46).map (fun i=>(i.zero,i.size,i.bytes))=some (some (.agg #[.string ⟨#[]⟩,.bool false,.int .i64 0,.int .i64 0,.slice none 0 0,.bool false,.bool false,.string ⟨#[]⟩,.string ⟨#[]⟩,.bool false,.string ⟨#[]⟩,.string ⟨#[]⟩]),12,152):=by kernel_rfl
theorem sg_eq (fs:List Dc) (ss:List (Sc × Hd)) (ps:List (Pv × Hd)):fs.map fSig++(restP ps 0++ss.map fun x=>sSig x.1)=sigsL (lwP fs ss ps):=by
 unfold restP sigsL lwP;simp only[List.map_map,List.append_assoc]
 rfl
theorem ty_k {x:Pv × Hd} (h:x.1.ty=tCash∨(x.1.ty=tTruth∧x.1.name=thr)):TyK 5 x.1.ty.truth x.1.ty.money x.1.ty.days:=by
 rcases h with h|⟨h,_⟩<;>rw[h]
 ·exact .inr ⟨rfl,.inl ⟨by omega,.inl ⟨rfl,rfl⟩⟩⟩
 ·exact .inl ⟨by omega,rfl,rfl,rfl⟩
def MRet (w:World) (e:Ending) (w':World):Prop:=∃(l:Lw) (ss:List (Sc × Hd)) (ps:List (Pv × Hd)) (f s p:Hd),e=.returned (lawV f s p)∧MdG l∧LO w' w.heap.size l ss ps f s p∧Below w.heap.size w w'
theorem wMade11_any (xs:List (List Int × Hd)) (hh:Hd) (w:World) (hr:RowAt w rowV xs hh) (hq:∀r∈xs,IR w w.heap.size r):
  Calls Tryz.prog 32 #[.slice hh.a hh.n hh.c] w (MRet w):=by
 go_enter Tryz.func32,Tryz.ntmps32
 go_upto_region 1 with fail
 generalize hW:w.alloc _=W;obtain⟨h0,hb⟩:=zA hW;clear hW;go_wp2_with fail;refine (wlist_any xs hh 0 w.heap.size W (hr.below hb) (fun r hm=>(hq r hm).below hb)).mono ?_;rintro e w1 ⟨r,rfl,hir,rfl⟩
 go_upto_region 2 with fail
 generalize hX:W.alloc _=W1;obtain⟨hd0,hg⟩:=zA hX;have hds:DS W1 W.heap.size (W.heap.size+1):=⟨_,_,_,_,0,⟨hd0,hir.len,Nat.le_trans hir.cap hir.max,hir.rd.below hg,hir.rng,fun hn ad e=>by have:=hir.lt hn ad e;have:=hb.size;omega,Nat.zero_le _⟩,Nat.lt_succ_self _,fun hn ad e=>by have:=hir.lt hn ad e;have:=hb.size;omega⟩
 have h0D:=h0.lt;replace h0:=h0.below hg h0.lt;have hb1:=bstep hb hg;have hDM:=hd0.lt;clear hX hg hd0 hir;generalize W.heap.size=D at hds h0D hDM⊢;clear hb;go_wp2_with fail;refine (wNum_any 1 0 W1).mono ?_;rintro e w2 ⟨rfl,hb2⟩
 go_upto_region 3 with fail
 generalize hX:w2.alloc _=W2;obtain⟨hm,hg⟩:=zA hX;have hb3:=bstep hb2 hg;replace hds:=hds.below hb3;replace h0:=h0.below hb3 h0.lt;replace hb1:=bstep hb1 hb3;replace hDM:D<w2.heap.size:=Nat.lt_of_lt_of_le hDM hb2.size;clear hX hg hb2 hb3;generalize w2.heap.size=M at hm hDM⊢;go_wp2_with fail;refine (wNum_any 0 0 W2).mono ?_;rintro e w3 ⟨rfl,hb2⟩;replace hds:=hds.below hb2;replace h0:=h0.below hb2 h0.lt;replace hm:=hm.below hb2 hm.lt;replace hb1:=bstep hb1 hb2;clear hb2
 go_upto_region 4 with fail
 generalize hX:(w3.alloc _).alloc _=X;have h:=MZ.first hds h0 hm hb1 h0D hDM ⟨⟨#[97,103,101]⟩,⟨false,0,0⟩⟩ hX
 clear hX hds h0 hm hb1 h0D hDM;generalize w3.heap.size+1=L at h⊢;generalize w3.heap.size+2=U at h;generalize (Value.slice (some ⟨w3.heap.size,0,none⟩) 1 1)=fv at h;go_wp2_with fail;refine (h.next 4 (by omega) (by omega)).mono ?_;rintro e w1 ⟨r1,hr1,rfl,h',_⟩;clear h hr1
 go_upto_if 28 with fail
 go_cut [] from 28 to 35 (fun X=>∃U fs fv,fs.length≤2∧Hid (FsG (fs++[⟨wage,tCash⟩]))∧MZ w X D M L 0 U fs [] [] fv (.slice none 0 0) (.slice none 0 0))
 case first=>
  have hc:=h'.cells;go_wp2_with (at_builtin;go_must (refine zPg jDecl Tryz.underlying26 h'.f (by simp) h'.hB ?_))
  ·intro v' w2 ho hg;obtain⟨A1,c1,rfl,_⟩:=own_rd ho;have kL:=(TF.grown h'.f hg).blk h'.b (by decide);have cL:=kL.cells;have fL:=kL.froz;go_wp2
   go_meet
   case rel=>exact⟨_,_,_,by simp,(show Hid (FsG ([⟨⟨#[97,103,101]⟩,⟨false,0,0⟩⟩,⟨⟨#[114,101,110,116]⟩,⟨false,1,0⟩⟩]++[⟨wage,tCash⟩])) from fsG2),h'.pushF ⟨⟨#[114,101,110,116]⟩,⟨false,1,0⟩⟩ ho hg⟩
  ·go_meet
   case rel=>exact⟨_,_,_,by simp,(show Hid (FsG ([⟨⟨#[97,103,101]⟩,⟨false,0,0⟩⟩]++[⟨wage,tCash⟩])) from fsG1),h'⟩
 case rest=>
  clear h';obtain⟨U,fs,fv,hf,HFS,h⟩:=hcut;have hc:=h.cells;go_wp2_with (at_builtin;go_must (refine zPg jDecl Tryz.underlying26 h.f (by omega) h.hB ?_));intro v' w2 ho hg;obtain⟨A1,c1,rfl,_⟩:=own_rd ho;have kL:=(TF.grown h.f hg).blk h.b (by decide);have cL:=kL.cells;have fL:=kL.froz
  go_upto_region 7 with fail
  have h':=h.pushF ⟨⟨#[119,97,103,101]⟩,⟨false,1,0⟩⟩ ho hg;have hf3:(fs++[(⟨⟨#[119,97,103,101]⟩,⟨false,1,0⟩⟩:Dc)]).length≤3:=by rw[List.length_append];simp;omega
  generalize World.setCell w2 _ _=Y at h'⊢;replace HFS:Hid (FsG (fs++[(⟨⟨#[119,97,103,101]⟩,⟨false,1,0⟩⟩:Dc)])):=HFS;generalize fs++[(⟨⟨#[119,97,103,101]⟩,⟨false,1,0⟩⟩:Dc)]=fs at h' hf3 HFS;clear h hc kL cL fL ho hg hf;generalize (Value.slice A1 _ c1)=fv at h';generalize w2.heap.size=U at h';have hc:=fun X (h:MZ w X D M L 0 U fs [] [] fv (.slice none 0 0) (.slice none 0 0))=>h.cells
  refine reS (fun X=>MZ w X D M L 0 U fs [] [] fv (.slice none 0 0) (.slice none 0 0)) 7 (h'.below (drewN_below _ _ 1)) (fun w1 _ h=>?_);have HMB:=zH h.hB
  iterate 3 refine reA ?_
  refine reC 3 (wbrackets_any D (D+1) true w1 h.ds h.hDu) ?_;rintro e w2 ⟨b1,l1,rfl,hg1,hq1,hd1,ho1⟩;have HQ1:=zH (own_lower hq1 HMB.out);have HSC:Hid (ScG [(⟨⟨#[98,97,115,105,99]⟩,1,0,l1⟩,b1)]):=scG1 hg1 b1;have HG1:=zH hg1;clear hg1 hq1;refine⟨_,rfl,h.onl hd1 ho1,fun h=>?_⟩;refine reZ 4 ?_;refine reV 5 (fun _=>h.below (zB _ _)) (fun _=>?_);refine reZ 6 ?_;generalize hX:w2.alloc _=X;have hx:=(h.below (zA hX).2).b;have cL:=hx.cells;have fL:=hx.froz;refine reW 7 (fun h=>absurd rfl h) (fun _=>?_);refine reE ?_;have k:=h.setSX (⟨⟨#[98,97,115,105,99]⟩,1,0,l1⟩,b1) HQ1.out hX;generalize World.setCell X _ _=Y at k⊢;generalize w2.heap.size+1=U2 at k;generalize (Value.slice (some ⟨w2.heap.size,0,none⟩) 1 1)=sv at k;clear hc h' h hX hx cL fL hd1 ho1;go_wp2_with fail;refine (k.next 2 (by omega) (by omega)).mono ?_;rintro e w3 ⟨r2,hr2,rfl,h,_⟩;clear k hr2
  go_upto_if 52 with fail
  go_cut [] from 52 to 62 (fun X=>∃U ss sv,ss.length≤2∧Hid (ScG ss)∧MZ w X D M L 0 U fs ss [] fv sv (.slice none 0 0))
  case first=>
   go_wp2
   ·have hc:=fun X (h:SZ L M fv sv (.slice none 0 0) X)=>h.cells
    refine reS (SZ L M fv sv (.slice none 0 0)) 10 (h.below (drewN_below _ _ 1)).sz (fun w1 h1 hS=>?_);replace h:=h.below h1;have HMB:=zH h.hB
    iterate 5 refine reA ?_
    refine reC 5 (wbrackets_any D (D+1) false w1 h.ds h.hDu) ?_;rintro e w2 ⟨b2,l2,rfl,hg2,hq2,hd1,ho1⟩;have HQ2:=zH (own_lower hq2 HMB.out);have HS2:=zH (scG2 HG1.out hg2 b1 b2);clear hg2 hq2;replace h:=h.onl hd1 ho1;refine⟨_,rfl,h.sz,fun hS=>?_⟩;refine reZ 6 ?_;refine reV 7 (fun _=>(h.below (zB _ _)).sz) (fun _=>?_);refine reP 8 jSched Tryz.underlying27 h.s (by simp) h.hB (fun v' w4 ho hg _ _=>⟨h.sz.tf (TF.grown h.s hg) (by decide) (by decide),fun hS=>?_⟩);obtain⟨A1,c1,rfl,_⟩:=own_rd ho;have cL:=hS.1.cells;have fL:=hS.1.froz;refine reZ 9 ?_;refine reW 10 (fun h=>absurd rfl h) (fun _=>?_);refine reE ?_;go_wp2
    go_meet
    case rel=>exact⟨_,_,_,by simp,HS2,h.pushS (⟨⟨#[101,120,116,114,97]⟩,1,0,l2⟩,b2) HQ2.out ho hg⟩
   ·go_meet
    case rel=>exact⟨_,_,_,by simp,HSC,h⟩
  case rest=>
   clear h HSC HG1 HQ1;obtain⟨U,ss,sv,hs2,HSC,h⟩:=hcut
   go_upto_region 11 with fail
   generalize hX:wc.alloc _=X;have h':=h.names hX;have hN0:wc.heap.size≠0:=by have:=h.hL;have:=h.hU;have:=h.hW;omega
   generalize wc.heap.size=N at h' hN0⊢;clear h hX;go_wp2
   go_loopg [7] 6 (fun g iv wr=>∃(i:Nat) (ps:List (Pv × Hd)) (pv:Value) (U:Nat),i+g=6∧iv=.int .i64 i∧MZ w wr D M L N U fs ss ps fv sv pv∧Pk i ps∧Hid (∀x∈ps,plainP x.1=true))
   case atStart=>exact⟨0,[],_,_,by omega,rfl,h',Pk.zero,fun _ h=>by cases h⟩
   case round=>
    clear h';obtain⟨i,ps,pv,U,hi,rfl,h,hp,HPL⟩:=hrel;by_cases hlt:i<6
    ·have hl6:i<six.length:=hlt;have hc:=fun X (h:MZ w X D M L N U fs ss ps fv sv pv)=>And.intro (h.nm hN0 hl6) h.cells
     obtain⟨s,hs⟩:=zE (six[i]'hl6);rw[←hs] at hc;have HS:=zH hs;clear hs;have i0:(0:Int)≤(i:Int):=by omega
     have i1:(i:Int)<6:=by omega
     go_upto_region 14 with fail
     refine reS (fun X=>MZ w X D M L N U fs ss ps fv sv pv) 6 (h.below (drewN_below _ _ 1)) (fun w1 _ h=>?_)
     iterate 5 refine reA ?_
     refine reV 5 (fun _=>h.below (zB _ _)) (fun _=>?_);refine reW 6 (fun h=>absurd rfl h) (fun _=>?_);refine reE ?_;clear hc;generalize hX:w1.alloc _=X;obtain⟨hP0,hb⟩:=zA hX;have k:=h.up.low hb;clear hX h hb;generalize w1.heap.size=P at hP0 k⊢;obtain⟨x,hx1,hx2,hP⟩:∃x:Pv × Hd,x.1.name=s∧Hid (PkL x∧x.1.charge=false)∧Blk X P 46 (pvCells x):=⟨(⟨s,⟨false,1,0⟩,false,⟨false,⟨#[]⟩,⟨#[]⟩⟩,⟨false,⟨#[]⟩,⟨#[]⟩⟩,[]⟩,⟨none,0,0⟩),rfl,⟨⟨⟨.inl rfl,fun h=>by cases h⟩,(show plainP _=true from by unfold plainP zR;simp),rfl,rfl⟩,rfl⟩,hP0⟩
     clear hP0;have HX:=zH hx1;clear hx1
     go_upto_region 15 with fail
     go_cut [81] from 73 to 80 (fun bv Y=>(∃b,bv=.bool b∧Hid (b=true→s=thr))∧MZ w Y D M L N P fs ss ps fv sv pv∧Blk Y P 46 (pvCells x))
     case first=>
      have hn:=k.nm hN0 hl6;rw[←HS.out] at hn;by_cases he:s=⟨#[116,104,114,101,115,104,111,108,100]⟩
      ·subst he;go_wp2_with fail;refine (k.next 2 (by omega) (by omega)).mono ?_;rintro e w2 ⟨r3,_,rfl,k',ho⟩;have hP':=ho.blk hP (by have:=k.hM;have:=k.hL;have:=k.hU;omega);clear k hP;go_wp2
       all_goals
        go_meet
        case rel=>exact⟨⟨_,rfl,fun _=>rfl⟩,k',hP'⟩
      ·have he1:=(st_ne he).1;have he2:=(st_ne he).2;go_wp2
       go_meet
       case rel=>exact⟨⟨_,rfl,fun h=>by cases h⟩,k,hP⟩
     case rest=>
      clear k hP;obtain⟨⟨b,rfl,HBT⟩,k,hP⟩:=hcut
      go_upto_if 81 with fail
      go_cut [] from 82 to 83 (fun Y=>∃x:Pv × Hd,Hid (x.1.name=s)∧Hid (PkL x∧x.1.charge=false)∧MZ w Y D M L N P fs ss ps fv sv pv∧Blk Y P 46 (pvCells x))
      case first=>
       cases b
       ·go_wp2
        go_meet
        case rel=>exact⟨x,HX,hx2,k,hP⟩
       ·go_wp2_with fail;refine (wTruth_any wc).mono ?_;rintro e w2 ⟨rfl,hb⟩;have hP':=hP.below hb hP.lt;have k':=k.below hb;have cP:=hP'.cells;have fP:=hP'.froz;unfold pvCells at cP;clear k hP hb;go_wp2
        go_meet
        case rel=>exact⟨({x.1 with ty:=⟨true,0,0⟩},x.2),HX,⟨⟨⟨.inr ⟨rfl,HX.out.trans (HBT.out trivial)⟩,fun h=>by have h2:=hx2.out.2;rw[show x.1.charge=true from h] at h2;cases h2⟩,hx2.out.1.2⟩,hx2.out.2⟩,k'.at ((((Onl.refl _ _).set 1 _).set 2 _).set 3 _),((hP'.set 1 _).set 2 _).set 3 _⟩
      case rest=>
       clear HX hx2 k hP x HBT;obtain⟨x,HX,hx2,k,hP⟩:=hcut;have hn:=k.nm hN0 hl6;rw[←HS.out] at hn
       go_upto_region 17 with fail
       go_cut [93] from 84 to 92 (fun bv Y=>(∃b,bv=.bool b∧Hid (b=true→s≠thr))∧Y=wc)
       case first=>
        by_cases he:s=⟨#[116,97,120]⟩
        ·subst he;go_wp2
         go_meet
         case rel=>exact⟨⟨_,rfl,fun _=>by decide⟩,rfl⟩
        ·have he1:=(st_ne he).1;have he2:=(st_ne he).2;by_cases hf:s=⟨#[116,111,116,97,108]⟩
         ·subst hf;go_wp2
          go_meet
          case rel=>exact⟨⟨_,rfl,fun _=>by decide⟩,rfl⟩
         ·have hf1:=(st_ne hf).1;have hf2:=(st_ne hf).2;go_wp2
          go_meet
          case rel=>exact⟨⟨_,rfl,fun h=>by cases h⟩,rfl⟩
       case rest=>
        obtain⟨⟨b2,rfl,HBC⟩,rfl⟩:=hcut;clear hn
        go_upto_if 93 with fail
        go_cut [] from 94 to 97 (fun Y=>∃x:Pv × Hd,Hid (x.1.name=s)∧Hid (PkL x)∧MZ w Y D M L N P fs ss ps fv sv pv∧Blk Y P 46 (pvCells x))
        case first=>
         cases b2
         ·go_wp2
          go_meet
          case rel=>exact⟨x,HX,hx2.out.1,k,hP⟩
         ·go_wp2_with fail;refine (k.next 3 (by omega) (by omega)).mono ?_;rintro e w2 ⟨r3,_,rfl,k',ho⟩;have hP':=ho.blk hP (by have:=k.hM;have:=k.hL;have:=k.hU;omega);have cP:=hP'.cells;have fP:=hP'.froz;unfold pvCells at cP;clear k hP ho;go_wp2
          go_meet
          case rel=>exact⟨({x.1 with charge:=decide (0<r3)},x.2),HX,⟨⟨hx2.out.1.1.1,fun _=>hx2.out.1.1.1.resolve_right (fun h=>HBC.out trivial (HX.out.symm.trans h.2))⟩,hx2.out.1.2⟩,k'.at ((Onl.refl _ _).set 5 _),hP'.set 5 _⟩
        case rest=>
         clear HX hx2 k hP x HBC;obtain⟨x,HX,hx2,k,hP⟩:=hcut
         go_upto_region 19 with fail
         go_cut [104] from 98 to 103 (fun bv Y=>(∃b,bv=.bool b∧Hid (i=3→b=true))∧MZ w Y D M L N P fs ss ps fv sv pv∧Blk Y P 46 (pvCells x))
         case first=>
          by_cases h3:i=3
          ·subst h3;go_wp2
           go_meet
           case rel=>exact⟨⟨true,rfl,fun _=>rfl⟩,k,hP⟩
          ·have h3b:((i:Int)==3)=false:=beq_eq_false_iff_ne.2 (by omega);have h3c:¬(i:Int)=3:=by omega
           go_wp2_with fail;refine (k.next 5 (by omega) (by omega)).mono ?_;rintro e w2 ⟨r3,_,rfl,k',ho⟩;have hP':=ho.blk hP (by have:=k.hM;have:=k.hL;have:=k.hU;omega);clear k hP ho;go_wp2
           go_meet
           case rel=>exact⟨⟨_,rfl,fun h=>absurd h h3⟩,k',hP'⟩
         case rest=>
          clear k hP;obtain⟨⟨b3,rfl,h3⟩,k,hP⟩:=hcut;have cP:=hP.cells;unfold pvCells at cP;have hc:=k.cells;cases b3
          ·go_wp2
           go_roundg (6-(i+1))
           case measure=>omega
           case rel=>exact⟨i+1,_,_,_,by omega,by go_num,k,hp.skip hl6 (fun e=>by have:=h3.out e;cases this),HPL⟩
          ·go_wp2_with (at_builtin;go_must (refine zPg jProv Tryz.underlying28 k.p (by have:=hp.len;omega) k.hB ?_));intro v' w2 ho hg;obtain⟨A1,c1,rfl,_⟩:=own_rd ho;have kL:=(TF.grown k.p hg).blk k.b (by decide);have cL:=kL.cells;have fL:=kL.froz;go_wp2
           go_roundg (6-(i+1))
           case measure=>omega
           case rel=>exact⟨i+1,_,_,_,by omega,by go_num,k.pushP x hx2.out.2.2 ho hg,hp.push hl6 x (HX.out.trans HS.out) hx2.out.1,fun y hy=>(List.mem_append.1 hy).elim (HPL.out y) (fun e=>by rw[List.mem_singleton.1 e];exact hx2.out.2.1)⟩
    ·obtain rfl:i=6:=by omega
     go_wp2_with fail;refine (h.next 8 (by omega) (by omega)).mono ?_;rintro e w1 ⟨kd,hkd,rfl,k,_⟩;clear h;obtain⟨f9,s9,p9,rfl,rfl,rfl,rf,rs,rp⟩:=k.rows;have hc:=k.cells;go_wp2_with fail;have HXS:=xSigs_any fs ss ps f9 s9 p9 w1 rf rs rp (by omega) (by omega) (by have:=hp.len;omega);rw[sg_eq] at HXS;have HN:=zH (nmG HFS.out HSC.out hp);have hj0:PkJ (sigsL (lwP fs ss ps)) fs ss ps 0:=⟨hp,rfl,fun _ _ h=>absurd h (Nat.not_lt_zero _),HPL.out⟩
     have HKD:=zH HN.out.key;have HOK:=zH HN.out.nok
     have hsl:(sigsL (lwP fs ss ps)).length≤1000:=by
      obtain⟨n1,n2,n3⟩:=HN.out.len;unfold sigsL;simp only[List.length_append,List.length_map]
      omega
     have hne:=hp.ne (by omega);have hpl6:=hp.len;clear HN HPL hp;generalize sigsL (lwP fs ss ps)=sg at*;refine HXS.mono ?_;rintro e w2 ⟨av,rfl,hso,hb⟩;have h:=k.below hb;have hso:w2.ownsRow (M+1) 83 5 av sg.length (sgs sg):=own_lower hso k.hB;clear k hc hb rf rs rp HXS;obtain⟨g,pc,hpv⟩:=h.pnn hne;rw[hpv] at h⊢;clear hpv p9;obtain⟨Aa,ca,rfl,_⟩:=own_rd hso;obtain⟨n0,hn0⟩:=zE ps.length;rw[←hn0] at h⊢;have hnp:n0≤6:=by omega
     clear hne hpl6;go_wp2
     go_loopg [11] n0 (fun q iv wr=>∃(j U:Nat) (ps:List (Pv × Hd)),j+q=n0∧iv=.int .i64 j∧MZ w wr D M L N U fs ss ps (.slice f9.a f9.n f9.c) (.slice s9.a s9.n s9.c) (.slice (some ⟨g,0,none⟩) n0 pc)∧PkJ sg fs ss ps j∧ps.length=n0∧wr.ownsRow (M+1) 83 5 (.slice Aa sg.length ca) sg.length (sgs sg))
     case atStart=>exact⟨0,_,ps,by omega,rfl,h,hj0,hn0.symm,hso⟩
     case round=>
      clear h hj0 hso hn0 U;obtain⟨j,U,ps,hj,rfl,h,hp,hpl,hso⟩:=hrel;by_cases hlt:j<n0
      ·have hjp:j<ps.length:=by omega
       have hc:=fun X (h:MZ w X D M L N U fs ss ps (.slice f9.a f9.n f9.c) (.slice s9.a s9.n s9.c) (.slice (some ⟨g,0,none⟩) n0 pc))=>And.intro (h.pc hjp) h.cells
       have HT:=zH (hp.k.ty _ (List.getElem_mem hjp));obtain⟨x,hx⟩:=zE ps[j];rw[←hx] at hc HT;have HX:=zH hx;clear hx;have j0:(0:Int)≤(j:Int):=by omega
       have j1:(j:Int)<(n0:Int):=by omega
       have hw:IntKind.i64.wrap ((j:Int)+1)=(j:Int)+1:=IntWalk.i64_in _ (by omega);have hl0:=hc _ h
       go_upto_region 26 with fail
       clear hl0;refine reS (fun X=>MZ w X D M L N U fs ss ps (.slice f9.a f9.n f9.c) (.slice s9.a s9.n s9.c) (.slice (some ⟨g,0,none⟩) n0 pc)) 26 (h.below (drewN_below _ _ 1)) (fun w3 h3 h=>?_);replace hso:=own_below hso h3
       iterate 12 refine reA ?_
       refine reZ 13 ?_;refine reZ 14 ?_;refine reZ 15 ?_;refine reZ 16 ?_;refine reZ 17 ?_;refine reZ 18 ?_;refine reZ 19 ?_;refine reZ 20 ?_;refine reZ 21 ?_;refine reC 12 (wbefore_any sg Aa sg.length ca _ _ w3 rfl hsl (own_hd hso).2.2.2) ?_;rintro e w4 ⟨v2,sg2,rfl,hl2,hsub,ho2,hb2⟩;replace hso:=own_below hso hb2;obtain⟨A2,c2,rfl,_⟩:=own_rd ho2;refine⟨_,rfl,h.below hb2,fun h=>?_⟩;clear hb2 h3;refine reC 22 (wlist_any xs hh (j+1) w.heap.size w4 (hr.below h.on) (fun r hm=>(hq r hm).below h.on)) ?_;rintro e w5 ⟨r2,rfl,hir,rfl⟩;refine⟨_,rfl,h,fun h=>?_⟩;clear hw;refine reC 23 (wMade8_any sg2 A2 sg2.length c2 r2 _ _ _ w4 rfl hl2 (own_hd ho2).2.2.2 (fun ad e=>by subst e;exact (ho2.lt _ rfl).2) ⟨hir.len,hir.cap,hir.max,hir.rd,hir.rng,fun hn ad e=>Nat.lt_of_lt_of_le (hir.lt hn ad e) h.on.size⟩ (fun s hs=>HOK.out s (hsub.mem hs)) (ty_k HT.out)) ?_;rintro e w6 ⟨v5,ns,rfl,hl5,ho5,hb5⟩;have HTE:Hid (TE sg x.1.ty ns∧ns.length≤60):=⟨TE.mono (sig_sub HKD.out hsub) hl5.1,by have:=hl5.2;omega⟩
       have HQ5:=zH (And.intro (own_lower ho5 h.hB) (fun k hk=>(ho5.lt k hk).2));clear hl5 hsub;replace hso:=own_below hso hb5;obtain⟨A5,c5,rfl,_⟩:=own_rd ho5;refine⟨_,rfl,h.below hb5,fun h=>?_⟩;refine reZ 24 ?_;refine reZ 25 ?_;have cg:=(h.pc hjp).2.2.2.2.1;have fg:=h.pf;refine reW 26 (fun h=>absurd rfl h) (fun _=>?_);refine reE ?_;have k:=h.up.putN hpl.symm j hjp ({x.1 with body:=ns},⟨A5,ns.length,c5⟩) HQ5.out.1 HQ5.out.2 4 [.slice A5 ns.length c5] (by simp) (by rw[←HX.out];rfl);replace hso:=own_put hso h ((Onl.refl _ _).set (j*12+4) (.slice A5 ns.length c5));have hp':PkJ sg fs ss (ps.set j ({x.1 with body:=ns},⟨A5,ns.length,c5⟩)) (j+1):=by rw[HX.out];exact hp.body hjp (by rw[←HX.out];exact HTE.out.1) HTE.out.2 _
       clear h cg fg hc ho5 hb5 ho2;go_wp2
       go_roundg (n0-(j+1))
       case measure=>omega
       case rel=>exact⟨j+1,_,_,by omega,by go_num,k,hp',by rw[List.length_set];exact hpl,hso⟩
      ·obtain rfl:n0=j:=by omega
       have hp:=(hpl ▸ hp:PkJ sg fs ss ps ps.length).all;obtain⟨nms,hnm⟩:=zE (ps.map fun x=>x.1.name);have HNM:Hid ((ps.map fun x=>x.1.name)=nms):=hnm.symm;clear hnm HKD HOK;have hn1:1≤n0:=by have:=hp.k.ne (by omega);cases ps with|nil=>exact absurd rfl this|cons a b=>simp at hpl;omega
       have hc:=h.cells;go_wp2_with fail;refine (wFind11_any ps f9 s9 ⟨some ⟨g,0,none⟩,n0,pc⟩ _ wr h.pr).mono ?_;rintro e w1 ⟨i1,o1,rfl,hi1,hb⟩;have k:=h.below hb;clear h hc hb hso;have hc:=k.cells;have HI1:Hid (o1=true→nms[i1]?=some ⟨#[99,114,101,100,105,116]⟩):=fun e=>by obtain⟨h1,h2⟩:=hi1 e;rw[←HNM.out,List.getElem?_map,List.getElem?_eq_getElem h1,Option.map_some,h2]
       go_wp2_with fail;refine (wFind11_any ps f9 s9 ⟨some ⟨g,0,none⟩,n0,pc⟩ _ w1 k.pr).mono ?_;rintro e w2 ⟨i2,o2,rfl,hi2,hb⟩;have h:=k.below hb;have HI2:Hid (o2=true→nms[i2]?=some ⟨#[114,101,108,105,101,102]⟩):=fun e=>by obtain⟨h1,h2⟩:=hi2 e;rw[←HNM.out,List.getElem?_map,List.getElem?_eq_getElem h1,Option.map_some,h2]
       clear k hc hb hi1 hi2
       go_upto_region 29 with fail
       go_cut [169] from 158 to 168 (fun bv Y=>(∃b,bv=.bool b∧Hid (b=true→o1=true∧o2=true))∧MZ w Y D M L N U fs ss ps (.slice f9.a f9.n f9.c) (.slice s9.a s9.n s9.c) (.slice (some ⟨g,0,none⟩) n0 pc))
       case first=>
        by_cases ha:1≤kd
        ·by_cases hb:kd≤3
         all_goals
          cases o1<;>cases o2
          all_goals
           go_wp2
           go_meet
           case rel=>exact⟨⟨_,rfl,by intro h;first|(cases h;done)|exact⟨rfl,rfl⟩|exact⟨trivial,trivial⟩⟩,h⟩
        ·go_wp2
         go_meet
         case rel=>exact⟨⟨_,rfl,fun h=>by cases h⟩,h⟩
       case rest=>
        clear h;obtain⟨⟨b,rfl,hbo⟩,h⟩:=hcut
        go_upto_if 169 with fail
        go_cut [] from 170 to 191 (fun Y=>∃U ps,MZ w Y D M L N U fs ss ps (.slice f9.a f9.n f9.c) (.slice s9.a s9.n s9.c) (.slice (some ⟨g,0,none⟩) n0 pc)∧PG sg fs ss ps∧ps.length=n0∧Hid ((ps.map fun x=>x.1.name)=nms))
        case first=>
         cases b
         ·go_wp2
          go_meet
          case rel=>exact⟨_,ps,h,hp,hpl,HNM⟩
         ·obtain⟨rfl,rfl⟩:=hbo.out rfl
          go_upto_region 30 with fail
          obtain⟨hjp,HTY,_⟩:=hp.sig HFS.out HSC.out (by rw[HNM.out];exact HI1.out rfl) (by decide);obtain⟨_,_,HSO⟩:=hp.sig HFS.out HSC.out (by rw[HNM.out];exact HI2.out rfl) (by decide);have HWG:=zH (hp.wage HFS.out HSC.out);replace HSO:=zH HSO;replace HTY:=zH HTY;have hc:=fun X (h:MZ w X D M L N U fs ss ps (.slice f9.a f9.n f9.c) (.slice s9.a s9.n s9.c) (.slice (some ⟨g,0,none⟩) n0 pc))=>And.intro (h.pc hjp) h.cells
          have jq:(i1:Int)<(n0:Int):=by omega
          have jz:(0:Int)≤(i1:Int):=by omega
          obtain⟨x,hx⟩:=zE ps[i1];rw[←hx] at hc HTY;have HX:=zH hx;clear hx;refine reS (fun X=>MZ w X D M L N U fs ss ps (.slice f9.a f9.n f9.c) (.slice s9.a s9.n s9.c) (.slice (some ⟨g,0,none⟩) n0 pc)) 11 (h.below (drewN_below _ _ 1)) (fun w3 _ h=>?_);have HMB:=zH h.hB
          iterate 9 refine reA ?_
          refine reC 9 (wcircle_any sg D (D+1) x _ w3 h.ds h.hDu (by decide) HSO.out HWG.out) ?_;rintro e w4 ⟨y,rfl,hy1,hy2,hoy,hd1,ho1⟩;refine⟨.agg #[.string y.1.name,.bool y.1.ty.truth,.int .i64 y.1.ty.money,.int .i64 y.1.ty.days,.slice y.2.a y.2.n y.2.c,.bool y.1.charge,.bool y.1.step.neg,.string y.1.step.num,.string y.1.step.den,.bool y.1.cap.neg,.string y.1.cap.num,.string y.1.cap.den],rfl,h.onl hd1 ho1,fun h=>?_⟩;have HQY:=zH (And.intro (own_lower hoy HMB.out) (fun k hk=>(hoy.lt k hk).2));have HYT:Hid (y.1.ty=tCash):=hy1.t.trans HTY.out;have HPV:Hid (PvG sg y.1):=⟨HYT.out ▸ hy1.b,hy1.l,fun _=>HYT.out,cap_of hy2 HYT.out⟩
          have HPS:Hid (PvS y.1 x.1):=⟨hy1.n,hy1.t,hy1.c⟩
          clear hy1 hy2 hoy hd1 ho1 hc;refine reZ 10 ?_;have cg:=h.pc hjp;have fg:=h.pf;refine reW 11 (fun h=>absurd rfl h) (fun _=>?_);refine reE ?_;have k:=h.up.putN hpl.symm i1 hjp y HQY.out.1 HQY.out.2 0 (pvCells y) (by simp[pvCells]) rfl;have hp':=hp.set i1 hjp y (by rw[←HX.out];exact HPS.out) HPV.out;have hpl':(ps.set i1 y).length=n0:=by rw[List.length_set];exact hpl
          have HNM':Hid (((ps.set i1 y).map fun x=>x.1.name)=nms):=by show _=_;rw[map_set_same (fun x:Pv × Hd=>x.1.name) ps i1 hjp y (by rw[←HX.out];exact HPS.out.1)];exact HNM.out
          clear h cg fg hp hpl HNM HPV HPS HYT HTY HQY HMB HSO HWG;generalize hY:World.setCell _ _ _=Y;rw[show w4.setCells g (i1*12+0) (pvCells y)=Y from hY] at k;clear hY;generalize w4.heap.size=U at k;have h:=k;have hp:=hp';obtain⟨ps,hps⟩:=zE (ps.set i1 y);rw[←hps] at h hp hpl' HNM';have hpl:=hpl';have HNM:=HNM'
          go_upto_region 31 with fail
          clear hps k hp' hpl' HX hjp HNM';obtain⟨hjp,HTY,_⟩:=hp.sig HFS.out HSC.out (by rw[HNM.out];exact HI2.out rfl) (by decide);obtain⟨_,_,HSO⟩:=hp.sig HFS.out HSC.out (by rw[HNM.out];exact HI1.out rfl) (by decide);have HWG:=zH (hp.wage HFS.out HSC.out);replace HSO:=zH HSO;replace HTY:=zH HTY;have hc:=fun X (h:MZ w X D M L N U fs ss ps (.slice f9.a f9.n f9.c) (.slice s9.a s9.n s9.c) (.slice (some ⟨g,0,none⟩) n0 pc))=>And.intro (h.pc hjp) h.cells
          have jq:(i2:Int)<(n0:Int):=by omega
          have jz:(0:Int)≤(i2:Int):=by omega
          obtain⟨x,hx⟩:=zE ps[i2];rw[←hx] at hc HTY;have HX:=zH hx;clear hx;refine reS (fun X=>MZ w X D M L N U fs ss ps (.slice f9.a f9.n f9.c) (.slice s9.a s9.n s9.c) (.slice (some ⟨g,0,none⟩) n0 pc)) 11 (h.below (drewN_below _ _ 1)) (fun w3 _ h=>?_);have HMB:=zH h.hB
          iterate 9 refine reA ?_
          refine reC 9 (wcircle_any sg D (D+1) x _ w3 h.ds h.hDu (by decide) HSO.out HWG.out) ?_;rintro e w4 ⟨y,rfl,hy1,hy2,hoy,hd1,ho1⟩;refine⟨.agg #[.string y.1.name,.bool y.1.ty.truth,.int .i64 y.1.ty.money,.int .i64 y.1.ty.days,.slice y.2.a y.2.n y.2.c,.bool y.1.charge,.bool y.1.step.neg,.string y.1.step.num,.string y.1.step.den,.bool y.1.cap.neg,.string y.1.cap.num,.string y.1.cap.den],rfl,h.onl hd1 ho1,fun h=>?_⟩;have HQY:=zH (And.intro (own_lower hoy HMB.out) (fun k hk=>(hoy.lt k hk).2));have HYT:Hid (y.1.ty=tCash):=hy1.t.trans HTY.out;have HPV:Hid (PvG sg y.1):=⟨HYT.out ▸ hy1.b,hy1.l,fun _=>HYT.out,cap_of hy2 HYT.out⟩
          have HPS:Hid (PvS y.1 x.1):=⟨hy1.n,hy1.t,hy1.c⟩
          clear hy1 hy2 hoy hd1 ho1 hc;refine reZ 10 ?_;have cg:=h.pc hjp;have fg:=h.pf;refine reW 11 (fun h=>absurd rfl h) (fun _=>?_);refine reE ?_;have k:=h.up.putN hpl.symm i2 hjp y HQY.out.1 HQY.out.2 0 (pvCells y) (by simp[pvCells]) rfl;have hp':=hp.set i2 hjp y (by rw[←HX.out];exact HPS.out) HPV.out;have hpl':(ps.set i2 y).length=n0:=by rw[List.length_set];exact hpl
          have HNM':Hid (((ps.set i2 y).map fun x=>x.1.name)=nms):=by show _=_;rw[map_set_same (fun x:Pv × Hd=>x.1.name) ps i2 hjp y (by rw[←HX.out];exact HPS.out.1)];exact HNM.out
          clear h cg fg hp hpl HNM HPV HPS HYT HTY HQY HMB HSO HWG;go_wp2
          go_meet
          case rel=>exact⟨_,_,k,hp',hpl',HNM'⟩
        case rest=>
         clear h hp hpl HI2 hbo HNM;obtain⟨U,ps,h,hp,hpl,HNM⟩:=hcut
         go_upto_region 32 with fail
         go_cut [196] from 192 to 195 (fun bv Y=>(∃b,bv=.bool b∧Hid (b=true→o1=true))∧MZ w Y D M L N U fs ss ps (.slice f9.a f9.n f9.c) (.slice s9.a s9.n s9.c) (.slice (some ⟨g,0,none⟩) n0 pc))
         case first=>
          by_cases ha:kd=4
          ·subst ha;cases o1
           all_goals
            go_wp2
            go_meet
            case rel=>exact⟨⟨_,rfl,by intro h;first|(cases h;done)|rfl|trivial⟩,h⟩
          ·have ha1:((kd:Int)==4)=false:=beq_eq_false_iff_ne.2 (by omega);have ha2:¬(kd:Int)=4:=by omega
           go_wp2
           go_meet
           case rel=>exact⟨⟨_,rfl,fun h=>by cases h⟩,h⟩
         case rest=>
          clear h;obtain⟨⟨b,rfl,hbo⟩,h⟩:=hcut
          go_upto_if 196 with fail
          go_cut [] from 197 to 207 (fun Y=>∃U ps,MZ w Y D M L N U fs ss ps (.slice f9.a f9.n f9.c) (.slice s9.a s9.n s9.c) (.slice (some ⟨g,0,none⟩) n0 pc)∧PG sg fs ss ps∧ps.length=n0∧Hid ((ps.map fun x=>x.1.name)=nms))
          case first=>
           cases b
           ·go_wp2
            go_meet
            case rel=>exact⟨_,ps,h,hp,hpl,HNM⟩
           ·obtain rfl:=hbo.out rfl
            go_upto_region 33 with fail
            obtain⟨hjp,HTY,_⟩:=hp.sig HFS.out HSC.out (by rw[HNM.out];exact HI1.out rfl) (by decide);obtain⟨_,_,HSO⟩:=hp.sig HFS.out HSC.out (by rw[HNM.out];exact HI1.out rfl) (by decide);have HWG:=zH (hp.wage HFS.out HSC.out);replace HSO:=zH HSO;replace HTY:=zH HTY;have hc:=fun X (h:MZ w X D M L N U fs ss ps (.slice f9.a f9.n f9.c) (.slice s9.a s9.n s9.c) (.slice (some ⟨g,0,none⟩) n0 pc))=>And.intro (h.pc hjp) h.cells
            have jq:(i1:Int)<(n0:Int):=by omega
            have jz:(0:Int)≤(i1:Int):=by omega
            obtain⟨x,hx⟩:=zE ps[i1];rw[←hx] at hc HTY;have HX:=zH hx;clear hx;refine reS (fun X=>MZ w X D M L N U fs ss ps (.slice f9.a f9.n f9.c) (.slice s9.a s9.n s9.c) (.slice (some ⟨g,0,none⟩) n0 pc)) 11 (h.below (drewN_below _ _ 1)) (fun w3 _ h=>?_);have HMB:=zH h.hB
            iterate 9 refine reA ?_
            refine reC 9 (wcircle_any sg D (D+1) x _ w3 h.ds h.hDu (by decide) HSO.out HWG.out) ?_;rintro e w4 ⟨y,rfl,hy1,hy2,hoy,hd1,ho1⟩;refine⟨.agg #[.string y.1.name,.bool y.1.ty.truth,.int .i64 y.1.ty.money,.int .i64 y.1.ty.days,.slice y.2.a y.2.n y.2.c,.bool y.1.charge,.bool y.1.step.neg,.string y.1.step.num,.string y.1.step.den,.bool y.1.cap.neg,.string y.1.cap.num,.string y.1.cap.den],rfl,h.onl hd1 ho1,fun h=>?_⟩;have HQY:=zH (And.intro (own_lower hoy HMB.out) (fun k hk=>(hoy.lt k hk).2));have HYT:Hid (y.1.ty=tCash):=hy1.t.trans HTY.out;have HPV:Hid (PvG sg y.1):=⟨HYT.out ▸ hy1.b,hy1.l,fun _=>HYT.out,cap_of hy2 HYT.out⟩
            have HPS:Hid (PvS y.1 x.1):=⟨hy1.n,hy1.t,hy1.c⟩
            clear hy1 hy2 hoy hd1 ho1 hc;refine reZ 10 ?_;have cg:=h.pc hjp;have fg:=h.pf;refine reW 11 (fun h=>absurd rfl h) (fun _=>?_);refine reE ?_;have k:=h.up.putN hpl.symm i1 hjp y HQY.out.1 HQY.out.2 0 (pvCells y) (by simp[pvCells]) rfl;have hp':=hp.set i1 hjp y (by rw[←HX.out];exact HPS.out) HPV.out;have hpl':(ps.set i1 y).length=n0:=by rw[List.length_set];exact hpl
            have HNM':Hid (((ps.set i1 y).map fun x=>x.1.name)=nms):=by show _=_;rw[map_set_same (fun x:Pv × Hd=>x.1.name) ps i1 hjp y (by rw[←HX.out];exact HPS.out.1)];exact HNM.out
            clear h cg fg hp hpl HNM HPV HPS HYT HTY HQY HMB HSO HWG;go_wp2
            go_meet
            case rel=>exact⟨_,_,k,hp',hpl',HNM'⟩
          case rest=>
           clear h hp hpl HI1 hbo HNM;obtain⟨U,ps,h,hp,hpl,HNM⟩:=hcut
           go_upto_if 209 with fail
           go_cut [] from 209 to 237 (fun Y=>∃U ps,MZ w Y D M L N U fs ss ps (.slice f9.a f9.n f9.c) (.slice s9.a s9.n s9.c) (.slice (some ⟨g,0,none⟩) n0 pc)∧PG sg fs ss ps∧ps.length=n0)
           case first=>
            clear HNM;by_cases ha:kd=5
            ·subst ha;have hc:=h.cells;go_wp2_with fail;refine (h.next (n0:Int) (by omega) (by omega)).mono ?_;rintro e w1 ⟨q,hq1,rfl,k,_⟩;have hjp:q<ps.length:=by omega
             have q0:(0:Int)≤(q:Int):=by omega
             clear h hc;have hc:=And.intro (k.pc hjp) k.cells;cases htr:ps[q].1.ty.truth
             ·rw[htr] at hc
              go_upto_region 37 with fail
              clear hc;have HTC:Hid (ps[q].1.ty=tCash):=(hp.k.ty _ (List.getElem_mem hjp)).resolve_right (fun h9=>by rw[h9.1] at htr;cases htr);have hc:=fun X (h:MZ w X D M L N U fs ss ps (.slice f9.a f9.n f9.c) (.slice s9.a s9.n s9.c) (.slice (some ⟨g,0,none⟩) n0 pc))=>h.cells
              refine reS (fun X=>MZ w X D M L N U fs ss ps (.slice f9.a f9.n f9.c) (.slice s9.a s9.n s9.c) (.slice (some ⟨g,0,none⟩) n0 pc)) 6 (k.below (drewN_below _ _ 1)) (fun w3 _ h=>?_)
              iterate 3 refine reA ?_
              refine reC 3 (wfrac_any 1 2 w3 (by omega) (by omega) (by omega) (by omega)) ?_;rintro e w4 ⟨rfl,hb⟩;refine⟨_,rfl,h.below hb,fun h=>?_⟩;have HCH:Hid (∀k:Fin 100,capB (frR 1 2) (ofI (((k:Nat):Int)+1))=true):=capB_half;generalize frR 1 2=va at*;obtain⟨an,au,ad⟩:=va;unfold Ra.v;clear hb hc k;refine reZ 4 ?_;refine reZ 5 ?_;have cg:=h.pc hjp;have fg:=h.pf;refine reW 6 (fun h=>absurd rfl h) (fun _=>?_);refine reE ?_;obtain⟨a,ha⟩:=zE (({ps[q].1 with step:=⟨an,au,ad⟩},ps[q].2):Pv × Hd);have HA:=zH ha;have k:=h.putN hpl.symm q hjp a (by have e:=h.qp _ (List.getElem_mem hjp);rw[ha];exact e) (by have e:=h.qu (List.getElem_mem hjp);rw[ha];exact e) 6 [.bool an,.string au,.string ad] (by simp) (by rw[ha];rfl);have hpl':(ps.set q a).length=n0:=by rw[List.length_set];exact hpl
              clear h cg fg ha;have hjp2:q<(ps.set q a).length:=by omega
              have HGA:Hid ((ps.set q a)[q]'hjp2=a):=List.getElem_set_self _;obtain⟨ps2,hps⟩:=zE (ps.set q a);have hjp3:q<ps2.length:=by rw[hps];exact hjp2
              replace HGA:Hid (ps2[q]'hjp3=a):=by subst hps;exact HGA
              rw[←hps] at k hpl';have HPS:=zH hps;clear hps hjp2
              go_upto_region 38 with fail
              have hc:=fun X (h:MZ w X D M L N U fs ss ps2 (.slice f9.a f9.n f9.c) (.slice s9.a s9.n s9.c) (.slice (some ⟨g,0,none⟩) n0 pc))=>h.cells
              refine reS (fun X=>MZ w X D M L N U fs ss ps2 (.slice f9.a f9.n f9.c) (.slice s9.a s9.n s9.c) (.slice (some ⟨g,0,none⟩) n0 pc)) 9 (k.below (drewN_below _ _ 1)) (fun w3 _ h=>?_)
              iterate 4 refine reA ?_
              refine reC 4 (h.next 100 (by omega) (by omega)) ?_;rintro e w5 ⟨r9,hr9,rfl,h,_⟩;refine⟨_,rfl,h,fun h=>?_⟩;have hw:IntKind.i64.wrap (1+(r9:Int))=1+(r9:Int):=IntWalk.i64_in _ (by omega);refine reZ 5 ?_;refine reC 6 (sOf_any (1+(r9:Int)) w5 (by omega) (by omega)) ?_;rintro e w6 ⟨rfl,hb⟩;refine⟨_,rfl,h.below hb,fun h=>?_⟩;have HCB:Hid (capB ⟨an,au,ad⟩ (ofI (1+(r9:Int)))=true):=by show _=_;rw[Int.add_comm];exact HCH.out ⟨r9,by omega⟩
              generalize ofI (1+(r9:Int))=vb at*;obtain⟨bn,bu,bd⟩:=vb;unfold Ra.v;clear hw hr9 hb hc k HCH;refine reZ 7 ?_;refine reZ 8 ?_;have cg:=h.pc hjp3;have fg:=h.pf;refine reW 9 (fun h=>absurd rfl h) (fun _=>?_);refine reE ?_;have k:=h.putN hpl'.symm q hjp3 ({a.1 with cap:=⟨bn,bu,bd⟩},a.2) (by have e:=h.qp _ (List.getElem_mem hjp3);rw[HGA.out] at e;exact e) (by have e:=h.qu (List.getElem_mem hjp3);rw[HGA.out] at e;exact e) 9 [.bool bn,.string bu,.string bd] (by simp) (by rw[HGA.out];rfl)
              have hp2:PG sg fs ss (ps2.set q ({a.1 with cap:=⟨bn,bu,bd⟩},a.2)):=by
               have g:=hp.g _ (List.getElem_mem hjp);rw[HPS.out,List.set_set,HA.out];exact hp.set q hjp _ ⟨rfl,rfl,rfl⟩ ⟨g.b,g.n,g.c,cap_of HCB.out HTC.out⟩
              clear h cg fg;go_wp2
              go_meet
              case rel=>exact⟨_,_,k,hp2,by rw[List.length_set];exact hpl'⟩
             ·rw[htr] at hc;go_wp2
              go_meet
              case rel=>exact⟨_,_,k,hp,hpl⟩
            ·have ha1:((kd:Int)==5)=false:=beq_eq_false_iff_ne.2 (by omega);have ha2:¬(kd:Int)=5:=by omega
             go_wp2
             go_meet
             case rel=>exact⟨_,ps,h,hp,hpl⟩
           case rest=>
            clear h hp hpl HNM;obtain⟨U,ps,h,hp,hpl⟩:=hcut;have hc:=h.cells;have cr:=h.r.cells;have fr:=h.r.froz;have on:Onl w.heap.size wc (((wc.setCell ⟨w.heap.size,0,none⟩ (.slice f9.a f9.n f9.c)).setCell ⟨w.heap.size,1,none⟩ (.slice s9.a s9.n s9.c)).setCell ⟨w.heap.size,2,none⟩ (.slice (some ⟨g,0,none⟩) n0 pc)):=(((Onl.refl _ _).set 0 _).set 1 _).set 2 _;have hlt:w.heap.size<M+1:=by have:=h.hD;have:=h.hM;omega
            have hlo:=((MZ.lo (f:=f9) (s:=s9) (p:=⟨some ⟨g,0,none⟩,n0,pc⟩) h).onl on hlt).low (Nat.le_of_lt hlt);have hfin:=h.on.trans (on.below (Nat.le_refl _) h.on.size);have HMD:=zH (hp.md HFS.out HSC.out);clear on hlt hp hpl;go_wp2;exact bodyPost_ret (v:=lawV f9 s9 ⟨some ⟨g,0,none⟩,n0,pc⟩) (by simp[results,Tryz.results32,go_sem,cr,lawV]) rfl ⟨_,ss,ps,f9,s9,⟨some ⟨g,0,none⟩,n0,pc⟩,rfl,HMD.out,hlo,hfin⟩
end Go.Proofs.YtkgiaegmkncljaaGreatDoor
