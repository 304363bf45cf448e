/- A part of the proof: Wr Wj Ws Ug Uh. -/
import Derived.Deep.Cut
import Derived.Deep.CutRange
import Derived.Test.YtkgiaegmkncljaaGreatDoorS01
import Derived.Test.YtkgiaegmkncljaaGreatDoorS26
import Derived.Test.YtkgiaegmkncljaaGreatDoorS32
import Derived.Test.YtkgiaegmkncljaaGreatDoorS33
import Derived.Test.YtkgiaegmkncljaaGreatDoorS34
import Derived.Test.YtkgiaegmkncljaaGreatDoorS37
import Derived.Test.YtkgiaegmkncljaaGreatDoorS38
set_option linter.unusedVariables false
set_option linter.unusedSimpArgs false
set_option maxRecDepth 100000
set_option maxHeartbeats 40000000
namespace Go.Proofs.YtkgiaegmkncljaaGreatDoor
open Go.RowKit
section
variable {W X:World} {B:Nat} {l:Lw} {ss:List (Sc × Hd)} {ps:List (Pv × Hd)} {f s p:Hd}
theorem LO.hd (h:LO W B l ss ps f s p) (hne:l.provs≠[]):∃g,p.a=some ⟨g,0,none⟩∧p.n=ps.length∧B≤g∧g<W.heap.size:=by
 have h0:ps≠[]:=fun e=>hne (by rw[←h.pl,e];rfl)
 rcases h.p.2 with⟨_,h2⟩|⟨g,cap,cur,h1,_⟩
 ·exact absurd (List.length_eq_zero_iff.1 h2) h0
 ·injection h1 with h1 h2 h3;have:=h.p.lt g (by rw[h1];rfl);exact⟨g,h1,h2,this.1,this.2⟩
variable {g n c:Nat}
theorem LO.put (h:LO W B l ss ps f s ⟨some ⟨g,0,none⟩,n,c⟩) (k:Nat) (hk:k<ps.length) (z:Hd) (ns:List Nd) (hq:W.ownsRow B 59 5 (.slice z.a z.n z.c) ns.length (ns.flatMap Nd.cells)):
  LO (W.setCell ⟨g,k*12+4,none⟩ (.slice z.a z.n z.c)) B (swapL l k ps[k].1 ns) ss (ps.set k ({ps[k].1 with body:=ns},z)) f s ⟨some ⟨g,0,none⟩,n,c⟩∧Onl g W (W.setCell ⟨g,k*12+4,none⟩ (.slice z.a z.n z.c))∧
  ∀{b:Nat} {t:TypeId} {cs:List Value},Blk W b t cs→t≠46→Blk (W.setCell ⟨g,k*12+4,none⟩ (.slice z.a z.n z.c)) b t cs:=by
 have hn:n=ps.length:=(own_hd h.p).1;have hp:W.ownsRow B 46 12 (.slice (some ⟨g,0,none⟩) n c) n (ps.flatMap pvCells):=by have:=h.p;simp only at this;rw[hn];rw[hn] at this;exact this
 obtain⟨cur,hcur⟩:∃cur,W.heap[g]?=some (Obj.cells cur 46):=by
  rcases hp.2 with⟨h1,_⟩|⟨g',cap,cur,h1,_,h3,_⟩
  ·cases h1
  ·injection h1 with h1;injection h1 with h1;injection h1 with h1;subst h1;exact⟨cur,h3⟩
 have on:Onl g W (W.setCell ⟨g,k*12+4,none⟩ (.slice z.a z.n z.c)):=(Onl.refl _ _).set _ _;have ow:=putW_own [.slice z.a z.n z.c] W _ (k*12+4) hp;rw[putW_row ({ps[k].1 with body:=ns},z) 4 [.slice z.a z.n z.c] (by simp) ps k hk rfl] at ow
 have ap:∀{e:TypeId} {y m:Nat} {v:Value} {xs:List Value},W.ownsRow B e y v m xs→e≠46→(W.setCell ⟨g,k*12+4,none⟩ (.slice z.a z.n z.c)).ownsRow B e y v m xs:=by
  intro e y m v xs hv he;refine own_kp hv (fun j ej hj=>on.block j (hv.lt j ej).2 (fun e2=>?_));subst e2;rcases own_apart hv hp he with h1|h1
  ·rw[h1] at ej;cases ej
  ·exact h1 ej
 refine⟨⟨ap h.f (by decide),ap h.s (by decide),by rw[List.length_set];rw[←hn];exact ow,h.sl,?_,fun y hy=>ap (h.qs y hy) (by decide),fun y hy=>ap ((List.mem_or_eq_of_mem_set hy).elim (h.qp y) (fun e=>e ▸ hq)) (by decide)⟩,on,fun hb ht=>?_⟩
 ·show (ps.set k _).map Prod.fst=l.provs.set k _;rw[List.map_set,h.pl]
 ·refine on.blk hb (fun e=>?_);subst e;have hb:W.heap[_]?=_:=hb;rw[hcur] at hb;injection hb with hb;injection hb with _ hb _;exact ht hb.symm
theorem LO.pc (h:LO W B l ss ps f s ⟨some ⟨g,0,none⟩,n,c⟩) {j:Nat} (hj:j<ps.length):W.cell? ⟨g,j*12,none⟩=some (.string ps[j].1.name)∧W.cell? ⟨g,j*12+1,none⟩=some (.bool ps[j].1.ty.truth)∧W.cell? ⟨g,j*12+2,none⟩=some (.int .i64 ps[j].1.ty.money)∧W.cell? ⟨g,j*12+3,none⟩=some (.int .i64 ps[j].1.ty.days)∧W.cell? ⟨g,j*12+4,none⟩=some (.slice ps[j].2.a ps[j].2.n ps[j].2.c)∧W.cell? ⟨g,j*12+5,none⟩=some (.bool ps[j].1.charge)∧
  W.cell? ⟨g,j*12+6,none⟩=some (.bool ps[j].1.step.neg)∧W.cell? ⟨g,j*12+7,none⟩=some (.string ps[j].1.step.num)∧W.cell? ⟨g,j*12+8,none⟩=some (.string ps[j].1.step.den)∧W.cell? ⟨g,j*12+9,none⟩=some (.bool ps[j].1.cap.neg)∧W.cell? ⟨g,j*12+10,none⟩=some (.string ps[j].1.cap.num)∧W.cell? ⟨g,j*12+11,none⟩=some (.string ps[j].1.cap.den):=pc_of h.p rfl hj
theorem LO.len (h:LO W B l ss ps f s p):ps.length=l.provs.length:=by rw[←h.pl,List.length_map]
theorem LO.get (h:LO W B l ss ps f s p) {k:Nat} (hk:k<ps.length):ps[k].1=l.provs[k]'(by rw[←h.len];exact hk):=by
 have e:=congrArg (fun x=>x[k]?) h.pl;simp only[List.getElem?_map,List.getElem?_eq_getElem hk,Option.map_some] at e;rw[List.getElem?_eq_getElem (by rw[←h.len];exact hk)] at e;exact Option.some.inj e
structure GS (w W:World) (B C:Nat) (l:Lw) (ss:List (Sc × Hd)) (ps:List (Pv × Hd)) (f s p:Hd):Prop where
 b:Blk W C 30 [.slice f.a f.n f.c,.slice s.a s.n s.c,.slice p.a p.n p.c]
 o:LO W B l ss ps f s p
 on:Below w.heap.size w W
 hB:w.heap.size≤B
 hC:B≤C
variable {w:World} {C:Nat}
theorem GS.below (h:GS w W B C l ss ps f s p) (hb:Below W.heap.size W X):GS w X B C l ss ps f s p:=⟨h.b.below hb h.b.lt,h.o.below hb,bstep h.on hb,h.hB,h.hC⟩
theorem GS.cells (h:GS w W B C l ss ps f s p):W.cell? ⟨C,0,none⟩=some (.slice f.a f.n f.c)∧W.cell? ⟨C,1,none⟩=some (.slice s.a s.n s.c)∧W.cell? ⟨C,2,none⟩=some (.slice p.a p.n p.c):=⟨h.b.cells 0,h.b.cells 1,h.b.cells 2⟩
theorem GS.at (h:GS w W B C l ss ps f s p):LawAt W l ss ps f s p:=h.o.at
theorem GS.setS (h:GS w W B C l ss ps f s p) (z:Hd) (xs:List (Sc × Hd)) (hx:∀x∈xs,x∈ss) (ho:W.ownsRow B 56 4 (.slice z.a z.n z.c) xs.length (xs.flatMap scCells)):GS w (W.setCell ⟨C,1,none⟩ (.slice z.a z.n z.c)) B C ⟨l.facts,xs.map Prod.fst,l.provs⟩ xs ps f z p:=
 ⟨h.b.set 1 _,⟨own_setT h.b h.o.f (by decide) 1 _,own_setT h.b ho (by decide) 1 _,own_setT h.b h.o.p (by decide) 1 _,rfl,h.o.pl,fun x hx'=>own_setT h.b (h.o.qs x (hx x hx')) (by decide) 1 _,fun x hx=>own_setT h.b (h.o.qp x hx) (by decide) 1 _⟩,h.on.setCell (p:=⟨C,1,none⟩) (Nat.le_trans h.hB h.hC) _,h.hB,h.hC⟩
theorem IR.lower {u v:Nat} {r:List Int × Hd} (h:IR W u r) (hv:u≤v):IR W v r:=⟨h.len,h.cap,h.max,h.rd,h.rng,fun hn ad e=>Nat.lt_of_lt_of_le (h.lt hn ad e) hv⟩
theorem IR.cut {u m:Nat} {r:List Int × Hd} (h:IR W u r) (hm:m≤r.2.n):IR W u (r.1.take m,⟨r.2.a,m,r.2.c⟩):=by
 have h1:=h.len;have h2:=h.cap;refine⟨by show m=(r.1.take m).length;rw[List.length_take];omega,by show m≤r.2.c;omega,h.max,?_,fun x hx=>h.rng x (List.mem_of_mem_take hx),fun hn ad e=>h.lt (fun e0=>hn (by show r.1.take m=[];rw[e0,List.take_nil])) ad e⟩;have:=h.rd.take m;unfold zvs at this⊢;rw[List.map_take];exact this
end
theorem jInts:(Tryz.prog.info? 23).map (fun i=>(i.zero,i.size,i.bytes))=some (some (.slice none 0 0),1,24):=by kernel_rfl
def CutRet (w:World) (e:Ending) (w':World):Prop:=∃(ys:List (List Int × Hd)) (h:Hd),e=.returned (.slice h.a h.n h.c)∧RowAt w' rowV ys h∧(∀r∈ys,IR w w.heap.size r)∧Below w.heap.size w w'
theorem wcut_any (xs:List (List Int × Hd)) (hh:Hd) (w:World) (hr:RowAt w rowV xs hh) (hq:∀r∈xs,IR w w.heap.size r):
  Calls Tryz.prog 33 #[.slice hh.a hh.n hh.c] w (CutRet w):=by
 obtain⟨A,n,c⟩:=hh;have hm:n≤9223372036854775807:=by have:=hr.cap;have:=hr.max;unfold maxLen at this;simp only at*;omega
 go_enter Tryz.func33,Tryz.ntmps33;go_wp2
 go_loopg [3,4] 8 (fun g ov iv wr=>∃(j:Nat) (ys:List (List Int × Hd)),j+g=8∧iv=.int .i64 j∧wr.ownsRow w.heap.size 23 1 ov ys.length (ys.flatMap rowV)∧ys.length=j∧Hid (∀r∈ys,IR w w.heap.size r)∧Below w.heap.size w wr)
 case atStart=>exact⟨0,[],by omega,rfl,World.ownsRow_nil _ _ _ _,rfl,fun _ h=>(by cases h),Below.refl _ _⟩
 case round=>
  obtain⟨j,ys,hj,rfl,ho,hl,hy,hb⟩:=hrel;by_cases hlt:j<n
  ·by_cases h8:j<8
   ·obtain⟨b,off,rfl,_,hx,hc0⟩:=hr.at 1 (fun _=>rfl) (by omega) hlt;have HI:=zH (hq _ (List.getElem_mem hx));obtain⟨x,hxe⟩:=zE xs[j];rw[←hxe] at hc0 HI;clear hxe;have hc:=fun (X:World) (hX:Below w.heap.size w X)=>show X.cell? ⟨b,off+j,none⟩=some (Value.slice x.2.a x.2.n x.2.c) from by have:=hc0 X hX 0 _ rfl;simpa using this
    clear hc0;obtain⟨l,⟨a,k,cc⟩⟩:=x;simp only at hc;have hk:=HI.out.cap;have hk2:=HI.out.max;unfold maxLen at hk2;simp only at hk hk2;have j0:(0:Int)≤(j:Int):=by omega
    have j1:(j:Int)<(n:Int):=by omega
    obtain⟨m,hm0,hm1⟩:∃m:Nat,min (k:Int) 60=(m:Int)∧m≤k:=⟨min k 60,by omega,by omega⟩
    have hm2:(m:Int).toNat=m:=by omega
    have m0:(0:Int)≤(m:Int):=by omega
    have m1:(m:Int)≤(cc:Int):=by omega
    go_upto_region 5 with fail
    refine reS (Below w.heap.size w) 99 hb.drew (fun w1 h1 hS=>?_);replace ho:=own_below ho h1
    iterate 12 refine reA ?_
    refine reV 12 (fun _=>hS.alloc hS.size _) (fun _=>?_);refine reP 13 jInts Tryz.underlying22 ho (by omega) hS.size (fun v' w9 ho _ _ hb9=>⟨hS.trans hb9,fun hS=>?_⟩);refine reA ?_;refine reE ?_;go_wp2
    go_roundg (8-(j+1))
    case measure=>omega
    case rel=>exact⟨j+1,ys++[(l.take m,⟨a,m,cc⟩)],by omega,by go_num,by rw[List.flatMap_append,List.length_append];exact ho,by simp[hl],fun r hr=>by
     rcases List.mem_append.1 hr with hr|hr
     ·exact hy.out r hr
     ·rw[List.mem_singleton.1 hr];exact HI.out.cut hm1,hS⟩
   ·go_wp2;go_ret;obtain⟨A2,c2,rfl,h3,h4,h5,_⟩:=own_rd ho;exact⟨ys,⟨A2,ys.length,c2⟩,rfl,⟨rfl,h3,h4,h5⟩,hy.out,hb⟩
  ·go_wp2;go_ret;obtain⟨A2,c2,rfl,h3,h4,h5,_⟩:=own_rd ho;exact⟨ys,⟨A2,ys.length,c2⟩,rfl,⟨rfl,h3,h4,h5⟩,hy.out,hb⟩
theorem wmade11_any (xs:List (List Int × Hd)) (hh:Hd) (w:World) (hr:RowAt w rowV xs hh) (hq:∀r∈xs,IR w w.heap.size r):
  Calls Tryz.prog 10 #[.slice hh.a hh.n hh.c] w (MRet w):=by
 go_enter Tryz.func10,Tryz.ntmps10
 go_upto_region 1 with fail
 generalize hW:w.alloc _=W;obtain⟨hk,hb⟩:=zA hW;clear hW;go_wp2_with fail;refine (wcut_any xs hh W (hr.below hb) (fun r hm=>?_)).mono ?_
 ·have h:=(hq r hm).below hb;exact⟨h.len,h.cap,h.max,h.rd,h.rng,fun hn ad e=>Nat.lt_of_lt_of_le (h.lt hn ad e) hb.size⟩
 rintro e w1 ⟨ys,h1,rfl,hy,hyq,hb1⟩;have hk1:=hk.below hb1 hk.lt;go_wp2_with fail;refine (wMade11_any ys h1 w1 hy (fun r hm=>?_)).mono ?_
 ·have h:=(hyq r hm).below hb1;exact⟨h.len,h.cap,h.max,h.rd,h.rng,fun hn ad e=>Nat.lt_of_lt_of_le (h.lt hn ad e) hb1.size⟩
 rintro e w2 ⟨l,ss,ps,f,s,p,rfl,hmd,hlo,hb2⟩;have hk2:=hk1.below hb2 hk1.lt;have ck:=hk2.cells;have fk:=hk2.froz;have on:Onl w.heap.size w2 (((w2.setCell ⟨w.heap.size,0,none⟩ (.slice f.a f.n f.c)).setCell ⟨w.heap.size,1,none⟩ (.slice s.a s.n s.c)).setCell ⟨w.heap.size,2,none⟩ (.slice p.a p.n p.c)):=(((Onl.refl _ _).set 0 _).set 1 _).set 2 _;have hfin:=bstep hb (bstep hb1 hb2);have hend:=hfin.trans (on.below (Nat.le_refl _) hfin.size);have HLO:=zH ((hlo.onl on hk1.lt).low (Nat.le_of_lt hk1.lt));have HMD:=zH hmd;clear hlo hmd on hb hb1 hb2 hk hk1 hk2 hr hq hy hyq hfin;unfold lawV;go_wp2;exact bodyPost_ret (v:=lawV f s p) (by simp[results,Tryz.results10,go_sem,ck,lawV]) rfl ⟨l,ss,ps,f,s,p,rfl,HMD.out,HLO.out,hend⟩
theorem k5_ty {i:Int} {t:Bool} {m d:Int} (h:K5 i t m d):TyK 5 t m d:=by
 unfold K5 at h;rcases h with⟨_,rfl,rfl,rfl⟩|⟨_,rfl,rfl,rfl⟩|⟨_,rfl,rfl,rfl⟩|⟨_,rfl,rfl,rfl⟩|⟨_,rfl,rfl,rfl⟩
 ·exact .inr ⟨rfl,.inl ⟨by omega,.inl ⟨rfl,rfl⟩⟩⟩
 ·exact .inr ⟨rfl,.inl ⟨by omega,.inr (.inl ⟨rfl,rfl⟩)⟩⟩
 ·exact .inr ⟨rfl,.inl ⟨by omega,.inr (.inr ⟨rfl,rfl⟩)⟩⟩
 ·exact .inl ⟨by omega,rfl,rfl,rfl⟩
 ·exact .inr ⟨rfl,.inr ⟨Nat.le_refl _,rfl,rfl⟩⟩
theorem sigs_core (xs:List (List Int × Hd)) (hh:Hd) (z:List Int × Hd) (q0 q1:Int) (h00:-9223372036854775808≤q0) (h01:q0≤9223372036854775807) (h10:-9223372036854775808≤q1) (h11:q1≤9223372036854775807) (w:World) (hK:LaidK w) (hr:RowAt w rowV xs hh) (hq:∀r∈xs,IR w w.heap.size r) (hz:IR w w.heap.size z)
  (hY:∀W,Below w.heap.size w W→Calls Tryz.prog 9 #[] W fun e w'=>e=.returned (.bool true)∧Below W.heap.size W w'):
  Calls Tryz.prog 3 #[.slice hh.a hh.n hh.c,.slice z.2.a z.2.n z.2.c,.agg #[.int .i64 q0,.int .i64 q1]] w fun e w'=>e=.returned (.bool true)∧Below w.heap.size w w':=by
 have HKK:Hid (∀W,Below w.heap.size w W→LaidK W):=fun W hb=>hK.below hb
 have HKd:=zH (fun W=>wKind_any q1 h10 h11 W);have HB0:=zH (And.intro h00 h01);go_enter Tryz.func3,Tryz.ntmps3
 go_upto_region 1 with fail
 generalize hX:w.alloc _=W;obtain⟨hb5,hb0⟩:=zA hX;clear hX;go_wp2_with fail;refine (hY W hb0).mono ?_;rintro e w1 ⟨rfl,hb1⟩;have hbz:=bstep hb0 hb1;replace hb5:=hb5.below hb1 hb5.lt;go_wp2_with fail;refine (wmade11_any xs hh w1 (hr.below hbz) (fun r hm=>((hq r hm).below hbz).lower hbz.size)).mono ?_;rintro e w2 ⟨l,ss,ps,f,s,p,rfl,hmd,hlo,hb2⟩;have hz1:=((hz.below (bstep hbz hb2)).lower (bstep hbz hb2).size)
 unfold lawV
 go_upto_region 3 with fail
 generalize hX:w2.alloc _=W2;obtain⟨hkC,hb3⟩:=zA hX;have h:GS w W2 w1.heap.size w2.heap.size l ss ps f s p:=⟨hkC,hlo.below hb3,bstep (bstep hbz hb2) hb3,hbz.size,hb2.size⟩
 have hQ:=fun X (hX:Below W2.heap.size W2 X)=>show X.cell? ⟨w.heap.size,0,none⟩=some (.int .i64 q0)∧X.cell? ⟨w.heap.size,1,none⟩=some (.int .i64 q1) from⟨(((hb5.below hb2 hb5.lt).below hb3 (Nat.lt_of_lt_of_le hb5.lt hb2.size)).below hX (Nat.lt_of_lt_of_le hb5.lt (bstep hb2 hb3).size)).cells 0,(((hb5.below hb2 hb5.lt).below hb3 (Nat.lt_of_lt_of_le hb5.lt hb2.size)).below hX (Nat.lt_of_lt_of_le hb5.lt (bstep hb2 hb3).size)).cells 1⟩
 have HZ:=zH ((hz1.below hb3).lower hb3.size);have HQ:=zH hQ;have HMD:=zH hmd;clear hX hkC hlo hb5 hb0 hb1 hb2 hb3 hbz hz1 hz hq hr hK hY hQ hmd h00 h01 h10 h11;generalize w2.heap.size=C at h⊢;obtain⟨pa,pn,pc⟩:=p;obtain⟨gp,hpa,hpn,hgB,_⟩:=h.o.hd HMD.out.ne;simp only at hpa hpn;subst hpa;have HPN:=zH hpn;have HGB:=zH hgB;clear hpn hgB;have hc:=h.cells;simp only at hc;go_wp2_with fail;refine (uSigs_any l ss ps f s ⟨some ⟨gp,0,none⟩,pn,pc⟩ W2 h.at HMD.out.fine).mono ?_;rintro e w3 ⟨⟨sa,sn,sc⟩,rfl,hsg,hb⟩;have h3:=h.below hb;replace HQ:Hid (∀X,Below w3.heap.size w3 X→X.cell? ⟨w.heap.size,0,none⟩=some (.int .i64 q0)∧X.cell? ⟨w.heap.size,1,none⟩=some (.int .i64 q1)):=fun X hX=>HQ.out X (bstep hb hX)
 replace HZ:=zH ((HZ.out.below hb).lower hb.size);have HSG:=zH hsg;clear h hc hb hsg
 have hp0:0<pn:=by
  have:=HMD.out.ne;rw[HPN.out,h3.o.len];exact List.length_pos_iff.2 this
 have hp6:pn≤6:=by have:=HMD.out.n.len;rw[HPN.out,h3.o.len];exact this.2.2
 go_wp2
 go_loopg [10] pn (fun q iv wr=>∃j:Nat,j+q=pn∧iv=.int .i64 j∧Below w3.heap.size w3 wr)
 case atStart=>exact⟨0,by omega,rfl,Below.refl _ _⟩
 case round=>
  obtain⟨j,hj,rfl,hbr⟩:=hrel;have g:=h3.below hbr;have hc:=g.cells;simp only at hc;by_cases hlt:j<pn
  ·have hjp:j<ps.length:=by rw[←HPN.out];exact hlt
   have hpc:=g.o.pc hjp;have HPB:=zH (g.o.at.pb _ (List.getElem_mem hjp));have HPV:=zH (HMD.out.p _ (show ps[j].1∈l.provs from g.o.pl ▸ List.mem_map.2 ⟨_,List.getElem_mem hjp,rfl⟩));have HPF:=zH (fun Y (hY:Below wr.heap.size wr Y)=>(g.below hY).o.pc hjp);obtain⟨y,hy⟩:=zE ps[j];simp only[←hy] at hpc HPB HPV HPF;clear hy;have j0:(0:Int)≤(j:Int):=by omega
   have j1:(j:Int)<(pn:Int):=by omega
   have HT:Calls Tryz.prog 12 #[.slice sa sn sc,.slice y.2.a y.2.n y.2.c] wr fun e w'=>e=.returned (.tuple #[y.1.ty.v,.int .i64 0])∧Below wr.heap.size wr w':=by
    have hs:=HSG.out.below hbr;have k:=kType_any (sigsL l) y.1.body sa y.2.a sn sc y.2.n y.2.c wr (HKK.out wr g.on) hs.len (Nat.le_trans hs.cap hs.max) hs.rd ⟨HPB.out.len,HPB.out.cap,HPB.out.max,HPB.out.rd⟩ (chk_fine (HPV.out.b.chk HPV.out.n));rw[HPV.out.b.type HPV.out.n] at k;exact k
   unfold Ty.v at HT;go_wp2_with fail;refine HT.mono ?_;rintro e w4 ⟨rfl,hb4⟩;clear HT
   go_upto_region 8 with fail
   generalize hX:w4.alloc _=X;obtain⟨hkt,hb5⟩:=zA hX;have g5:=(g.below hb4).below hb5;have hc5:=fun Y (hY:Below X.heap.size X Y)=>And.intro ((g5.below hY).cells) (And.intro (HPF.out Y (bstep (bstep hb4 hb5) hY)) (And.intro ((hkt.below hY hkt.lt).cells 0) (And.intro ((hkt.below hY hkt.lt).cells 1) ((hkt.below hY hkt.lt).cells 2))))
   have hbx:=bstep (bstep hbr hb4) hb5;have HE:=fun W=>neq_ty y.1.ty y.1.ty W
   simp only[decide_true,Bool.not_true,Ty.v] at HE;clear hX hb4 hb5 hkt hc hpc g HPB HPV HPF hbr;simp only at hc5;refine reS (Below X.heap.size X) 99 (drewN_below _ _ 1) (fun w5 _ hS=>?_)
   iterate 12 refine reA ?_
   refine reE ?_;clear hc5 HE g5;go_wp2
   go_roundg (pn-(j+1))
   case measure=>omega
   case rel=>exact⟨j+1,by omega,by go_num,bstep hbx hS⟩
  ·obtain rfl:j=pn:=by omega
   have hQ:=HQ.out wr hbr;obtain⟨k,hk1,hk2⟩:∃k:Nat,k<j∧q0 % (j:Int)=k:=⟨(q0 % (j:Int)).toNat,by have:=Int.emod_lt_of_pos q0 (show (0:Int)<(j:Int) by omega);have:=Int.emod_nonneg q0 (show (j:Int)≠0 by omega);omega,by have:=Int.emod_nonneg q0 (show (j:Int)≠0 by omega);omega⟩
   have hM:=wMod_any q0 (j:Int) wr HB0.out.1 HB0.out.2 (by omega) (by omega);rw[hk2] at hM;clear hk2;go_wp2_with fail;refine hM.mono ?_;rintro e w4 ⟨rfl,rfl⟩;clear hM;go_wp2_with fail;refine (HKd.out wr).mono ?_;rintro e w4 ⟨t,m,d,rfl,hk5,hb4⟩
   go_upto_region 12 with fail
   generalize hX:w4.alloc _=X;obtain⟨hkt,hb5⟩:=zA hX;have g5:=(g.below hb4).below hb5;replace hb5:=bstep (bstep hbr hb4) hb5;replace HZ:=zH ((HZ.out.below hb5).lower hb5.size);have hjp:k<ps.length:=by rw[←HPN.out];exact hk1
   obtain⟨z,za,zn,zc⟩:=z;have hzc:=HZ.out.cap;have hzm:=HZ.out.max;unfold maxLen at hzm;simp only at hzc hzm;obtain⟨n,hn0,hn1⟩:∃n:Nat,min (zn:Int) 60=(n:Int)∧n≤zn:=⟨min zn 60,by omega,by omega⟩
   have hn2:(n:Int).toNat=n:=by omega
   have n0:(0:Int)≤(n:Int):=by omega
   have n1:(n:Int)≤(zc:Int):=by omega
   have hcS:=fun Y (hY:Below X.heap.size X Y)=>And.intro ((g5.below hY).cells) (And.intro ((hkt.below hY hkt.lt).cells 0) (And.intro ((hkt.below hY hkt.lt).cells 1) ((hkt.below hY hkt.lt).cells 2)))
   simp only at hcS;have k0:(0:Int)≤(k:Int):=by omega
   have k1:(k:Int)<(j:Int):=by omega
   refine reS (Below X.heap.size X) 14 (drewN_below _ _ 1) (fun w5 _ hS=>?_)
   iterate 4 refine reA ?_
   refine reZ 5 ?_;refine reZ 6 ?_;refine reZ 7 ?_;refine reZ 8 ?_;refine reZ 9 ?_;refine reZ 10 ?_;have g6:=g5.below hS;obtain⟨l1,l2,l3⟩:=HMD.out.n.len;have HXS:=xSigs_any l.facts ss ps f s ⟨some ⟨gp,0,none⟩,j,pc⟩ w5 g6.at.f g6.at.s g6.at.p (by omega) (by have:=congrArg List.length g6.o.sl;rw[List.length_map] at this;omega) (by have:=g6.o.len;omega);rw[sg_eq,show lwP l.facts ss ps=l by unfold lwP;rw[g6.o.sl,g6.o.pl]] at HXS;refine reC 4 HXS ?_;rintro e w6 ⟨v,rfl,hso,hb6⟩;refine⟨_,rfl,bstep hS hb6,fun hS6=>?_⟩;have hS:=hS6;obtain⟨A1,c1,rfl,_⟩:=own_rd hso
   have hsl:(sigsL l).length≤1000:=by
    unfold sigsL;simp only[List.length_append,List.length_map]
    omega
   have hzi:=((HZ.out.cut hn1).below hS).lower hS.size;simp only at hzi;refine reC 11 (wMade8_any (sigsL l) A1 (sigsL l).length c1 (z.take n,⟨za,n,zc⟩) t m d w6 rfl hsl (own_hd hso).2.2.2 (fun ad e=>by subst e;exact (hso.lt _ rfl).2) hzi HMD.out.n.nok (k5_ty hk5)) ?_;rintro e w7 ⟨v,ns,rfl,htk,ho7,hb7⟩;refine⟨_,rfl,bstep hS hb7,fun hS=>?_⟩;obtain⟨A7,c7,rfl,_⟩:=own_rd ho7;have g7:=g5.below hS;have cS:=hcS w7 hS;refine reZ 12 ?_;refine reZ 13 ?_;have fg:∀i,w7.frozen? ⟨gp,i,none⟩=false:=own_froz g7.o.p;have cg:=g7.o.pc hjp;refine reW 14 (fun h=>absurd rfl h) (fun _=>?_);refine reE ?_;have hgb:w.heap.size≤gp:=Nat.le_trans g7.hB HGB.out;have hB6:w1.heap.size≤w6.heap.size:=Nat.le_trans g5.hC (Nat.le_of_lt (Nat.lt_of_lt_of_le g5.b.lt hS6.size));obtain⟨hlo,on,hkp⟩:=g7.o.put k hjp ⟨A7,ns.length,c7⟩ ns (own_lower ho7 hB6);have hG:GS w _ w1.heap.size C _ ss _ f s ⟨some ⟨gp,0,none⟩,j,pc⟩:=⟨hkp g7.b (by decide),hlo,g7.on.trans (on.below hgb g7.on.size),g7.hB,g7.hC⟩
   have hT:=hkp (hkt.below hS hkt.lt) (by decide);have e:=g7.o.get hjp
   have HCK:Hid (checkL (swapL l k ps[k].1 ns)=if (⟨t,m,d⟩:Ty)=ps[k].1.ty then 0 else 13):=by
    show _=_;rw[e];exact swap_chk HMD.out _ htk.1 (by have:=htk.2;omega)
   have HFN:Hid (FineL (swapL l k ps[k].1 ns)):=by
    show FineL _;rw[e];exact swap_fine HMD.out _ htk.1 (by have:=htk.2;omega)
   have hpk:=fun Y (hY:Below (World.setCell w7 ⟨gp,k*12+4,none⟩ (.slice A7 ns.length c7)).heap.size (World.setCell w7 ⟨gp,k*12+4,none⟩ (.slice A7 ns.length c7)) Y)=>(hG.below hY).o.pc (j:=k) (by rw[List.length_set];exact hjp)
   simp only[List.getElem_set_self] at hpk;obtain⟨y,hy⟩:=zE ps[k];simp only[←hy] at hpk HCK HFN hG;generalize ps.set k _=ps2 at hG hpk;generalize swapL l k y.1 ns=l2 at HCK HFN hG;generalize World.setCell w7 ⟨gp,k*12+4,none⟩ (.slice A7 ns.length c7)=Y at hG hT hpk⊢;generalize w4.heap.size=N at*;clear hlo on hkp e cg fg g7 g6 cS hcS hso ho7 hb7 hb6 hzi hS6 hB6 hgb htk HXS hy hkt HZ HQ h3 HSG HKd HB0;clear hS g5 hb5 hb4 hc hbr g hQ;have hcY:=fun Z (hZ:Below Y.heap.size Y Z)=>And.intro ((hG.below hZ).cells) (And.intro (hpk Z hZ) (And.intro ((hT.below hZ hT.lt).cells 0) (And.intro ((hT.below hZ hT.lt).cells 1) ((hT.below hZ hT.lt).cells 2))))
   simp only at hcY;obtain⟨dq,hdq⟩:=zF (decide ((⟨t,m,d⟩:Ty)=y.1.ty));have HE:=fun W=>neq_ty ⟨t,m,d⟩ y.1.ty W
   simp only[hdq,Ty.v] at HE
   go_upto_region 14 with fail
   refine reS (Below Y.heap.size Y) 99 (drewN_below _ _ 1) (fun w8 _ hS=>?_)
   iterate 8 refine reA ?_
   refine reE ?_;have g8:=hG.below hS;have hc:=g8.cells;simp only at hc;clear hcY HE hpk hG hT hS;cases dq
   ·rw[if_neg (of_decide_eq_false hdq)] at HCK;clear hdq;go_wp2_with fail;refine (uCheck_any _ ss _ f s ⟨some ⟨gp,0,none⟩,j,pc⟩ w8 (HKK.out w8 g8.on) g8.at HFN.out).mono ?_;rintro e w9 ⟨rfl,hb⟩;rw[HCK.out];have hend:=bstep g8.on hb;clear g8 hb;go_wp2;go_ret;exact⟨rfl,hend⟩
   ·rw[if_pos (of_decide_eq_true hdq)] at HCK;clear hdq;go_wp2_with fail;refine (uCheck_any _ ss _ f s ⟨some ⟨gp,0,none⟩,j,pc⟩ w8 (HKK.out w8 g8.on) g8.at HFN.out).mono ?_;rintro e w9 ⟨rfl,hb⟩;rw[HCK.out];have hend:=bstep g8.on hb;clear g8 hb;go_wp2;go_ret;exact⟨rfl,hend⟩
def FineTy (t:Ty):Prop:=(-1000≤t.money∧t.money≤1000)∧(-1000≤t.days∧t.days≤1000)∧FineR (ofI t.money)∧FineR (ofI t.days)
structure FineT (l:Lw):Prop where
 f:∀d∈l.facts,FineTy d.ty
 s:∀x∈l.schs,FineTy ⟨false,x.money,x.days⟩
 p:∀x∈l.provs,FineTy x.ty
 b:∀x∈l.schs,x.brs.length≤1000
structure TX (b:Nat) (w0 W:World) (tot R:List UInt8) (X:World):Prop where
 t:∃t0,WS w0.heap.size b w0 X t0∧t0++R=tot
 f:BF b W X
section
variable {b:Nat} {w0 W W2 X X':World} {tot R R':List UInt8}
theorem TX.bl (h:TX b w0 W tot R X):Below w0.heap.size w0 X:=let ⟨_,h1,_⟩:=h.t;h1.bl
theorem TX.lt (h:TX b w0 W tot R X):b<X.heap.size:=let ⟨_,h1,_⟩:=h.t;h1.lt
theorem TX.grow (h:TX b w0 W tot R X) (hb:Below X.heap.size X X'):TX b w0 W tot R X':=let ⟨t0,h1,h2⟩:=h.t;⟨⟨t0,h1.grow hb,h2⟩,h.f.trans (BF.of_below hb)⟩
theorem TX.here (h:TX b w0 W tot R X):TX b w0 X tot R X:=⟨h.t,BF.refl _ _⟩
theorem TX.back (h:TX b w0 X tot R X') (hf:BF b W X):TX b w0 W tot R X':=⟨h.t,hf.trans h.f⟩
theorem TX.as (h:TX b w0 W tot R X) (e:R=R'):TX b w0 W tot R' X:=e ▸ h
theorem TX.words (l:List ByteArray) (h:TX b w0 W tot (bytesL l++R) X) (ht:tot.length≤10000000000000) (hm:l.length≤1000:=by simp) (h0:l≠[]:=by simp):
  Calls Tryz.prog 109 #[.pointer (some ⟨b,0,none⟩),.slice (some ⟨X.heap.size,0,none⟩) l.length l.length] (X.alloc (.cells (strs l).toArray 9)) fun e X'=>e=.returned (.tuple #[])∧TX b w0 W tot R X'∧BF b X X':=by
 obtain⟨t0,h1,h2⟩:=h.t;have hb:=zB X (.cells (strs l).toArray 9);refine ((h1.grow hb).words l X.heap.size l.length (Blk.new X _ _) h1.lt rfl hm h0 (by have:=congrArg List.length h2;simp only[List.length_append] at this;omega)).mono ?_;rintro e X' ⟨rfl,hx,hf⟩;have hf':=(BF.of_below (b:=b) hb).trans hf;exact⟨rfl,⟨⟨_,hx,by rw[List.append_assoc];exact h2⟩,h.f.trans hf'⟩,hf'⟩
end
theorem fm_drop {α:Type} (f:α→List UInt8) {l:List α} {j:Nat} (h:j<l.length):(l.drop j).flatMap f=f l[j]++(l.drop (j+1)).flatMap f:=by rw[List.drop_eq_getElem_cons h,List.flatMap_cons]
theorem bk_drop {l:List Bk} {j:Nat} (h:j<l.length):bksL j (l.drop j)=bytesL (bkW j l[j])++bksL (j+1) (l.drop (j+1)):=by rw[List.drop_eq_getElem_cons h];rfl
theorem uWLaw_any (l:Lw) (ss:List (Sc × Hd)) (ps:List (Pv × Hd)) (f s p:Hd) (B b:Nat) (w0 w:World) (bs:List UInt8) (hS:WS B b w0 w bs) (hB0:B=w0.heap.size) (hL:LaidK w0) (h:LawAt w0 l ss ps f s p) (hf:FineL l) (hT:FineT l) (hlen:bs.length+(textL l).length≤10000000000000):
  Calls Tryz.prog 47 #[.pointer (some ⟨b,0,none⟩),lawV f s p] w fun e w'=>e=.returned (.tuple #[])∧WS B b w0 w' (bs++textL l):=by
 subst hB0;obtain⟨fa,fn,fc⟩:=f;obtain⟨sa,sn,sc⟩:=s;obtain⟨pa,pn,pc⟩:=p;have hfn:fn≤1000:=by have:=h.f.len;have:=hf.fn;simp only at*;omega
 have hsn:sn≤1000:=by have h1:=h.s.len;have h2:=congrArg List.length h.sl;have:=hf.sn;rw[List.length_map] at h2;simp only at*;omega
 have hpn:pn≤1000:=by have h1:=h.p.len;have h2:=congrArg List.length h.pl;have:=hf.pn;rw[List.length_map] at h2;simp only at*;omega
 have hlt:(bs++textL l).length≤10000000000000:=by rw[List.length_append];exact hlen
 obtain⟨tot,htot⟩:=zE (bs++textL l);rw[←htot] at hlt⊢;have hX:TX b w0 w tot (l.facts.flatMap declL++(l.schs.flatMap schL++l.provs.flatMap pvL)) w:=⟨⟨bs,hS,by rw[htot];unfold textL;simp only[List.append_assoc]⟩,BF.refl _ _⟩
 clear htot hlen hS;unfold lawV;go_enter Tryz.func47,Tryz.ntmps47
 go_upto_region 1 with fail
 generalize hW:w.alloc _=W;obtain⟨hQ,hg⟩:=zA hW;have hne:w.heap.size≠b:=by have:=hX.lt;omega
 replace hX:=(hX.grow hg).here;have hc:=fun (X:World) (k:BF b W X)=>show X.cell? ⟨w.heap.size,0,none⟩=some (Value.slice fa fn fc)∧X.cell? ⟨w.heap.size,1,none⟩=some (Value.slice sa sn sc)∧X.cell? ⟨w.heap.size,2,none⟩=some (Value.slice pa pn pc) from⟨(k.blk hQ (by decide) hne).cells 0,(k.blk hQ (by decide) hne).cells 1,(k.blk hQ (by decide) hne).cells 2⟩
 clear hW hQ hg hne;generalize w.heap.size=Q at hc⊢;have hW:=BF.refl b W;go_wp2
 go_loopg [17] fn (fun g iv wr=>∃j:Nat,j+g=fn∧iv=.int .i64 j∧TX b w0 W tot ((l.facts.drop j).flatMap declL++(l.schs.flatMap schL++l.provs.flatMap pvL)) wr)
 case atStart=>exact⟨0,by omega,rfl,hX⟩
 case round=>
  clear hX hW;obtain⟨j,hj,rfl,hX⟩:=hrel;have hW:=hX.f;by_cases hlj:j<fn
  ·have hbl:=hX.bl;obtain⟨bb,off,nm,t,m,d,rfl,_,hx,hxe,hd⟩:=dc_at h.f hlj;have hty:=hT.f _ (List.getElem_mem hx);rw[hxe] at hty;replace hX:=hX.as (R':=bytesL [sFact,nm,sSp,tyText ⟨t,m,d⟩,sNl]++((l.facts.drop (j+1)).flatMap declL++(l.schs.flatMap schL++l.provs.flatMap pvL))) (by rw[fm_drop declL hx,hxe,List.append_assoc];rfl);clear hxe
   go_upto_region 4 with fail
   generalize hY:wr.alloc _=Y;obtain⟨hK,hg⟩:=zA hY;have hne:wr.heap.size≠b:=by have:=hX.lt;omega
   have hk:=fun (X:World) (k:BF b Y X)=>show X.cell? ⟨wr.heap.size,0,none⟩=some (.string nm)∧X.cell? ⟨wr.heap.size,1,none⟩=some (.bool t)∧X.cell? ⟨wr.heap.size,2,none⟩=some (.int .i64 m)∧X.cell? ⟨wr.heap.size,3,none⟩=some (.int .i64 d) from⟨(k.blk hK (by decide) hne).cells 0,(k.blk hK (by decide) hne).cells 1,(k.blk hK (by decide) hne).cells 2,(k.blk hK (by decide) hne).cells 3⟩
   replace hW:=hW.trans (BF.of_below hg);replace hX:=(hX.grow hg).here;clear hY hK hg hne hd hbl;generalize wr.heap.size=K at hk⊢;refine reS (BF b Y) 99 (BF.of_below (drewN_below _ _ 1)) (fun w1 h1 hS=>?_);replace hX:=hX.grow h1
   iterate 5 refine reA ?_
   refine reC 5 (uTypeText_any ⟨t,m,d⟩ w1 (hL.below hX.bl) hty.1 hty.2.1 hty.2.2.1 hty.2.2.2) ?_;rintro e w2 ⟨rfl,hb2⟩;replace hX:=hX.grow hb2;refine⟨_,rfl,hX.f,fun hS=>?_⟩;refine reV 6 (fun _=>hS.trans (BF.of_below (zB _ _))) (fun _=>?_);refine reC 7 (TX.words [sFact,nm,sSp,tyText ⟨t,m,d⟩,sNl] hX hlt) ?_;rintro e w3 ⟨rfl,hX,_⟩;refine⟨_,rfl,hX.f,fun hS=>?_⟩;refine reE ?_;go_wp2
   go_roundg (fn-(j+1))
   case measure=>omega
   case rel=>exact⟨j+1,by omega,by go_num,hX.back hW⟩
  ·replace hX:=hX.as (R':=l.schs.flatMap schL++l.provs.flatMap pvL) (by rw[List.drop_of_length_le (by have:=h.f.len;simp only at this;omega)];rfl);go_wp2
   go_loopg [33] sn (fun g iv wr=>∃j:Nat,j+g=sn∧iv=.int .i64 j∧TX b w0 W tot ((l.schs.drop j).flatMap schL++l.provs.flatMap pvL) wr)
   case atStart=>exact⟨0,by omega,rfl,hX⟩
   case round=>
    clear hX hW;obtain⟨j,hj,rfl,hX⟩:=hrel;have hW:=hX.f;by_cases hlj:j<sn
    ·have hbl:=hX.bl;obtain⟨bb,off,nm,m,d,brs,⟨ha,hn,hcc⟩,rfl,_,hx,hxe,hd⟩:=sc_at h.s hlj;have hxl:j<l.schs.length:=by rw[←h.sl,List.length_map];exact hx
     have hle:l.schs[j]=⟨nm,m,d,brs⟩:=by have e:=h.sl;simp[←e,hxe]
     have hmem:=List.getElem_mem hxl;rw[hle] at hmem;have hty:=hT.s _ hmem;have hbn:=hT.b _ hmem;have hbf:=hf.sb _ hmem;have hbr:RowAt w0 Bk.cells brs ⟨ha,hn,hcc⟩:=by have:=h.sb _ (List.getElem_mem hx);rw[hxe] at this;exact this
     have hhn:hn≤1000:=by have:=hbr.len;simp only at this hbn;omega
     simp only at hty hbn;obtain⟨R,hR⟩:=zE ((l.schs.drop (j+1)).flatMap schL++l.provs.flatMap pvL);replace hX:=hX.as (R':=bytesL [sSch,nm,sSp,tyText ⟨false,m,d⟩]++(bksL 0 (brs.drop 0)++(bytesL [sNl]++R))) (by rw[fm_drop schL hxl,hle,hR];unfold schL schW;simp only[List.append_assoc,List.drop_zero]);clear hxe hle hmem
     go_upto_region 9 with fail
     generalize hZ:wr.alloc _=Y;obtain⟨hK,hg⟩:=zA hZ;have hne:wr.heap.size≠b:=by have:=hX.lt;omega
     have hk:=fun (X:World) (k:BF b Y X)=>show X.cell? ⟨wr.heap.size,0,none⟩=some (.string nm)∧X.cell? ⟨wr.heap.size,1,none⟩=some (.int .i64 m)∧X.cell? ⟨wr.heap.size,2,none⟩=some (.int .i64 d)∧X.cell? ⟨wr.heap.size,3,none⟩=some (.slice ha hn hcc) from⟨(k.blk hK (by decide) hne).cells 0,(k.blk hK (by decide) hne).cells 1,(k.blk hK (by decide) hne).cells 2,(k.blk hK (by decide) hne).cells 3⟩
     replace hW:=hW.trans (BF.of_below hg);replace hX:=(hX.grow hg).here;clear hZ hK hg hne hd hbl;generalize wr.heap.size=K at hk⊢;refine reS (BF b Y) 99 (BF.of_below (drewN_below _ _ 1)) (fun w1 h1 hS=>?_);replace hX:=hX.grow h1
     iterate 6 refine reA ?_
     refine reC 6 (uTypeText_any ⟨false,m,d⟩ w1 (hL.below hX.bl) hty.1 hty.2.1 hty.2.2.1 hty.2.2.2) ?_;rintro e w2 ⟨rfl,hb2⟩;replace hX:=hX.grow hb2;refine⟨_,rfl,hX.f,fun hS=>?_⟩;refine reV 7 (fun _=>hS.trans (BF.of_below (zB _ _))) (fun _=>?_);refine reC 8 (TX.words [sSch,nm,sSp,tyText ⟨false,m,d⟩] hX hlt) ?_;rintro e w3 ⟨rfl,hX,_⟩;refine⟨_,rfl,hX.f,fun hS=>?_⟩;refine reE ?_;have hY:=hX.f;go_wp2
     go_loopg [49] hn (fun g iv wr=>∃q:Nat,q+g=hn∧iv=.int .i64 q∧TX b w0 Y tot (bksL q (brs.drop q)++(bytesL [sNl]++R)) wr)
     case atStart=>exact⟨0,by omega,rfl,hX⟩
     case round=>
      clear hX hY;obtain⟨q,hq,rfl,hX⟩:=hrel;have hY:=hX.f;by_cases hlq:q<hn
      ·have hbl:=hX.bl;obtain⟨b2,off2,rfl,_,hx2,hd0⟩:=hbr.at 6 (fun _=>rfl) (by omega) hlq;obtain⟨x,hx⟩:=zE brs[q]
       have hd:=fun (X:World) (k:Below w0.heap.size w0 X)=>show X.cell? ⟨b2,off2+q*6,none⟩=some (.bool x.fr.neg)∧X.cell? ⟨b2,off2+q*6+1,none⟩=some (.string x.fr.num)∧X.cell? ⟨b2,off2+q*6+2,none⟩=some (.string x.fr.den)∧X.cell? ⟨b2,off2+q*6+3,none⟩=some (.bool x.rt.neg)∧X.cell? ⟨b2,off2+q*6+4,none⟩=some (.string x.rt.num)∧X.cell? ⟨b2,off2+q*6+5,none⟩=some (.string x.rt.den) from by
        rw[hx];exact⟨hd0 X k 0 _ rfl,hd0 X k 1 _ rfl,hd0 X k 2 _ rfl,hd0 X k 3 _ rfl,hd0 X k 4 _ rfl,hd0 X k 5 _ rfl⟩
       have hfx:=hbf _ (List.getElem_mem hx2);rw[←hx] at hfx;replace hX:=hX.as (R':=bytesL [sSep q,sSp,textR x.fr,sSp,textR x.rt]++(bksL (q+1) (brs.drop (q+1))++(bytesL [sNl]++R))) (by rw[bk_drop hx2,←hx,List.append_assoc];rfl);clear hd0 hx
       go_upto_region 13 with fail
       generalize hZ:wr.alloc _=Y2;obtain⟨hK,hg⟩:=zA hZ;have hne:wr.heap.size≠b:=by have:=hX.lt;omega
       have hk2:=fun (X:World) (k:BF b Y2 X)=>show X.cell? ⟨wr.heap.size,0,none⟩=some (.bool x.fr.neg)∧X.cell? ⟨wr.heap.size,1,none⟩=some (.string x.fr.num)∧X.cell? ⟨wr.heap.size,2,none⟩=some (.string x.fr.den)∧X.cell? ⟨wr.heap.size,3,none⟩=some (.bool x.rt.neg)∧X.cell? ⟨wr.heap.size,4,none⟩=some (.string x.rt.num)∧X.cell? ⟨wr.heap.size,5,none⟩=some (.string x.rt.den) from⟨(k.blk hK (by decide) hne).cells 0,(k.blk hK (by decide) hne).cells 1,(k.blk hK (by decide) hne).cells 2,(k.blk hK (by decide) hne).cells 3,(k.blk hK (by decide) hne).cells 4,(k.blk hK (by decide) hne).cells 5⟩
       replace hY:=hY.trans (BF.of_below hg);replace hX:=(hX.grow hg).here;clear hZ hK hg hne hd hbl
       obtain⟨mm,hmn,hm2,hsp⟩:∃mm:Nat,min (q:Int) 1=(mm:Int)∧mm<2∧([.string ⟨#[58]⟩,.string ⟨#[44]⟩]:List Value)[mm]?=some (.string (sSep q)):=by
        by_cases h0:q=0
        ·subst h0;exact⟨0,rfl,by omega,rfl⟩
        ·exact⟨1,by omega,by omega,by unfold sSep;rw[if_neg h0];rfl⟩
       have mm0:(0:Int)≤(mm:Int):=by omega
       have mm1:(mm:Int)<2:=by omega
       generalize wr.heap.size=K at hk2⊢;refine reS (BF b Y2) 99 (BF.of_below (drewN_below _ _ 1)) (fun w1 h1 hS=>?_);replace hX:=hX.grow h1;clear h1;refine reZ 0 ?_;refine reZ 2 ?_;refine reZ 3 ?_;refine reZ 6 ?_;refine reZ 7 ?_;refine reZ 9 ?_;refine reZ 10 ?_;refine reTwo 1 8 (opV (fun _=>hS.trans (BF.of_below (zB _ _))) (fun hS=>?_)) (opC (qText_any x.fr _ (hL.below hX.bl).e.base hfx.1.1 hfx.1.2) ?_)
       ·have hzb:w1.heap.size≠b:=by have:=hX.lt;omega
        generalize hZ:w1.alloc _=w9 at hS⊢;obtain⟨hk9,hg9⟩:=zA hZ;replace hX:=hX.grow hg9;have hz9:=fun (X:World) (k:BF b Y2 X∧Blk X w1.heap.size 9 [.string ⟨#[58]⟩,.string ⟨#[44]⟩])=>show X.cell? ⟨w1.heap.size,mm,none⟩=some (.string (sSep q)) from by rw[k.2.cells mm];exact hsp
        refine reM (fun X=>BF b Y2 X∧Blk X w1.heap.size 9 [.string ⟨#[58]⟩,.string ⟨#[44]⟩]) ⟨hS,hk9⟩ (fun _ h=>h.1) (fun hS=>?_);clear hZ hk9 hg9;generalize w1.heap.size=Z at hz9 hS hzb⊢;refine reZ 4 ?_;refine reZ 5 ?_;refine reC 8 (qText_any x.fr _ (hL.below hX.bl).e.base hfx.1.1 hfx.1.2) ?_;rintro e w2 ⟨rfl,hb2⟩;replace hX:=hX.grow hb2;refine⟨_,rfl,⟨hS.1.trans (BF.of_below hb2),hS.2.below hb2 hS.2.lt⟩,fun hS=>?_⟩;clear hb2;refine reC 11 (qText_any x.rt _ (hL.below hX.bl).e.base hfx.2.1 hfx.2.2) ?_;rintro e w2 ⟨rfl,hb2⟩;replace hX:=hX.grow hb2;refine⟨_,rfl,⟨hS.1.trans (BF.of_below hb2),hS.2.below hb2 hS.2.lt⟩,fun hS=>?_⟩;clear hb2;refine reV 12 (fun _=>⟨hS.1.trans (BF.of_below (zB _ _)),hS.2.alloc _⟩) (fun _=>?_);refine reC 13 (TX.words [sSep q,sSp,textR x.fr,sSp,textR x.rt] hX hlt) ?_;rintro e w5 ⟨rfl,hX,hf5⟩;refine⟨_,rfl,⟨hX.f,(hf5.blk (hS.2) (by decide) hzb)⟩,fun hS=>?_⟩;refine reE ?_;go_wp2
        go_roundg (hn-(q+1))
        case measure=>omega
        case rel=>exact⟨q+1,by omega,by go_num,hX.back hY⟩
       ·rintro e w2 ⟨rfl,hb2⟩;replace hX:=hX.grow hb2;refine⟨_,rfl,hS.trans (BF.of_below hb2),fun hS=>?_⟩;clear hb2;refine reTwo 1 11 (opV (fun _=>hS.trans (BF.of_below (zB _ _))) (fun hS=>?_)) (opC (qText_any x.rt _ (hL.below hX.bl).e.base hfx.2.1 hfx.2.2) ?_)
        ·have hzb:w2.heap.size≠b:=by have:=hX.lt;omega
         generalize hZ:w2.alloc _=w9 at hS⊢;obtain⟨hk9,hg9⟩:=zA hZ;replace hX:=hX.grow hg9;have hz9:=fun (X:World) (k:BF b Y2 X∧Blk X w2.heap.size 9 [.string ⟨#[58]⟩,.string ⟨#[44]⟩])=>show X.cell? ⟨w2.heap.size,mm,none⟩=some (.string (sSep q)) from by rw[k.2.cells mm];exact hsp
         refine reM (fun X=>BF b Y2 X∧Blk X w2.heap.size 9 [.string ⟨#[58]⟩,.string ⟨#[44]⟩]) ⟨hS,hk9⟩ (fun _ h=>h.1) (fun hS=>?_);clear hZ hk9 hg9;generalize w2.heap.size=Z at hz9 hS hzb⊢;refine reZ 4 ?_;refine reZ 5 ?_;refine reC 11 (qText_any x.rt _ (hL.below hX.bl).e.base hfx.2.1 hfx.2.2) ?_;rintro e w2 ⟨rfl,hb2⟩;replace hX:=hX.grow hb2;refine⟨_,rfl,⟨hS.1.trans (BF.of_below hb2),hS.2.below hb2 hS.2.lt⟩,fun hS=>?_⟩;clear hb2;refine reV 12 (fun _=>⟨hS.1.trans (BF.of_below (zB _ _)),hS.2.alloc _⟩) (fun _=>?_);refine reC 13 (TX.words [sSep q,sSp,textR x.fr,sSp,textR x.rt] hX hlt) ?_;rintro e w5 ⟨rfl,hX,hf5⟩;refine⟨_,rfl,⟨hX.f,(hf5.blk (hS.2) (by decide) hzb)⟩,fun hS=>?_⟩;refine reE ?_;go_wp2
         go_roundg (hn-(q+1))
         case measure=>omega
         case rel=>exact⟨q+1,by omega,by go_num,hX.back hY⟩
        ·rintro e w2 ⟨rfl,hb2⟩;replace hX:=hX.grow hb2;refine⟨_,rfl,hS.trans (BF.of_below hb2),fun hS=>?_⟩;clear hb2;refine reV 1 (fun _=>hS.trans (BF.of_below (zB _ _))) (fun hS=>?_);have hzb:w2.heap.size≠b:=by have:=hX.lt;omega
         generalize hZ:w2.alloc _=w9 at hS⊢;obtain⟨hk9,hg9⟩:=zA hZ;replace hX:=hX.grow hg9;have hz9:=fun (X:World) (k:BF b Y2 X∧Blk X w2.heap.size 9 [.string ⟨#[58]⟩,.string ⟨#[44]⟩])=>show X.cell? ⟨w2.heap.size,mm,none⟩=some (.string (sSep q)) from by rw[k.2.cells mm];exact hsp
         refine reM (fun X=>BF b Y2 X∧Blk X w2.heap.size 9 [.string ⟨#[58]⟩,.string ⟨#[44]⟩]) ⟨hS,hk9⟩ (fun _ h=>h.1) (fun hS=>?_);clear hZ hk9 hg9;generalize w2.heap.size=Z at hz9 hS hzb⊢;refine reZ 4 ?_;refine reZ 5 ?_;refine reV 12 (fun _=>⟨hS.1.trans (BF.of_below (zB _ _)),hS.2.alloc _⟩) (fun _=>?_);refine reC 13 (TX.words [sSep q,sSp,textR x.fr,sSp,textR x.rt] hX hlt) ?_;rintro e w5 ⟨rfl,hX,hf5⟩;refine⟨_,rfl,⟨hX.f,(hf5.blk (hS.2) (by decide) hzb)⟩,fun hS=>?_⟩;refine reE ?_;go_wp2
         go_roundg (hn-(q+1))
         case measure=>omega
         case rel=>exact⟨q+1,by omega,by go_num,hX.back hY⟩
      ·replace hX:=hX.as (R':=bytesL [sNl]++R) (by rw[List.drop_of_length_le (by have:=hbr.len;simp only at this;omega)];rfl);go_wp2_with fail;refine (TX.words [sNl] hX hlt).mono ?_;rintro e w3 ⟨rfl,hX,_⟩;go_wp2
       go_roundg (sn-(j+1))
       case measure=>omega
       case rel=>exact⟨j+1,by omega,by go_num,(hX.as hR).back hW⟩
    ·replace hX:=hX.as (R':=l.provs.flatMap pvL) (by rw[List.drop_of_length_le (by have h1:=h.s.len;have h2:=congrArg List.length h.sl;rw[List.length_map] at h2;simp only at h1;omega)];rfl);go_wp2
     go_loopg [76] pn (fun g iv wr=>∃j:Nat,j+g=pn∧iv=.int .i64 j∧TX b w0 W tot ((l.provs.drop j).flatMap pvL) wr)
     case atStart=>exact⟨0,by omega,rfl,hX⟩
     case round=>
      clear hX hW;obtain⟨j,hj,rfl,hX⟩:=hrel;have hW:=hX.f;by_cases hlj:j<pn
      ·have hbl:=hX.bl;obtain⟨bb,off,x,rfl,_,hx,hxe,hd⟩:=pv_at h.p hlj;have hxl:j<l.provs.length:=by rw[←h.pl,List.length_map];exact hx
       have hle:l.provs[j]=x.1:=by have e:=h.pl;simp[←e,hxe]
       have hmem:=List.getElem_mem hxl;rw[hle] at hmem;have hty:=hT.p _ hmem;have hfp:=hf.pb _ hmem;have hbr:RowAt w0 Nd.cells x.1.body x.2:=by have:=h.pb _ (List.getElem_mem hx);rw[hxe] at this;exact this
       obtain⟨R,hR⟩:=zE ((l.provs.drop (j+1)).flatMap pvL);replace hX:=hX.as (R':=bytesL [sPrv,x.1.name,sSp,tyText x.1.ty]++((if x.1.charge then bytesL [sChg] else [])++((if plainP x.1 then [] else bytesL [sStp,textR x.1.step,sCap,textR x.1.cap])++(bytesL [sCs,bodyT x.1.body,sNl]++R)))) (by rw[fm_drop pvL hxl,hle,hR];unfold pvL pvW stW;simp only[List.append_assoc]);clear hxe hle hmem
       go_upto_region 20 with fail
       generalize hZ:wr.alloc _=Y;obtain⟨hK,hg⟩:=zA hZ;have hne:wr.heap.size≠b:=by have:=hX.lt;omega
       have hk:=fun (X:World) (k:BF b Y X)=>show X.cell? ⟨wr.heap.size,0,none⟩=some (.string x.1.name)∧X.cell? ⟨wr.heap.size,1,none⟩=some (.bool x.1.ty.truth)∧X.cell? ⟨wr.heap.size,2,none⟩=some (.int .i64 x.1.ty.money)∧X.cell? ⟨wr.heap.size,3,none⟩=some (.int .i64 x.1.ty.days)∧X.cell? ⟨wr.heap.size,4,none⟩=some (.slice x.2.a x.2.n x.2.c)∧X.cell? ⟨wr.heap.size,5,none⟩=some (.bool x.1.charge)∧X.cell? ⟨wr.heap.size,6,none⟩=some (.bool x.1.step.neg)∧X.cell? ⟨wr.heap.size,7,none⟩=some (.string x.1.step.num)∧X.cell? ⟨wr.heap.size,8,none⟩=some (.string x.1.step.den)∧X.cell? ⟨wr.heap.size,9,none⟩=some (.bool x.1.cap.neg)∧X.cell? ⟨wr.heap.size,10,none⟩=some (.string x.1.cap.num)∧X.cell? ⟨wr.heap.size,11,none⟩=some (.string x.1.cap.den) from⟨(k.blk hK (by decide) hne).cells 0,(k.blk hK (by decide) hne).cells 1,(k.blk hK (by decide) hne).cells 2,(k.blk hK (by decide) hne).cells 3,(k.blk hK (by decide) hne).cells 4,(k.blk hK (by decide) hne).cells 5,(k.blk hK (by decide) hne).cells 6,(k.blk hK (by decide) hne).cells 7,(k.blk hK (by decide) hne).cells 8,(k.blk hK (by decide) hne).cells 9,(k.blk hK (by decide) hne).cells 10,(k.blk hK (by decide) hne).cells 11⟩
       replace hW:=hW.trans (BF.of_below hg);replace hX:=(hX.grow hg).here;clear hZ hK hg hne hd hbl;generalize wr.heap.size=K at hk⊢;refine reS (BF b Y) 99 (BF.of_below (drewN_below _ _ 1)) (fun w1 h1 hS=>?_);replace hX:=hX.grow h1
       iterate 5 refine reA ?_
       refine reC 5 (uTypeText_any x.1.ty w1 (hL.below hX.bl) hty.1 hty.2.1 hty.2.2.1 hty.2.2.2) ?_;rintro e w2 ⟨rfl,hb2⟩;replace hX:=hX.grow hb2;refine⟨_,rfl,hX.f,fun hS=>?_⟩;refine reV 6 (fun _=>hS.trans (BF.of_below (zB _ _))) (fun _=>?_);refine reC 7 (TX.words [sPrv,x.1.name,sSp,tyText x.1.ty] hX hlt) ?_;rintro e w3 ⟨rfl,hX,_⟩;refine⟨_,rfl,hX.f,fun hS=>?_⟩;refine reE ?_;have hkw:=hk _ hX.f
       go_upto_if 89 with fail
       go_cut [] from 77 to 92 (fun X=>TX b w0 Y tot ((if plainP x.1 then [] else bytesL [sStp,textR x.1.step,sCap,textR x.1.cap])++(bytesL [sCs,bodyT x.1.body,sNl]++R)) X)
       case first=>
        cases hch:x.1.charge
        ·rw[hch] at hX;go_wp2
         go_meet
         case rel=>exact hX
        ·rw[hch] at hX;go_wp2_with fail;refine (TX.words [sChg] hX hlt).mono ?_;rintro e w4 ⟨rfl,hX,_⟩;go_wp2
         go_meet
         case rel=>exact hX
       case rest=>
        clear hX hkw;have hX:=hcut;clear hcut;have hkw:=hk _ hX.f;go_wp2_with fail;refine (uPlain_any x wc).mono ?_;rintro e w4 ⟨rfl,hb4⟩;replace hX:=hX.grow hb4;clear hkw hb4
        go_upto_if 95 with fail
        go_cut [] from 93 to 104 (fun X=>TX b w0 Y tot (bytesL [sCs,bodyT x.1.body,sNl]++R) X)
        case first=>
         cases hpl:plainP x.1
         ·rw[hpl] at hX;go_wp2;refine reS (BF b Y) 99 (hX.f.trans (BF.of_below (drewN_below _ _ 1))) (fun w1 h1 hS=>?_);replace hX:=hX.grow h1;refine reZ 0 ?_;refine reZ 1 ?_;refine reZ 2 ?_;refine reZ 4 ?_;refine reZ 5 ?_;refine reC 3 (qText_any x.1.step _ (hL.below hX.bl).e.base hfp.1.1 hfp.1.2) ?_;rintro e w5 ⟨rfl,hb5⟩;replace hX:=hX.grow hb5;refine⟨_,rfl,hX.f,fun hS=>?_⟩;refine reC 6 (qText_any x.1.cap _ (hL.below hX.bl).e.base hfp.2.1.1 hfp.2.1.2) ?_;rintro e w6 ⟨rfl,hb6⟩;replace hX:=hX.grow hb6;refine⟨_,rfl,hX.f,fun hS=>?_⟩;refine reV 7 (fun _=>hS.trans (BF.of_below (zB _ _))) (fun _=>?_);refine reC 8 (TX.words [sStp,textR x.1.step,sCap,textR x.1.cap] hX hlt) ?_;rintro e w7 ⟨rfl,hX,_⟩;refine⟨_,rfl,hX.f,fun hS=>?_⟩;refine reE ?_;go_wp2
          go_meet
          case rel=>exact hX
         ·rw[hpl] at hX;go_wp2
          go_meet
          case rel=>exact hX
        case rest=>
         clear hX;have hX:=hcut;clear hcut;have hkw:=hk _ hX.f;go_wp2_with fail;refine ((eText_any x.1.body x.2.a x.2.n x.2.c wc (hL.below hX.bl).e (let r:=hbr.below hX.bl;⟨r.len,r.cap,r.max,r.rd⟩) hfp.2.2).mono fun e w' h=>(⟨⟨_,h.1⟩,h.2⟩:(∃z,e=.returned (.tuple #[.string (bodyT x.1.body),.int .i64 z]))∧Below wc.heap.size wc w')).mono ?_;rintro e w5 ⟨⟨z,rfl⟩,hb5⟩;replace hX:=hX.grow hb5;go_wp2_with fail;refine (TX.words [sCs,bodyT x.1.body,sNl] hX hlt).mono ?_;rintro e w6 ⟨rfl,hX,_⟩;go_wp2
         go_roundg (pn-(j+1))
         case measure=>omega
         case rel=>exact⟨j+1,by omega,by go_num,(hX.as hR).back hW⟩
      ·replace hX:=hX.as (R':=[]) (by rw[List.drop_of_length_le (by have h1:=h.p.len;have h2:=congrArg List.length h.pl;rw[List.length_map] at h2;simp only at h1;omega)];rfl);obtain⟨t0,h1,h2⟩:=hX.t;rw[List.append_nil] at h2;subst h2;go_wp2;go_end0;exact⟨rfl,h1⟩
def textR0 (l:Lw):Value:=.tuple #[.string ⟨(if checkL l=0 then textL l else []).toArray⟩,.int .i64 (checkL l)]
theorem WS.str {B b:Nat} {w0 w:World} {bs:List UInt8} (h:WS B b w0 w bs) (h0:bs≠[]):Calls Tryz.prog 48 #[.pointer (some ⟨b,0,none⟩)] w fun e w'=>e=.returned (.string ⟨bs.toArray⟩)∧Below B w0 w':=by
 rcases h.ib with k|k<;>exact (strW_any B b _ bs w k h0).mono fun e w' r=>⟨r.1,h.bl.trans r.2⟩
theorem WS.fresh (w:World):WS w.heap.size w.heap.size w (w.alloc (.cells #[.pointer none,.slice none 0 0] 105)) []:=by
 refine⟨.inl ⟨Nat.le_refl _,.slice none 0 0,?_,World.ownsRow_nil _ _ _ _,fun e=>by cases e⟩,(Below.refl _ _).alloc (Nat.le_refl _) _,Nat.le_refl _⟩;exact Blk.new w _ _
theorem uText_any (l:Lw) (ss:List (Sc × Hd)) (ps:List (Pv × Hd)) (f s p:Hd) (w:World) (hL:LaidK w) (h:LawAt w l ss ps f s p) (hf:FineL l) (hT:checkL l=0→FineT l∧textL l≠[]∧(textL l).length≤1000000000000):
  Calls Tryz.prog 21 #[lawV f s p] w fun e w'=>e=.returned (textR0 l)∧Below w.heap.size w w':=by
 have HC:=zH (fun W hb=>uCheck_any l ss ps f s p W (hL.below hb) (h.below hb) hf)
 have HW:Hid (checkL l=0→∀W,Below w.heap.size w W→Calls Tryz.prog 47 #[.pointer (some ⟨W.heap.size,0,none⟩),lawV f s p] (W.alloc (.cells #[.pointer none,.slice none 0 0] 105)) fun e w'=>e=.returned (.tuple #[])∧WS W.heap.size W.heap.size W w' (textL l)):=fun hz W hb=>by
  have k:=uWLaw_any l ss ps f s p W.heap.size W.heap.size W _ [] (WS.fresh W) rfl (hL.below hb) (h.below hb) hf (hT hz).1 (by rw[List.length_nil];have:=(hT hz).2.2;omega);rw[List.nil_append] at k;exact k
 have HN:Hid (checkL l=0→textL l≠[]):=fun hz=>(hT hz).2.1
 unfold textR0;obtain⟨z,hz⟩:=zE (checkL l);rw[←hz] at HC HW HN⊢;obtain⟨fa,fn,fc⟩:=f;obtain⟨sa,sn,sc⟩:=s;obtain⟨pa,pn,pc⟩:=p;unfold lawV at HC HW⊢;simp only at HC HW⊢;clear hL h hf hT hz;obtain⟨W,hW⟩:=zE (w.alloc (.cells #[.slice fa fn fc,.slice sa sn sc,.slice pa pn pc] 30));obtain⟨Q,hQ⟩:=zE w.heap.size;have HKL:Hid (Blk W Q 30 [.slice fa fn fc,.slice sa sn sc,.slice pa pn pc]):=by show Blk _ _ _ _;rw[hW,hQ];exact Blk.new w _ _
 have HBA:Hid (Below w.heap.size w W):=by show Below _ _ _;rw[hW];exact zB _ _
 have hkc:=HKL.out.cells;by_cases hz0:z=0
 ·subst hz0;rw[if_pos rfl];have HWW:=zH (HW.out rfl);have HNN:=zH (HN.out rfl);clear HW HN;generalize textL l=tl at*;go_enter Tryz.func21,Tryz.ntmps21
  go_upto_region 1 with fail
  simp only[←hW,←hQ]
  clear hW hQ;go_wp2_with fail;refine (HC.out _ HBA.out).mono ?_;rintro e w1 ⟨rfl,hb1⟩;have HB1:=zH (bstep HBA.out hb1);have HK1:Hid (Blk w1 Q 30 [.slice fa fn fc,.slice sa sn sc,.slice pa pn pc]):=HKL.out.below hb1 HKL.out.lt;have HA1:Hid (Below w1.heap.size w1 (w1.alloc (.cells #[.pointer none,.slice none 0 0] 105))):=(Below.refl _ _).alloc (Nat.le_refl _) _;have hkd:=(HK1.out.below HA1.out HK1.out.lt).cells;clear hb1 hkc;go_wp2_with fail;refine (HWW.out _ HB1.out).mono ?_;rintro e w2 ⟨rfl,hws⟩;have HST:=zH (hws.str HNN.out);clear hws hkd;go_wp2_with fail;refine HST.out.mono ?_;rintro e w3 ⟨rfl,hb3⟩;have HB3:=zH (bstep HB1.out hb3);clear hb3;go_wp2;go_ret2;exact⟨rfl,HB3.out⟩
 ·rw[if_neg hz0];have e1:(z !=0)=true:=by simp[hz0]
  clear HW HN hz0;go_enter Tryz.func21,Tryz.ntmps21
  go_upto_region 1 with fail
  simp only[←hW,←hQ]
  clear hW hQ;go_wp2_with fail;refine (HC.out _ HBA.out).mono ?_;rintro e w1 ⟨rfl,hb1⟩;have HB1:=zH (bstep HBA.out hb1);clear hb1 hkc;go_wp2;go_ret2;exact⟨rfl,HB1.out⟩
end Go.Proofs.YtkgiaegmkncljaaGreatDoor
