/- A part of the proof: Wr Z3 Z4 Z6 Gp. -/
import Derived.Test.YtimokmplkpbmdaaGreatDoorB35
import Derived.Test.YtimokmplkpbmdaaGreatDoorM02
set_option linter.all false
set_option maxRecDepth 100000
set_option maxHeartbeats 0
namespace Go.Proofs.YtimokmplkpbmdaaGreatDoor
open Go.RowKit
section
variable {W X:World} {B:Nat} {l:Lw} {ss:List (Sc × Hd)} {ps:List (Pv × Hd)} {f s p:Hd}
variable {g n c:Nat}
variable {w:World} {C:Nat}
theorem IR.lower {u v:Nat} {r:List Int × Hd} (h:IR W u r) (hv:u<=v):IR W v r:=⟨h.len,h.cap,h.max,h.rd,h.rng,fun hn ad e=>Nat.lt_of_lt_of_le (h.lt hn ad e) hv⟩
end
theorem strQ (a b:ByteArray):(a.toList==b.toList)=decide (a=b):=by
 by_cases h:a=b
 ·subst h;simp
 ·have h2:¬a.toList=b.toList:=fun e=>h (by rw[ByteArray.toList_eq,ByteArray.toList_eq] at e;exact ByteArray.ext (Array.toList_inj.1 e))
  rw[decide_eq_false h];exact beq_eq_false_iff_ne.2 h2
def Dc.v (d:Dc):Value:=.agg #[.string d.name,.bool d.ty.truth,.int .i64 d.ty.money,.int .i64 d.ty.days]
def Bk.v (b:Bk):Value:=.agg #[.bool b.fr.neg,.string b.fr.num,.string b.fr.den,.bool b.rt.neg,.string b.rt.num,.string b.rt.den]
theorem neq_dc (a b:Dc) (w:World):(binOp .neq 36 a.v b.v).run Tryz.prog w=.ok (.bool (!decide (a=b))) w:=by
 have u4:=Tryz.underlying9;have hS:Tryz.prog.underlying 36=some (.struct (Tryz.prog.fieldsOf 36)):=by kernel_rfl
 have hp:Tryz.prog.stoodInHeld 36=false:=by kernel_rfl
 have hR:=fun (t t':Bool) (m n m' n':Int) (w:World)=>equalIn_ty 9996 ⟨t,m,n⟩ ⟨t',m',n'⟩ w
 simp only[Ty.v] at hR
 have h:(Op.equalIn (9996+4) 36 a.v b.v).run Tryz.prog w=.ok (decide (a=b)) w:=by
  simp only[Dc.v]
  rw[run_equalIn_agg w (9996+3) 36 _ _ hS hp];simp only[Program.fieldsOf,Tryz.underlying36]
  go_simp;obtain⟨n,t,m,d⟩:=a;obtain⟨n',t',m',d'⟩:=b;have e:n.toList=n'.toList↔n=n':=⟨toList_inj,fun h=>h ▸ rfl⟩
  simp only[e,Dc.mk.injEq,Ty.mk.injEq]
  by_cases h1:n=n'<;>by_cases h2:t=t'<;>by_cases h3:m=m'<;>by_cases h4:d=d'<;>simp[h1,h2,h3,h4]
 simp only[Dc.v] at h⊢;rw[run_neq_struct,show (10000:Nat)=9996+4 from rfl,h];rfl
theorem neq_bk (a b:Bk) (w:World):(binOp .neq 93 a.v b.v).run Tryz.prog w=.ok (.bool (!decide (a=b))) w:=by
 have hS:Tryz.prog.underlying 93=some (.struct (Tryz.prog.fieldsOf 93)):=by kernel_rfl
 have hp:Tryz.prog.stoodInHeld 93=false:=by kernel_rfl
 have hR:=fun (n1 n2:Bool) (u1 u2 d1 d2:ByteArray) (w:World)=>equalIn_ra 9997 ⟨n1,u1,d1⟩ ⟨n2,u2,d2⟩ w
 simp only[Ra.v] at hR
 have h:(Op.equalIn (9997+3) 93 a.v b.v).run Tryz.prog w=.ok (decide (a=b)) w:=by
  simp only[Bk.v]
  rw[run_equalIn_agg w (9997+2) 93 _ _ hS hp];simp only[Program.fieldsOf,Tryz.underlying93]
  go_simp;obtain⟨⟨x0,x1,x2⟩,y0,y1,y2⟩:=a;obtain⟨⟨u0,u1,u2⟩,v0,v1,v2⟩:=b;simp only[Bk.mk.injEq,Ra.mk.injEq]
  by_cases h1:x0=u0<;>by_cases h2:x1=u1<;>by_cases h3:x2=u2<;>simp[h1,h2,h3]
  all_goals by_cases h4:y0=v0<;>by_cases h5:y1=v1<;>by_cases h6:y2=v2<;>simp[h4,h5,h6]
 simp only[Bk.v] at h⊢;rw[run_neq_struct,show (10000:Nat)=9997+3 from rfl,h];rfl
theorem eql_un (m n m' n':Int) (w:World):(binOp .eql 32 (.agg #[.int .i64 m,.int .i64 n]) (.agg #[.int .i64 m',.int .i64 n'])).run Tryz.prog w=.ok (.bool (decide (m=m')&&decide (n=n'))) w:=by
 rw[run_eql_struct,show (10000:Nat)=9998+2 from rfl,equalIn_un];rfl
theorem neq_un (m n m' n':Int) (w:World):(binOp .neq 32 (.agg #[.int .i64 m,.int .i64 n]) (.agg #[.int .i64 m',.int .i64 n'])).run Tryz.prog w=.ok (.bool (!(decide (m=m')&&decide (n=n')))) w:=by
 rw[run_neq_struct,show (10000:Nat)=9998+2 from rfl,equalIn_un];rfl
def eqD {α β:Type} [DecidableEq β] (f:α->β) (xs ys:List α) (k:Nat):Bool:=decide ((xs.drop k).map f=(ys.drop k).map f)
theorem eqD_step {α β:Type} [DecidableEq β] (f:α->β) {xs ys:List α} {k:Nat} (h1:k<xs.length) (h2:k<ys.length):eqD f xs ys k=(decide (f xs[k]=f ys[k])&&eqD f xs ys (k+1)):=by
 unfold eqD;rw[List.drop_eq_getElem_cons h1,List.drop_eq_getElem_cons h2,List.map_cons,List.map_cons,<-Bool.decide_and,decide_eq_decide,List.cons.injEq]
theorem eqD_end {α β:Type} [DecidableEq β] (f:α->β) {xs ys:List α} {n:Nat} (h1:n=xs.length) (h2:n=ys.length):eqD f xs ys n=true:=by
 unfold eqD;rw[List.drop_of_length_le (by omega),List.drop_of_length_le (by omega)];rfl
theorem eqD_len {α β:Type} [DecidableEq β] (f:α->β) {xs ys:List α} (h:xs.length≠ys.length):eqD f xs ys 0=false:=
 decide_eq_false fun e=>h (by simpa using congrArg List.length e)
theorem bkA_at {w:World} {A:Option Addr} {n c j:Nat} {xs:List Bk} (k:RowAt w Bk.cells xs ⟨A,n,c⟩) (hj:j<n):∃b off x,A=some ⟨b,off,none⟩/\b<w.heap.size/\∃hx:j<xs.length,xs[j]=x/\∀X,Below w.heap.size w X->X.cell? ⟨b,off+j*6,none⟩=some (.bool x.fr.neg)/\X.cell? ⟨b,off+j*6+1,none⟩=some (.string x.fr.num)/\X.cell? ⟨b,off+j*6+2,none⟩=some (.string x.fr.den)/\
  X.cell? ⟨b,off+j*6+3,none⟩=some (.bool x.rt.neg)/\X.cell? ⟨b,off+j*6+4,none⟩=some (.string x.rt.num)/\X.cell? ⟨b,off+j*6+5,none⟩=some (.string x.rt.den):=by
 obtain⟨b,off,hA,hb,hx,hc⟩:=k.at 6 (fun _=>rfl) (by omega) hj;exact⟨b,off,_,hA,hb,hx,rfl,fun X hX=>⟨hc X hX 0 _ rfl,hc X hX 1 _ rfl,hc X hX 2 _ rfl,hc X hX 3 _ rfl,hc X hX 4 _ rfl,hc X hX 5 _ rfl⟩⟩
theorem equalD_any (xs ys:List Dc) (h k:Hd) (w:World) (h1:RowAt w Dc.cells xs h) (h2:RowAt w Dc.cells ys k):
  Calls Tryz.prog 35 #[.slice h.a h.n h.c,.slice k.a k.n k.c] w fun e w'=>e=.returned (.bool (eqD id xs ys 0))/\Below w.heap.size w w':=by
 obtain⟨A,n,c⟩:=h;obtain⟨A',n',c'⟩:=k;have HL:=zH h1.len;have HL':=zH h2.len;have hm:n<=9223372036854775807:=by have a:=h1.cap;have b:=h1.max;unfold maxLen at b;simp only at a b;omega
 simp only at HL HL';by_cases hl:n=n'
 ·subst hl;go_enter Tryz.func35,Tryz.ntmps35;obtain⟨z,hz⟩:=zE (eqD id xs ys 0);rw[<-hz];have HZ:=zH hz;clear hz;go_wp2
  go_loopg [13] n (fun g iv wr=>∃j:Nat,j+g=n/\iv=.int .i64 j/\Hid (z=eqD id xs ys j)/\Below w.heap.size w wr)
  case atStart=>exact⟨0,by omega,rfl,HZ,Below.refl _ _⟩
  case round=>
   obtain⟨j,hj,rfl,hd,hb⟩:=hrel;by_cases hlt:j<n
   ·obtain⟨b,off,nm,t,m,d,rfl,_,hx,hxe,hc⟩:=dc_at h1 hlt;obtain⟨b',off',nm',t',m',d',rfl,_,hx',hxe',hc'⟩:=dc_at h2 hlt;have HS:=zH (hd.out.trans (eqD_step id hx hx'));rw[hxe,hxe'] at HS;have hc:=hc wr hb;have hc':=hc' wr hb;have hq:=fun W=>neq_dc ⟨nm,t,m,d⟩ ⟨nm',t',m',d'⟩ W
    unfold Dc.v at hq;simp only[id_eq] at hq HS;generalize decide ((⟨nm,t,m,d⟩:Dc)=⟨nm',t',m',d'⟩)=q at*;have j0:(0:Int)<=(j:Int):=by omega
    have j1:(j:Int)<(n:Int):=by omega
    clear hxe hxe' hd h1 h2;cases q
    ·obtain rfl:=HS.out;clear HS HZ;go_wp2;go_quiet (fail);go_wp2;go_ret;exact⟨rfl,bstep hb (drewN_below _ _ _)⟩
    ·have HN:Hid (z=eqD id xs ys (j+1)):=HS.out;clear HS HZ;go_wp2;go_quiet (fail);go_wp2
     go_roundg (n-(j+1))
     case measure=>omega
     case rel=>exact⟨j+1,by omega,by go_num,HN,bstep hb (drewN_below _ _ _)⟩
   ·obtain rfl:j=n:=by omega
    obtain rfl:z=true:=hd.out.trans (eqD_end id HL.out HL'.out);clear HZ hd;go_wp2;go_ret;exact⟨rfl,hb⟩
 ·rw[eqD_len id (fun e=>hl (by rw[HL.out,HL'.out,e]))];have e1:((n:Int) !=n')=true:=by rw[bne_iff_ne];omega
  go_enter Tryz.func35,Tryz.ntmps35;go_wp2;go_ret;exact⟨rfl,Below.refl _ _⟩
theorem equalB_any (xs ys:List Bk) (h k:Hd) (w:World) (h1:RowAt w Bk.cells xs h) (h2:RowAt w Bk.cells ys k):
  Calls Tryz.prog 38 #[.slice h.a h.n h.c,.slice k.a k.n k.c] w fun e w'=>e=.returned (.bool (eqD id xs ys 0))/\Below w.heap.size w w':=by
 obtain⟨A,n,c⟩:=h;obtain⟨A',n',c'⟩:=k;have HL:=zH h1.len;have HL':=zH h2.len;have hm:n<=9223372036854775807:=by have a:=h1.cap;have b:=h1.max;unfold maxLen at b;simp only at a b;omega
 simp only at HL HL';by_cases hl:n=n'
 ·subst hl;go_enter Tryz.func38,Tryz.ntmps38;obtain⟨z,hz⟩:=zE (eqD id xs ys 0);rw[<-hz];have HZ:=zH hz;clear hz;go_wp2
  go_loopg [13] n (fun g iv wr=>∃j:Nat,j+g=n/\iv=.int .i64 j/\Hid (z=eqD id xs ys j)/\Below w.heap.size w wr)
  case atStart=>exact⟨0,by omega,rfl,HZ,Below.refl _ _⟩
  case round=>
   obtain⟨j,hj,rfl,hd,hb⟩:=hrel;by_cases hlt:j<n
   ·obtain⟨b,off,x,rfl,_,hx,hxe,hc⟩:=bkA_at h1 hlt;obtain⟨b',off',x',rfl,_,hx',hxe',hc'⟩:=bkA_at h2 hlt;have HS:=zH (hd.out.trans (eqD_step id hx hx'));rw[hxe,hxe'] at HS;have hc:=hc wr hb;have hc':=hc' wr hb;have hq:=fun W=>neq_bk x x' W
    unfold Bk.v at hq;simp only[id_eq] at hq HS;generalize decide (x=x')=q at*;have j0:(0:Int)<=(j:Int):=by omega
    have j1:(j:Int)<(n:Int):=by omega
    clear hxe hxe' hd h1 h2;cases q
    ·obtain rfl:=HS.out;clear HS HZ;go_wp2;go_quiet (fail);go_wp2;go_ret;exact⟨rfl,bstep hb (drewN_below _ _ _)⟩
    ·have HN:Hid (z=eqD id xs ys (j+1)):=HS.out;clear HS HZ;go_wp2;go_quiet (fail);go_wp2
     go_roundg (n-(j+1))
     case measure=>omega
     case rel=>exact⟨j+1,by omega,by go_num,HN,bstep hb (drewN_below _ _ _)⟩
   ·obtain rfl:j=n:=by omega
    obtain rfl:z=true:=hd.out.trans (eqD_end id HL.out HL'.out);clear HZ hd;go_wp2;go_ret;exact⟨rfl,hb⟩
 ·rw[eqD_len id (fun e=>hl (by rw[HL.out,HL'.out,e]))];have e1:((n:Int) !=n')=true:=by rw[bne_iff_ne];omega
  go_enter Tryz.func38,Tryz.ntmps38;go_wp2;go_ret;exact⟨rfl,Below.refl _ _⟩
theorem zA2 {w W:World} {cs ds:Array Value} {t u:TypeId} (h:(w.alloc (.cells cs t)).alloc (.cells ds u)=W):Blk W w.heap.size t cs.toList/\Blk W (w.heap.size+1) u ds.toList/\Below w.heap.size w W:=by
 obtain⟨k1,b1⟩:=zA (w:=w) (cs:=cs) (t:=t) rfl;obtain⟨k2,b2⟩:=zA h;rw[World.size_alloc] at k2;exact⟨k1.below b2 k1.lt,k2,bstep b1 b2⟩
theorem row_lens {α:Type} {w:World} {enc:α->List Value} {xs:List α} {h:Hd} (k:RowAt w enc xs h):h.n=xs.length/\h.n<=maxLen:=⟨k.len,Nat.le_trans k.cap k.max⟩
theorem eqD0 {α:Type} [DecidableEq α] (xs ys:List α):eqD id xs ys 0=decide (xs=ys):=by simp[eqD]
theorem same1_any (x y:Sc × Hd) (w:World) (hx:RowAt w Bk.cells x.1.brs x.2) (hy:RowAt w Bk.cells y.1.brs y.2):
  Calls Tryz.prog 37 #[.agg (scCells x).toArray,.agg (scCells y).toArray] w fun e w'=>e=.returned (.bool (decide (x.1=y.1)))/\Below w.heap.size w w':=by
 obtain⟨⟨nm,m,d,bs⟩,hA⟩:=x;obtain⟨⟨nm',m',d',bs'⟩,hA'⟩:=y;have HB:=zH (fun W hb=>equalB_any bs bs' hA hA' W (hx.below hb) (hy.below hb));rw[eqD0] at HB
 have HV:decide ((⟨nm,m,d,bs⟩:Sc)=⟨nm',m',d',bs'⟩)=(decide (nm=nm')&&((decide (m=m')&&decide (d=d'))&&decide (bs=bs'))):=by
  rw[<-Bool.decide_and,<-Bool.decide_and,<-Bool.decide_and,decide_eq_decide,Sc.mk.injEq,and_assoc]
 rw[HV];have h1:=strQ nm nm';have h2:=fun W=>eql_un m d m' d' W
 generalize decide (nm=nm')=d1 at*;generalize (decide (m=m')&&decide (d=d'))=d2 at*;generalize decide (bs=bs')=d3 at*;clear hx hy HV;unfold scCells;go_enter Tryz.func37,Tryz.ntmps37
 go_upto_region 1 with fail
 generalize hX:(w.alloc _).alloc _=W2;obtain⟨k1,k2,hb⟩:=zA2 hX;have hc1:=k1.cells;have hc2:=k2.cells;clear hX k1 k2;cases d1
 ·go_wp2;go_ret;exact⟨rfl,hb⟩
 cases d2
 ·go_wp2;go_ret;exact⟨rfl,hb⟩
 go_wp2_with fail;refine (HB.out W2 hb).mono ?_;rintro e w3 ⟨rfl,hb3⟩;have hb':=bstep hb hb3;clear hc1 hc2 HB;go_wp2;go_ret;exact⟨rfl,hb'⟩
theorem same2_any (ref:Bool) (x y:Pv × Hd) (w:World) (hx:RowAt w Nd.cells x.1.body x.2) (hy:RowAt w Nd.cells y.1.body y.2):
  Calls Tryz.prog (if ref then 43 else 40) #[.agg (pvCells x).toArray,.agg (pvCells y).toArray] w fun e w'=>e=.returned (.bool (decide (x.1=y.1)))/\Below w.heap.size w w':=by
 obtain⟨⟨nm,⟨t0,t1,t2⟩,ch,⟨s0,s1,s2⟩,⟨c0,c1,c2⟩,bs⟩,⟨A,n,c⟩⟩:=x;obtain⟨⟨nm',⟨t0',t1',t2'⟩,ch',⟨s0',s1',s2'⟩,⟨c0',c1',c2'⟩,bs'⟩,⟨A',n',c'⟩⟩:=y;obtain⟨a1,a2⟩:=row_lens hx;obtain⟨b1,b2⟩:=row_lens hy;have HE:=zH (fun W hb=>eSame_any bs bs' A A' n c n' c' W a1 b1 a2 b2 (hx.below hb).rd (hy.below hb).rd);have HG:=zH (fun W hb=>gSame_any bs bs' A A' n c n' c' W a1 b1 a2 b2 (hx.below hb).rd (hy.below hb).rd)
 have HV:decide ((⟨nm,⟨t0,t1,t2⟩,ch,⟨s0,s1,s2⟩,⟨c0,c1,c2⟩,bs⟩:Pv)=⟨nm',⟨t0',t1',t2'⟩,ch',⟨s0',s1',s2'⟩,⟨c0',c1',c2'⟩,bs'⟩)=(decide (nm=nm')&&(decide ((⟨t0,t1,t2⟩:Ty)=⟨t0',t1',t2'⟩)&&(decide (ch=ch')&&(decide ((⟨s0,s1,s2⟩:Ra)=⟨s0',s1',s2'⟩)&&(decide ((⟨c0,c1,c2⟩:Ra)=⟨c0',c1',c2'⟩)&&decide (bs=bs')))))):=by
  rw[<-Bool.decide_and,<-Bool.decide_and,<-Bool.decide_and,<-Bool.decide_and,<-Bool.decide_and,decide_eq_decide,Pv.mk.injEq]
 rw[HV];have h1:=strQ nm nm';have h2:=fun W=>eql_ty ⟨t0,t1,t2⟩ ⟨t0',t1',t2'⟩ W
 have h3:(ch==ch')=decide (ch=ch'):=by cases ch<;>cases ch'<;>rfl
 have h4:=fun W=>eql_ra ⟨s0,s1,s2⟩ ⟨s0',s1',s2'⟩ W
 have h5:=fun W=>eql_ra ⟨c0,c1,c2⟩ ⟨c0',c1',c2'⟩ W
 unfold Ty.v at h2;unfold Ra.v at h4 h5;dsimp only at h2 h4 h5;generalize decide (nm=nm')=d1 at*;generalize decide ((⟨t0,t1,t2⟩:Ty)=⟨t0',t1',t2'⟩)=d2 at*;generalize decide (ch=ch')=d3 at*;generalize decide ((⟨s0,s1,s2⟩:Ra)=⟨s0',s1',s2'⟩)=d4 at*;generalize decide ((⟨c0,c1,c2⟩:Ra)=⟨c0',c1',c2'⟩)=d5 at*;generalize decide (bs=bs')=d6 at*;clear hx hy HV a1 a2 b1 b2;unfold pvCells;cases ref
 ·clear HG;simp only[Bool.false_eq_true,if_false]
  go_enter Tryz.func40,Tryz.ntmps40
  go_upto_region 1 with fail
  generalize hX:(w.alloc _).alloc _=W2;obtain⟨k1,k2,hb⟩:=zA2 hX;have hc1:=k1.cells;have hc2:=k2.cells;clear hX k1 k2;cases d1;rotate_left;cases d2;rotate_left;cases d3;rotate_left;cases d4;rotate_left;cases d5;rotate_left
  ·go_wp2_with fail;refine (HE.out W2 hb).mono ?_;rintro e w3 ⟨rfl,n3,rfl⟩;have hb':=bstep hb (drewN_below _ W2 n3);clear hc1 hc2 HE;go_wp2;go_ret;exact⟨rfl,hb'⟩
  all_goals
   go_wp2;go_ret;exact⟨rfl,hb⟩
 ·clear HE;simp only[if_true]
  go_enter Tryz.func43,Tryz.ntmps43
  go_upto_region 1 with fail
  generalize hX:(w.alloc _).alloc _=W2;obtain⟨k1,k2,hb⟩:=zA2 hX;have hc1:=k1.cells;have hc2:=k2.cells;clear hX k1 k2;cases d1;rotate_left;cases d2;rotate_left;cases d3;rotate_left;cases d4;rotate_left;cases d5;rotate_left
  ·go_wp2_with fail;refine (HG.out W2 hb).mono ?_;rintro e w3 ⟨rfl,n3,rfl⟩;have hb':=bstep hb (drewN_below _ W2 n3);clear hc1 hc2 HG;go_wp2;go_ret;exact⟨rfl,hb'⟩
  all_goals
   go_wp2;go_ret;exact⟨rfl,hb⟩
theorem equalS_any (xs ys:List (Sc × Hd)) (h k:Hd) (w:World) (h1:RowAt w scCells xs h) (h2:RowAt w scCells ys k) (s1:∀x∈xs,RowAt w Bk.cells x.1.brs x.2) (s2:∀x∈ys,RowAt w Bk.cells x.1.brs x.2):
  Calls Tryz.prog 36 #[.slice h.a h.n h.c,.slice k.a k.n k.c,.func (.func 37) #[] #[]] w fun e w'=>e=.returned (.bool (eqD Prod.fst xs ys 0))/\Below w.heap.size w w':=by
 have eg:∀args w,(callFunc 37 args).run Tryz.prog w=.ok (.enter 37 args) w:=enters_of Tryz.func37 (by kernel_rfl) rfl;obtain⟨A,n,c⟩:=h;obtain⟨A',n',c'⟩:=k;have HL:=zH h1.len;have HL':=zH h2.len;have hm:n<=9223372036854775807:=by have a:=h1.cap;have b:=h1.max;unfold maxLen at b;simp only at a b;omega
 simp only at HL HL';by_cases hl:n=n'
 ·subst hl;go_enter Tryz.func36,Tryz.ntmps36;obtain⟨z,hz⟩:=zE (eqD Prod.fst xs ys 0);rw[<-hz];have HZ:=zH hz;clear hz;go_wp2
  go_loopg [17] n (fun g iv wr=>∃j:Nat,j+g=n/\iv=.int .i64 j/\Hid (z=eqD Prod.fst xs ys j)/\Below w.heap.size w wr)
  case atStart=>exact⟨0,by omega,rfl,HZ,Below.refl _ _⟩
  case round=>
   obtain⟨j,hj,rfl,hd,hb⟩:=hrel;by_cases hlt:j<n
   ·obtain⟨b,off,nm,m,d,bs,hh,rfl,_,hx,hxe,hc⟩:=sc_at h1 hlt;obtain⟨b',off',nm',m',d',bs',hh',rfl,_,hx',hxe',hc'⟩:=sc_at h2 hlt;have HS:=zH (hd.out.trans (eqD_step Prod.fst hx hx'));have HQ:=zH (fun W hbw=>same1_any xs[j] ys[j] W ((s1 _ (List.getElem_mem hx)).below hbw) ((s2 _ (List.getElem_mem hx')).below hbw));rw[hxe,hxe'] at HS HQ;dsimp only[scCells] at HS HQ;have hc0:=hc wr hb;have HC2:=zH hc';generalize decide ((⟨nm,m,d,bs⟩:Sc)=⟨nm',m',d',bs'⟩)=q at*;have j0:(0:Int)<=(j:Int):=by omega
    have j1:(j:Int)<(n:Int):=by omega
    clear hxe hxe' hd h1 h2 s1 s2 hc hc'
    go_upto_region 6 with fail
    generalize hX:wr.alloc _=W1;obtain⟨k1,b1⟩:=zA hX;have hc1:=HC2.out W1 (bstep hb b1);clear hX hc0 HC2
    go_upto_region 7 with fail
    generalize hY:W1.alloc _=W2;obtain⟨k2,b2⟩:=zA hY;have hb3:=bstep (bstep hb b1) b2;have q1:=(k1.below b2 k1.lt).cells;have q2:=k2.cells;clear hY k1 k2 b1 b2 hc1;cases q
    ·obtain rfl:=HS.out;clear HS HZ;go_wp2_with fail;refine (HQ.out W2 hb3).mono ?_;rintro e w4 ⟨rfl,hb4⟩;have hb5:=bstep hb3 hb4;clear q1 q2 HQ;go_wp2;go_ret;exact⟨rfl,hb5⟩
    ·have HN:Hid (z=eqD Prod.fst xs ys (j+1)):=HS.out;clear HS HZ;go_wp2_with fail;refine (HQ.out W2 hb3).mono ?_;rintro e w4 ⟨rfl,hb4⟩;have hb5:=bstep hb3 hb4;clear q1 q2 HQ;go_wp2
     go_roundg (n-(j+1))
     case measure=>omega
     case rel=>exact⟨j+1,by omega,by go_num,HN,hb5⟩
   ·obtain rfl:j=n:=by omega
    obtain rfl:z=true:=hd.out.trans (eqD_end Prod.fst HL.out HL'.out);clear HZ hd;go_wp2;go_ret;exact⟨rfl,hb⟩
 ·rw[eqD_len Prod.fst (fun e=>hl (by rw[HL.out,HL'.out,e]))];have e1:((n:Int) !=n')=true:=by rw[bne_iff_ne];omega
  go_enter Tryz.func36,Tryz.ntmps36;go_wp2;go_ret;exact⟨rfl,Below.refl _ _⟩
theorem equalP_any (xs ys:List (Pv × Hd)) (h k:Hd) (w:World) (h1:RowAt w pvCells xs h) (h2:RowAt w pvCells ys k) (s1:∀x∈xs,RowAt w Nd.cells x.1.body x.2) (s2:∀x∈ys,RowAt w Nd.cells x.1.body x.2):
  Calls Tryz.prog 39 #[.slice h.a h.n h.c,.slice k.a k.n k.c,.func (.func 40) #[] #[]] w fun e w'=>e=.returned (.bool (eqD Prod.fst xs ys 0))/\Below w.heap.size w w':=by
 have eg:∀args w,(callFunc 40 args).run Tryz.prog w=.ok (.enter 40 args) w:=enters_of Tryz.func40 (by kernel_rfl) rfl;obtain⟨A,n,c⟩:=h;obtain⟨A',n',c'⟩:=k;have HL:=zH h1.len;have HL':=zH h2.len;have hm:n<=9223372036854775807:=by have a:=h1.cap;have b:=h1.max;unfold maxLen at b;simp only at a b;omega
 simp only at HL HL';by_cases hl:n=n'
 ·subst hl;go_enter Tryz.func39,Tryz.ntmps39;obtain⟨z,hz⟩:=zE (eqD Prod.fst xs ys 0);rw[<-hz];have HZ:=zH hz;clear hz;go_wp2
  go_loopg [17] n (fun g iv wr=>∃j:Nat,j+g=n/\iv=.int .i64 j/\Hid (z=eqD Prod.fst xs ys j)/\Below w.heap.size w wr)
  case atStart=>exact⟨0,by omega,rfl,HZ,Below.refl _ _⟩
  case round=>
   obtain⟨j,hj,rfl,hd,hb⟩:=hrel;by_cases hlt:j<n
   ·obtain⟨b,off,x,rfl,_,hx,hxe,hc⟩:=pv_at h1 hlt;obtain⟨b',off',y,rfl,_,hx',hxe',hc'⟩:=pv_at h2 hlt;have HS:=zH (hd.out.trans (eqD_step Prod.fst hx hx'));have HQ:=zH (fun W hbw=>same2_any false xs[j] ys[j] W ((s1 _ (List.getElem_mem hx)).below hbw) ((s2 _ (List.getElem_mem hx')).below hbw));rw[hxe,hxe'] at HS HQ;simp only[Bool.false_eq_true,if_false,pvCells] at HS HQ;have hc0:=hc wr hb;have HC2:=zH hc';generalize decide (x.1=y.1)=q at*;have j0:(0:Int)<=(j:Int):=by omega
    have j1:(j:Int)<(n:Int):=by omega
    clear hxe hxe' hd h1 h2 s1 s2 hc hc'
    go_upto_region 6 with fail
    generalize hX:wr.alloc _=W1;obtain⟨k1,b1⟩:=zA hX;have hc1:=HC2.out W1 (bstep hb b1);clear hX hc0 HC2
    go_upto_region 7 with fail
    generalize hY:W1.alloc _=W2;obtain⟨k2,b2⟩:=zA hY;have hb3:=bstep (bstep hb b1) b2;have q1:=(k1.below b2 k1.lt).cells;have q2:=k2.cells;clear hY k1 k2 b1 b2 hc1;cases q
    ·obtain rfl:=HS.out;clear HS HZ;go_wp2_with fail;refine (HQ.out W2 hb3).mono ?_;rintro e w4 ⟨rfl,hb4⟩;have hb5:=bstep hb3 hb4;clear q1 q2 HQ;go_wp2;go_ret;exact⟨rfl,hb5⟩
    ·have HN:Hid (z=eqD Prod.fst xs ys (j+1)):=HS.out;clear HS HZ;go_wp2_with fail;refine (HQ.out W2 hb3).mono ?_;rintro e w4 ⟨rfl,hb4⟩;have hb5:=bstep hb3 hb4;clear q1 q2 HQ;go_wp2
     go_roundg (n-(j+1))
     case measure=>omega
     case rel=>exact⟨j+1,by omega,by go_num,HN,hb5⟩
   ·obtain rfl:j=n:=by omega
    obtain rfl:z=true:=hd.out.trans (eqD_end Prod.fst HL.out HL'.out);clear HZ hd;go_wp2;go_ret;exact⟨rfl,hb⟩
 ·rw[eqD_len Prod.fst (fun e=>hl (by rw[HL.out,HL'.out,e]))];have e1:((n:Int) !=n')=true:=by rw[bne_iff_ne];omega
  go_enter Tryz.func39,Tryz.ntmps39;go_wp2;go_ret;exact⟨rfl,Below.refl _ _⟩
theorem law_eq {l l2:Lw} {ss ss2:List (Sc × Hd)} {ps ps2:List (Pv × Hd)} (h1:ss.map Prod.fst=l.schs) (h2:ps.map Prod.fst=l.provs) (h3:ss2.map Prod.fst=l2.schs) (h4:ps2.map Prod.fst=l2.provs):decide (l=l2)=(eqD id l.facts l2.facts 0&&(eqD Prod.fst ss ss2 0&&eqD Prod.fst ps ps2 0)):=by
 obtain⟨a,b,c⟩:=l;obtain⟨a',b',c'⟩:=l2;dsimp only at h1 h2 h3 h4;subst h1 h2 h3 h4;unfold eqD;rw[<-Bool.decide_and,<-Bool.decide_and,decide_eq_decide];simp
theorem uSame_any (l l2:Lw) (ss ss2:List (Sc × Hd)) (ps ps2:List (Pv × Hd)) (f f2 s s2 p p2:Hd) (w:World) (h:LawAt w l ss ps f s p) (k:LawAt w l2 ss2 ps2 f2 s2 p2):
  Calls Tryz.prog 13 #[lawV f s p,lawV f2 s2 p2] w fun e w'=>e=.returned (.bool (decide (l=l2)))/\Below w.heap.size w w':=by
 have H1:=zH (fun W hb=>equalD_any l.facts l2.facts f f2 W (h.below hb).f (k.below hb).f);have H2:=zH (fun W hb=>equalS_any ss ss2 s s2 W (h.below hb).s (k.below hb).s (h.below hb).sb (k.below hb).sb);have H3:=zH (fun W hb=>equalP_any ps ps2 p p2 W (h.below hb).p (k.below hb).p (h.below hb).pb (k.below hb).pb);rw[law_eq h.sl h.pl k.sl k.pl];generalize eqD id l.facts l2.facts 0=d1 at*;generalize eqD Prod.fst ss ss2 0=d2 at*;generalize eqD Prod.fst ps ps2 0=d3 at*;clear h k;obtain⟨fa,fn,fc⟩:=f;obtain⟨sa,sn,sc⟩:=s;obtain⟨pa,pn,pc⟩:=p;obtain⟨fa',fn',fc'⟩:=f2;obtain⟨sa',sn',sc'⟩:=s2;obtain⟨pa',pn',pc'⟩:=p2;unfold lawV;dsimp only at H1 H2 H3⊢;go_enter Tryz.func13,Tryz.ntmps13
 go_upto_region 1 with fail
 generalize hX:(w.alloc _).alloc _=W2;obtain⟨k1,k2,hb⟩:=zA2 hX;have hc:=fun Y (hY:Below W2.heap.size W2 Y)=>And.intro (k1.below hY k1.lt).cells (k2.below hY k2.lt).cells
 clear hX k1 k2;have hc2:=hc W2 (Below.refl _ _);go_wp2_with fail;refine (H1.out W2 hb).mono ?_;rintro e w3 ⟨rfl,hb3⟩;have hc3:=hc w3 hb3;have hb4:=bstep hb hb3;clear hc2 H1;cases d1
 ·go_wp2;go_ret;exact⟨rfl,hb4⟩
 go_wp2_with fail;refine (H2.out w3 hb4).mono ?_;rintro e w4 ⟨rfl,hb5⟩;have hc4:=hc w4 (bstep hb3 hb5);replace hb4:=bstep hb4 hb5;clear hc3 H2 hb3 hb5 hb;cases d2
 ·go_wp2;go_ret;exact⟨rfl,hb4⟩
 go_wp2_with fail;refine (H3.out w4 hb4).mono ?_;rintro e w5 ⟨rfl,hb5⟩;replace hb4:=bstep hb4 hb5;clear hc hc4 H3 hb5;go_wp2;go_ret;exact⟨rfl,hb4⟩
theorem xSameS_any (x y:Sc × Hd) (w:World) (hx:RowAt w Bk.cells x.1.brs x.2) (hy:RowAt w Bk.cells y.1.brs y.2):
  Calls Tryz.prog 42 #[.agg (scCells x).toArray,.agg (scCells y).toArray] w fun e w'=>e=.returned (.bool (decide (x.1=y.1)))/\Below w.heap.size w w':=by
 obtain⟨⟨nm,m,d,bs⟩,A,n,c⟩:=x;obtain⟨⟨nm',m',d',bs'⟩,A',n',c'⟩:=y;have HX:=zH hx;have HY:=zH hy;have HL:Hid (n=bs.length):=hx.len;have HL':Hid (n'=bs'.length):=hy.len;have hm:n<=9223372036854775807:=by have a:=hx.cap;have b:=hx.max;unfold maxLen at b;simp only at a b;omega
 have HV:decide ((⟨nm,m,d,bs⟩:Sc)=⟨nm',m',d',bs'⟩)=(decide (nm=nm')&&((decide (m=m')&&decide (d=d'))&&eqD id bs bs' 0)):=by
  rw[eqD0,<-Bool.decide_and,<-Bool.decide_and,<-Bool.decide_and,decide_eq_decide,Sc.mk.injEq,and_assoc]
 rw[HV];have HE:Hid (n≠n'->eqD id bs bs' 0=false):=fun h=>eqD_len id (fun e=>h (by rw[HL.out,HL'.out,e]))
 have h1:=strQ nm nm';have h2:=fun W=>neq_un m d m' d' W
 generalize decide (nm=nm')=d1 at*;generalize (decide (m=m')&&decide (d=d'))=d2 at*;obtain⟨z,hz⟩:=zE (eqD id bs bs' 0);rw[<-hz] at HE⊢;have HZ:=zH hz;clear hx hy HV hz;unfold scCells;dsimp only
 go_enter Tryz.func42,Tryz.ntmps42
 go_upto_region 1 with fail
 generalize hX:(w.alloc _).alloc _=W2;obtain⟨k1,k2,hb⟩:=zA2 hX;have hc:=fun Y (hY:Below W2.heap.size W2 Y)=>And.intro (k1.below hY k1.lt).cells (k2.below hY k2.lt).cells
 clear hX k1 k2;have hc2:=hc W2 (Below.refl _ _);cases d1
 ·clear hc;go_wp2;go_ret;exact⟨rfl,hb⟩
 cases d2
 ·clear hc;go_wp2;go_ret;exact⟨rfl,hb⟩
 by_cases hl:n=n'
 ·subst hl;clear HE;go_wp2
  go_loopg [5] n (fun g iv wr=>∃j:Nat,j+g=n/\iv=.int .i64 j/\Hid (z=eqD id bs bs' j)/\Below W2.heap.size W2 wr)
  case atStart=>exact⟨0,by omega,rfl,HZ,Below.refl _ _⟩
  case round=>
   clear hc2;obtain⟨j,hj,rfl,hd,hbr⟩:=hrel;have hcr:=hc wr hbr;have hbw:=bstep hb hbr;by_cases hlt:j<n
   ·obtain⟨b,off,x,rfl,_,hx,hxe,hc1⟩:=bkA_at HX.out hlt;obtain⟨b',off',x',rfl,_,hx',hxe',hc1'⟩:=bkA_at HY.out hlt;have HS:=zH (hd.out.trans (eqD_step id hx hx'));rw[hxe,hxe'] at HS;have hc1:=hc1 wr hbw;have hc1':=hc1' wr hbw;have hq:=fun W=>neq_bk x x' W
    unfold Bk.v at hq;simp only[id_eq] at HS;generalize decide (x=x')=q at*;have j0:(0:Int)<=(j:Int):=by omega
    have j1:(j:Int)<(n:Int):=by omega
    clear hxe hxe' hd hc;cases q
    ·obtain rfl:=HS.out;clear HS HZ;go_wp2;go_quiet (fail);go_wp2;go_ret;exact⟨rfl,bstep hbw (drewN_below _ _ _)⟩
    ·have HN:Hid (z=eqD id bs bs' (j+1)):=HS.out;clear HS HZ;go_wp2;go_quiet (fail);go_wp2
     go_roundg (n-(j+1))
     case measure=>omega
     case rel=>exact⟨j+1,by omega,by go_num,HN,bstep hbr (drewN_below _ _ _)⟩
   ·obtain rfl:j=n:=by omega
    obtain rfl:z=true:=hd.out.trans (eqD_end id HL.out HL'.out);clear HZ hd hc;go_wp2;go_ret;exact⟨rfl,hbw⟩
 ·obtain rfl:z=false:=HE.out hl;have e1:((n:Int) !=n')=true:=by rw[bne_iff_ne];omega
  clear hc;go_wp2;go_ret;exact⟨rfl,hb⟩
theorem xSame_any (l l2:Lw) (ss ss2:List (Sc × Hd)) (ps ps2:List (Pv × Hd)) (f f2 s s2 p p2:Hd) (w:World) (h:LawAt w l ss ps f s p) (k:LawAt w l2 ss2 ps2 f2 s2 p2):
  Calls Tryz.prog 14 #[lawV f s p,lawV f2 s2 p2] w fun e w'=>e=.returned (.bool (decide (l=l2)))/\Below w.heap.size w w':=by
 rw[law_eq h.sl h.pl k.sl k.pl];obtain⟨fa,fn,fc⟩:=f;obtain⟨sa,sn,sc⟩:=s;obtain⟨pa,pn,pc⟩:=p;obtain⟨fa',fn',fc'⟩:=f2;obtain⟨sa',sn',sc'⟩:=s2;obtain⟨pa',pn',pc'⟩:=p2;have HA:=zH h;have HB:=zH k;have f1:Hid (fn=l.facts.length/\fn'=l2.facts.length):=⟨h.f.len,k.f.len⟩
 have s1:Hid (sn=ss.length/\sn'=ss2.length):=⟨h.s.len,k.s.len⟩
 have p1:Hid (pn=ps.length/\pn'=ps2.length):=⟨h.p.len,k.p.len⟩
 have hm1:fn<=9223372036854775807:=by have a:=h.f.cap;have b:=h.f.max;unfold maxLen at b;simp only at a b;omega
 have hm2:sn<=9223372036854775807:=by have a:=h.s.cap;have b:=h.s.max;unfold maxLen at b;simp only at a b;omega
 have hm3:pn<=9223372036854775807:=by have a:=h.p.cap;have b:=h.p.max;unfold maxLen at b;simp only at a b;omega
 have HE1:Hid (fn≠fn'->eqD id l.facts l2.facts 0=false):=fun h=>eqD_len id (fun e=>h (by rw[f1.out.1,f1.out.2,e]))
 have HE2:Hid (sn≠sn'->eqD Prod.fst ss ss2 0=false):=fun h=>eqD_len _ (fun e=>h (by rw[s1.out.1,s1.out.2,e]))
 have HE3:Hid (pn≠pn'->eqD Prod.fst ps ps2 0=false):=fun h=>eqD_len _ (fun e=>h (by rw[p1.out.1,p1.out.2,e]))
 obtain⟨z1,hz1⟩:=zE (eqD id l.facts l2.facts 0);obtain⟨z2,hz2⟩:=zE (eqD Prod.fst ss ss2 0);obtain⟨z3,hz3⟩:=zE (eqD Prod.fst ps ps2 0);rw[<-hz1,<-hz2,<-hz3];rw[<-hz1] at HE1;rw[<-hz2] at HE2;rw[<-hz3] at HE3;have HZ1:=zH hz1;have HZ2:=zH hz2;have HZ3:=zH hz3;clear hz1 hz2 hz3 h k;unfold lawV;dsimp only
 go_enter Tryz.func14,Tryz.ntmps14
 go_upto_region 1 with fail
 generalize hX:(w.alloc _).alloc _=W2;obtain⟨k1,k2,hb⟩:=zA2 hX;have hc:=fun Y (hY:Below W2.heap.size W2 Y)=>And.intro (k1.below hY k1.lt).cells (k2.below hY k2.lt).cells
 clear hX k1 k2;have hc2:=hc W2 (Below.refl _ _);by_cases hl1:fn=fn';rotate_left
 ·obtain rfl:z1=false:=HE1.out hl1;have e1:((fn:Int) !=fn')=true:=by rw[bne_iff_ne];omega
  clear hc;go_wp2;go_ret;exact⟨rfl,hb⟩
 subst hl1;by_cases hl2:sn=sn';rotate_left
 ·obtain rfl:z2=false:=HE2.out hl2;have e1:((sn:Int) !=sn')=true:=by rw[bne_iff_ne];omega
  clear hc;go_wp2;go_ret;exact⟨by cases z1<;>rfl,hb⟩
 subst hl2;by_cases hl3:pn=pn';rotate_left
 ·obtain rfl:z3=false:=HE3.out hl3;have e1:((pn:Int) !=pn')=true:=by rw[bne_iff_ne];omega
  clear hc;go_wp2;go_ret;exact⟨by cases z1<;>cases z2<;>rfl,hb⟩
 subst hl3;clear HE1 HE2 HE3;go_wp2
 go_loopg [5] fn (fun g iv wr=>∃j:Nat,j+g=fn/\iv=.int .i64 j/\Hid (z1=eqD id l.facts l2.facts j)/\Below W2.heap.size W2 wr)
 case atStart=>exact⟨0,by omega,rfl,HZ1,Below.refl _ _⟩
 case round=>
  clear hc2;obtain⟨j,hj,rfl,hd,hbr⟩:=hrel;have hcr:=hc wr hbr;have hbw:=bstep hb hbr;by_cases hlt:j<fn
  ·obtain⟨b,off,nm,t,m,d,rfl,_,hx,hxe,hc1⟩:=dc_at HA.out.f hlt;obtain⟨b',off',nm',t',m',d',rfl,_,hx',hxe',hc1'⟩:=dc_at HB.out.f hlt;have HS:=zH (hd.out.trans (eqD_step id hx hx'));rw[hxe,hxe'] at HS;have hc1:=hc1 wr hbw;have hc1':=hc1' wr hbw;have hq:=fun W=>neq_dc ⟨nm,t,m,d⟩ ⟨nm',t',m',d'⟩ W
   unfold Dc.v at hq;simp only[id_eq] at hq HS;generalize decide ((⟨nm,t,m,d⟩:Dc)=⟨nm',t',m',d'⟩)=q at*;have j0:(0:Int)<=(j:Int):=by omega
   have j1:(j:Int)<(fn:Int):=by omega
   clear hxe hxe' hd hc;cases q
   ·obtain rfl:=HS.out;clear HS HZ1;go_wp2;go_quiet (fail);go_wp2;go_ret;exact⟨rfl,bstep hbw (drewN_below _ _ _)⟩
   ·have HN:Hid (z1=eqD id l.facts l2.facts (j+1)):=HS.out;clear HS HZ1;go_wp2;go_quiet (fail);go_wp2
    go_roundg (fn-(j+1))
    case measure=>omega
    case rel=>exact⟨j+1,by omega,by go_num,HN,bstep hbr (drewN_below _ _ _)⟩
  ·obtain rfl:j=fn:=by omega
   obtain rfl:z1=true:=hd.out.trans (eqD_end id f1.out.1 f1.out.2);clear HZ1 hd hlt;go_wp2
   go_loopg [6] sn (fun g iv X=>∃j:Nat,j+g=sn/\iv=.int .i64 j/\Hid (z2=eqD Prod.fst ss ss2 j)/\Below W2.heap.size W2 X)
   case atStart=>exact⟨0,by omega,rfl,HZ2,hbr⟩
   case round=>
    clear hcr hbw hbr;obtain⟨i,hi,rfl,hd,hbr⟩:=hrel;have hcr:=hc wr hbr;have hbw:=bstep hb hbr;by_cases hlt:i<sn
    ·obtain⟨b,off,nm,m,d,bs,hh,rfl,_,hx,hxe,hc1⟩:=sc_at HA.out.s hlt;obtain⟨b',off',nm',m',d',bs',hh',rfl,_,hx',hxe',hc1'⟩:=sc_at HB.out.s hlt;have HS:=zH (hd.out.trans (eqD_step Prod.fst hx hx'));have HQ:=zH (fun W hbw=>xSameS_any ss[i] ss2[i] W ((HA.out.sb _ (List.getElem_mem hx)).below hbw) ((HB.out.sb _ (List.getElem_mem hx')).below hbw));rw[hxe,hxe'] at HS HQ;dsimp only[scCells] at HS HQ;have hcS:=fun Y (hY:Below wr.heap.size wr Y)=>And.intro (hc Y (bstep hbr hY)) (And.intro (hc1 Y (bstep hbw hY)) (hc1' Y (bstep hbw hY)))
     generalize decide ((⟨nm,m,d,bs⟩:Sc)=⟨nm',m',d',bs'⟩)=q at*;have j0:(0:Int)<=(i:Int):=by omega
     have j1:(i:Int)<(sn:Int):=by omega
     clear hxe hxe' hd hc hc1 hc1'
     go_upto_region 11 with fail
     clear hcr;refine reS (Below wr.heap.size wr) 99 (drewN_below _ _ 1) (fun w5 _ hS=>?_)
     iterate 10 refine reA ?_
     refine reC 10 (HQ.out _ (bstep hbw hS)) ?_;rintro e w6 ⟨rfl,hb6⟩;refine⟨_,rfl,bstep hS hb6,fun hS=>?_⟩;refine reA ?_;refine reE ?_;clear hcS HQ hb6;cases q
     ·obtain rfl:=HS.out;clear HS HZ2;go_wp2;go_ret;exact⟨rfl,bstep hbw hS⟩
     ·have HN:Hid (z2=eqD Prod.fst ss ss2 (i+1)):=HS.out;clear HS HZ2;go_wp2
      go_roundg (sn-(i+1))
      case measure=>omega
      case rel=>exact⟨i+1,by omega,by go_num,HN,bstep hbr hS⟩
    ·obtain rfl:i=sn:=by omega
     obtain rfl:z2=true:=hd.out.trans (eqD_end Prod.fst s1.out.1 s1.out.2);clear HZ2 hd hlt;go_wp2
     go_loopg [7] pn (fun g iv X=>∃j:Nat,j+g=pn/\iv=.int .i64 j/\Hid (z3=eqD Prod.fst ps ps2 j)/\Below W2.heap.size W2 X)
     case atStart=>exact⟨0,by omega,rfl,HZ3,hbr⟩
     case round=>
      clear hcr hbw hbr;obtain⟨i,hi,rfl,hd,hbr⟩:=hrel;have hcr:=hc wr hbr;have hbw:=bstep hb hbr;by_cases hlt:i<pn
      ·obtain⟨b,off,x,rfl,_,hx,hxe,hc1⟩:=pv_at HA.out.p hlt;obtain⟨b',off',x',rfl,_,hx',hxe',hc1'⟩:=pv_at HB.out.p hlt;have HS:=zH (hd.out.trans (eqD_step Prod.fst hx hx'));have HQ:=zH (fun W hbw=>same2_any true ps[i] ps2[i] W ((HA.out.pb _ (List.getElem_mem hx)).below hbw) ((HB.out.pb _ (List.getElem_mem hx')).below hbw));rw[hxe,hxe'] at HS HQ;simp only[if_true,pvCells] at HS HQ;have hcS:=fun Y (hY:Below wr.heap.size wr Y)=>And.intro (hc Y (bstep hbr hY)) (And.intro (hc1 Y (bstep hbw hY)) (hc1' Y (bstep hbw hY)))
       generalize decide (x.1=x'.1)=q at*;have j0:(0:Int)<=(i:Int):=by omega
       have j1:(i:Int)<(pn:Int):=by omega
       clear hxe hxe' hd hc hc1 hc1'
       go_upto_region 16 with fail
       clear hcr;refine reS (Below wr.heap.size wr) 99 (drewN_below _ _ 1) (fun w5 _ hS=>?_)
       iterate 10 refine reA ?_
       refine reC 10 (HQ.out _ (bstep hbw hS)) ?_;rintro e w6 ⟨rfl,hb6⟩;refine⟨_,rfl,bstep hS hb6,fun hS=>?_⟩;refine reA ?_;refine reE ?_;clear hcS HQ hb6;cases q
       ·obtain rfl:=HS.out;clear HS HZ3;go_wp2;go_ret;exact⟨rfl,bstep hbw hS⟩
       ·have HN:Hid (z3=eqD Prod.fst ps ps2 (i+1)):=HS.out;clear HS HZ3;go_wp2
        go_roundg (pn-(i+1))
        case measure=>omega
        case rel=>exact⟨i+1,by omega,by go_num,HN,bstep hbr hS⟩
      ·obtain rfl:i=pn:=by omega
       obtain rfl:z3=true:=hd.out.trans (eqD_end Prod.fst p1.out.1 p1.out.2);clear HZ3 hd hlt;clear hc;go_wp2;go_ret;exact⟨rfl,hbw⟩
theorem textR_size50 (a:Ra) (hn:a.num.size<=50) (hd:a.den.size<=50):(textR a).size<=302:=by
 obtain⟨h1,h2⟩:=valR_size a 50 (by omega) hn hd;have h3:=decS_size (vbs (valR a).num) 50 (by omega) (vbs_le _ 50 h1);have h4:=decS_size (vbs (valR a).den) 50 (by omega) (vbs_le _ 50 h2);unfold textR
 have hs:(if (valR a).neg then (⟨#[45]⟩:ByteArray)++decS (vbs (valR a).num) else decS (vbs (valR a).num)).size<=151:=by
  split
  ·rw[ByteArray.size_append];show 1+_<=_;omega
  ·omega
 simp only
 generalize (if (valR a).neg then (⟨#[45]⟩:ByteArray)++decS (vbs (valR a).num) else decS (vbs (valR a).num))=s at*;split
 ·omega
 ·rw[ByteArray.size_append,ByteArray.size_append];show _+(1+_)<=_;omega
theorem fits_size50 {a:Ra} (h:fitsR a=true):a.num.size<=50/\a.den.size<=50:=by
 unfold fitsR at h;simp only[Bool.and_eq_true,decide_eq_true_eq] at h;obtain⟨⟨h1,h2⟩,h3⟩:=h;obtain⟨e1,e2,_⟩:=okR_parts h1;obtain⟨K,hK⟩:=zE 400;have hk:(2:Nat) ^ K=256 ^ 50:=by rw[show K=8*50 from by omega,show (256:Nat)=2 ^ 8 from rfl,<-Nat.pow_mul]
 have hlt:∀m,bitsN m<=400->m<256 ^ 50:=by
  intro m hm;unfold bitsN at hm;by_cases h0:m=0
  ·rw[h0];exact Nat.pow_pos (by omega)
  ·rw[if_neg h0] at hm;rw[<-hk];exact (Nat.log2_lt h0).1 (by omega)
 have g1:=nbs_size_le _ 50 (hlt _ h2);have g2:=nbs_size_le _ 50 (hlt _ h3);rw[<-e1] at g1;rw[<-e2] at g2;exact⟨g1,g2⟩
theorem wrongN_size {n:Nd} (h:wrongN n=0):n.num.num.size<=50/\n.num.den.size<=50:=by
 have hn:=(wrongN_parts h).2.2.2.1;unfold numOk at hn;have k0:(ofI 0).num.size<=50/\(ofI 0).den.size<=50:=by decide+kernel
 have k1:(ofI 1).num.size<=50/\(ofI 1).den.size<=50:=by decide+kernel
 have k2:zR.num.size<=50/\zR.den.size<=50:=by decide+kernel
 split at hn
 ·simp only[Bool.or_eq_true,decide_eq_true_eq] at hn;rcases hn with hn|hn<;>rw[hn]
  ·exact k0
  ·exact k1
 ·split at hn
  ·exact fits_size50 hn
  ·split at hn
   ·simp only[Bool.and_eq_true] at hn;exact fits_size50 hn.1
   ·rw[of_decide_eq_true hn];exact k2
theorem txt_len50 {n:Nd} (h:wrongN n=0) (ops:List (List UInt8)):(txt n ops).length<=700+(ops.map List.length).sum+2*ops.length:=by
 obtain⟨w1,w2⟩:=wrongN_size h;have ht:=textR_size50 n.num w1 w2;have ht':(textR n.num).data.toList.length=(textR n.num).size:=by simp
 have hj:=joinC_len ops;have hw:=shp_word_len n.op;have hn:=name_len h;have hn':n.name.data.toList.length=n.name.size:=by simp
 unfold txt;split
 ·split<;>simp<;>omega
 ·simp only[List.length_append]
  have e1:(if (shp n.op).lit=true then (textR n.num).data.toList else []).length<=302:=by split<;>simp<;>omega
  have e2:(if n.op=2 then [100] else ([]:List UInt8)).length<=1:=by split<;>simp
  have e3:(if (shp n.op).stp=true then [91]++(textR n.num).data.toList++[93] else []).length<=304:=by split<;>simp<;>omega
  have e4:(if (shp n.op).ops=0 then [] else [40]++joinC ops++[41]).length<=(joinC ops).length+2:=by split<;>simp<;>omega
  omega
theorem meas_rev (l:List (List UInt8)):meas l.reverse=meas l:=by unfold meas;rw[List.map_reverse,List.sum_reverse,List.length_reverse]
theorem runT_len (es:List Nd):∀st,(∀n∈es,wrongN n=0)->meas (runT es st)<=meas st+702*es.length:=by
 induction es with
 |nil=>intro st _;exact Nat.le_refl _
 |cons n es ih=>
  intro st hw;have h1:=ih (pshT st n) (fun m hm=>hw m (List.mem_cons_of_mem _ hm));have h2:=txt_len50 (hw n (List.mem_cons_self ..)) (st.take (shp n.op).ops).reverse;have h3:=meas_split st (shp n.op).ops;have h4:=meas_rev (st.take (shp n.op).ops)
  have h5:meas (pshT st n)<=meas st+702:=by
   unfold pshT;show ((txt n _::_).map List.length).sum+2*(txt n _::_).length<=_;rw[List.map_cons,List.sum_cons,List.length_cons];unfold meas at h3 h4⊢;omega
  rw[List.length_cons];show meas (runT es (pshT st n))<=_;omega
theorem textE_len60 {e:List Nd} (h:checkE e=0):(textE e).length<=42120:=by
 have h1:=runT_len e [] (checkE_wr h);have h2:=((checkE_iff e).1 h).1
 have h3:(textE e).length<=meas (runT e []):=by
  unfold textE meas;cases runT e [] with
  |nil=>simp
  |cons a l=>simp;omega
 have h4:meas ([]:List (List UInt8))=0:=rfl;omega
end Go.Proofs.YtimokmplkpbmdaaGreatDoor
