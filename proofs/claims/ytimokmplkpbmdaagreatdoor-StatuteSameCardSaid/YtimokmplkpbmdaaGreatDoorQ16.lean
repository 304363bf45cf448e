/- A part of the proof: Fr Q9 Qa Qb Y4 Ya K7. -/
import Derived.Test.YtimokmplkpbmdaaGreatDoorQ15
set_option linter.all false
set_option maxRecDepth 100000
set_option maxHeartbeats 0
namespace Go.Proofs.YtimokmplkpbmdaaGreatDoor
open Go.RowKit
structure Fr (w0:World) (B:Nat) (l:List (TypeId × List Value)) (W:World):Prop where
 b:Hid (B=w0.heap.size)
 blk:∀i x,l[i]?=some x->aj W (B+i) x.1 x.2
 sz:Hid (B+l.length<=W.heap.size)
 low:Below w0.heap.size w0 W
theorem Fr.one (w:World) (t:TypeId) (cs:Array Value):Fr w w.heap.size [(t,cs.toList)] (w.alloc (.cells cs t)):=by
 refine⟨rfl,fun i x h=>?_,?_,(Below.refl _ _).alloc (Nat.le_refl _) _⟩
 ·cases i with
  |zero=>injection h with h;subst h;exact aj.new w t cs
  |succ i=>cases h
 ·show _<=_;rw[World.size_alloc];exact Nat.le_refl _
theorem Fr.more {w0 W:World} {B:Nat} {l:List (TypeId × List Value)} (h:Fr w0 B l W) (hz:W.heap.size=B+l.length) (t:TypeId) (cs:Array Value):Fr w0 B (l++[(t,cs.toList)]) (W.alloc (.cells cs t)):=by
 refine⟨h.b,fun i x hx=>?_,?_,h.low.alloc (by rw[hz,h.b.out];omega) _⟩
 ·rcases Nat.lt_or_ge i l.length with hi|hi
  ·rw[List.getElem?_append_left hi] at hx;exact (h.blk i x hx).alloc _
  ·rw[List.getElem?_append_right hi] at hx;obtain⟨j,rfl⟩:∃j,i=l.length+j:=⟨i-l.length,by omega⟩
   rw[Nat.add_sub_cancel_left] at hx;cases j with
   |zero=>injection hx with hx;subst hx;have:=aj.new W t cs;rw[hz] at this;exact this
   |succ j=>cases hx
 ·show _<=_;rw[World.size_alloc,hz,List.length_append];show _+(_+1)<=_;omega
theorem Fr.two (w:World) (t t':TypeId) (cs cs':Array Value):Fr w w.heap.size [(t,cs.toList),(t',cs'.toList)] ((w.alloc (.cells cs t)).alloc (.cells cs' t')):=
 (Fr.one w t cs).more (by rw[World.size_alloc];rfl) t' cs'
theorem Fr.three (w:World) (t t' t'':TypeId) (cs cs' cs'':Array Value):Fr w w.heap.size [(t,cs.toList),(t',cs'.toList),(t'',cs''.toList)] (((w.alloc (.cells cs t)).alloc (.cells cs' t')).alloc (.cells cs'' t'')):=
 (Fr.two w t t' cs cs').more (by rw[World.size_alloc,World.size_alloc];rfl) t'' cs''
variable {w0 W:World} {B:Nat} {l:List (TypeId × List Value)}
theorem Fr.below {W':World} (h:Fr w0 B l W) (hb:Below W.heap.size W W'):Fr w0 B l W':=
 ⟨h.b,fun i x hx=>(h.blk i x hx).below hb (h.blk i x hx).lt,Nat.le_trans h.sz.out hb.size,ah h.low hb⟩
theorem Fr.alloc (h:Fr w0 B l W) (o:Obj):Fr w0 B l (W.alloc o):=h.below (zB _ _)
theorem Fr.drew (h:Fr w0 B l W):Fr w0 B l W.drew:=h.below (ak W.heap.size W 1)
theorem Fr.set {i:Nat} {t:TypeId} {cs:List Value} (h:Fr w0 B l W) (hi:l[i]?=some (t,cs)) (j:Nat) (v:Value):Fr w0 B (l.set i (t,cs.set j v)) (W.setCell ⟨B+i,j,none⟩ v):=by
 have hil:i<l.length:=(List.getElem?_eq_some_iff.1 hi).1;refine⟨h.b,fun k x hx=>?_,?_,h.low.setCell (p:=⟨B+i,j,none⟩) (by have:=h.b.out;show _<=B+i;omega) v⟩
 ·by_cases hk:k=i
  ·subst hk;rw[List.getElem?_set_self hil] at hx;injection hx with hx;subst hx;exact (h.blk k _ hi).set j v
  ·rw[List.getElem?_set_ne (fun e=>hk e.symm)] at hx;exact (h.blk k x hx).other (by show B+k≠B+i;omega) v
 ·show _<=_;rw[World.size_setCell,List.length_set];exact h.sz.out
theorem Fr.set0 {t:TypeId} {cs:List Value} {r:List (TypeId × List Value)} (h:Fr w0 B ((t,cs)::r) W) (j:Nat) (v:Value):Fr w0 B ((t,cs.set j v)::r) (W.setCell ⟨B,j,none⟩ v):=h.set (i:=0) rfl j v
theorem Fr.c0 {x:TypeId × List Value} {r:List (TypeId × List Value)} (h:Fr w0 B (x::r) W):∀j,W.cell? ⟨B,j,none⟩=x.2[j]?:=(h.blk 0 x rfl).cells
theorem Fr.f0 {x:TypeId × List Value} {r:List (TypeId × List Value)} (h:Fr w0 B (x::r) W):∀j,W.frozen? ⟨B,j,none⟩=false:=(h.blk 0 x rfl).aI
theorem Fr.c {i:Nat} {x:TypeId × List Value} (h:Fr w0 B l W) (hi:l[i]?=some x):∀j,W.cell? ⟨B+i,j,none⟩=x.2[j]?:=(h.blk i x hi).cells
theorem Fr.f {i:Nat} {x:TypeId × List Value} (h:Fr w0 B l W) (hi:l[i]?=some x):∀j,W.frozen? ⟨B+i,j,none⟩=false:=(h.blk i x hi).aI
theorem Fr.out (h:Fr w0 B l W) {W':World} (hb:Below W.heap.size W W'):Below w0.heap.size w0 W':=ah h.low hb
end Go.Proofs.YtimokmplkpbmdaaGreatDoor
namespace Go.Proofs.YtimokmplkpbmdaaGreatDoor
open Go.RowKit
def yT (a:Ra):Ra:=⟨!a.neg&&decide (a.num≠⟨#[]⟩),a.num,a.den⟩
def wM (a b:Ra):Ra:=
 if a.neg=b.neg then low a.neg (ay a.num*ay b.den+ay b.num*ay a.den) (ay a.den*ay b.den)
 else if ay b.num*ay a.den<=ay a.num*ay b.den then low a.neg (ay a.num*ay b.den-ay b.num*ay a.den) (ay a.den*ay b.den)
 else low b.neg (ay b.num*ay a.den-ay a.num*ay b.den) (ay a.den*ay b.den)
def sJ (a b:Ra):Int:=eH (wM a (yT b))
theorem oV {a:Ra} (h:okR a=true):fD a=a:=by unfold fD;rw[if_pos h]
theorem jc {a:Ra} (h:okR a=true):dM a.den=true/\0<ay a.den/\dM a.num=true/\low a.neg (ay a.num) (ay a.den)=a:=by
 unfold okR at h;rw[Bool.and_eq_true,Bool.and_eq_true,Bool.and_eq_true,decide_eq_true_eq,decide_eq_true_eq] at h;exact⟨h.1.1.1,h.1.1.2,h.1.2,h.2⟩
theorem ad5 {a:Ra} (h:okR a=true):okR (yT a)=true:=by
 obtain⟨h1,h2,h3,h4⟩:=jc h;obtain⟨neg,num,den⟩:=a;simp only at h1 h2 h3 h4;unfold okR yT;simp only[h1,h3,decide_eq_true h2,Bool.true_and]
 rw[decide_eq_true_eq];unfold low at h4⊢;injection h4 with h5 h6 h7;rw[h6,h7];congr 1
 have e:num=⟨#[]⟩↔ay num=0:=by
  have:=(gq num).1 h3;constructor
  ·intro h;rw[h];rfl
  ·intro h;rw[this,h];exact (zU 0).2 rfl
 by_cases hz:ay num=0
 ·simp[hz,e.2 hz]
 ·have:¬(num=⟨#[]⟩):=fun h=>hz (e.1 h)
  simp[hz,this]
theorem acA (a:Ra) (w:World) (hok:okR a=true) (hn:a.num.size<=536870912) (hd:a.den.size<=536870912):
  Calls Tryz.prog 155 #[a.v] w fun e w'=>e=.returned (yT a).v/\Below w.heap.size w w':=by
 have HR:=zH (fun w=>oP a w hn hd);rw[oV hok] at HR;obtain⟨neg,num,den⟩:=a;have HN:Hid (yT ⟨neg,num,den⟩=⟨!neg&&decide (num≠⟨#[]⟩),num,den⟩):=rfl;unfold Ra.v at HR⊢;rw[HN.out];simp only at HR⊢;obtain⟨ng,Gw⟩:=zF ((!neg&&decide (num≠⟨#[]⟩)));rw[Gw];have HNG:=zH Gw;clear Gw HN;obtain⟨W,hW⟩:=zE ((w.alloc (.cells #[.bool neg,.string num,.string den] 43)).alloc (.cells #[.bool false,.string ⟨#[]⟩,.string ⟨#[]⟩] 43));have hf:=Fr.two w 43 43 #[.bool neg,.string num,.string den] #[.bool false,.string ⟨#[]⟩,.string ⟨#[]⟩];obtain⟨B,hB⟩:=zE w.heap.size;rw[<-hW,<-hB] at hf;have c0:=hf.c0;clear hn hd hok;go_enter Tryz.func155,Tryz.ntmps155;go_wp2_with fail;simp only[<-hW,<-hB]
 clear hW hB;refine (HR.out _).mono ?_;rintro e w1 ⟨rfl,hb1⟩;have hf1:=hf.below hb1;clear c0 hf hb1;have c0:=hf1.c0;have f0:=hf1.f0
 go_upto_region 2 with fail
 have hf2:=((hf1.set0 0 (.bool neg)).set0 1 (.string num)).set0 2 (.string den);simp only[List.set_cons_zero,List.set_cons_succ] at hf2;generalize ((w1.setCell ⟨B,0,none⟩ (.bool neg)).setCell ⟨B,1,none⟩ (.string num)).setCell ⟨B,2,none⟩ (.string den)=w2 at*;clear c0 f0 hf1;have c0:=hf2.c0;have f0:=hf2.f0;have c1:=hf2.c (i:=1) rfl;have f1:=hf2.f (i:=1) rfl;have HF:=zH hf2;clear hf2;by_cases he:num=⟨#[]⟩
 ·obtain rfl:ng=false:=by rw[<-HNG.out,decide_eq_false (fun h=>h he),Bool.and_false]
  subst he;clear HNG;cases neg
  all_goals
   go_wp2;refine bodyPost_ret (v:=.agg #[.bool false,.string ⟨#[]⟩,.string den]) (by simp[results,Tryz.results155,go_sem,c0,c1]) rfl ⟨rfl,?_⟩;exact ((((HF.out.set0 0 _).set (i:=1) rfl 0 _).set (i:=1) rfl 1 _).set (i:=1) rfl 2 _).low
 ·have he2:num.toList.isEmpty=false:=by
   cases h:num.toList.isEmpty
   ·rfl
   ·exact absurd (toList_inj (by rw[List.isEmpty_iff.1 h,ByteArray.toList_eq])) he
  have jY:ng= !neg:=by rw[<-HNG.out,decide_eq_true he,Bool.and_true]
  subst jY;clear HNG;cases neg
  ·go_wp2;refine bodyPost_ret (v:=.agg #[.bool true,.string num,.string den]) (by simp[results,Tryz.results155,go_sem,c0,c1]) rfl ⟨rfl,?_⟩;exact ((((HF.out.set0 0 _).set (i:=1) rfl 0 _).set (i:=1) rfl 1 _).set (i:=1) rfl 2 _).low
  ·go_wp2;refine bodyPost_ret (v:=.agg #[.bool false,.string num,.string den]) (by simp[results,Tryz.results155,go_sem,c0,c1]) rfl ⟨rfl,?_⟩;exact ((((HF.out.set0 0 _).set (i:=1) rfl 0 _).set (i:=1) rfl 1 _).set (i:=1) rfl 2 _).low
abbrev AS (w:World) (B:Nat) (neg neg':Bool) (num den num' bZ:ByteArray) (W:World):Prop:=
 (∀j,W.cell? ⟨B,j,none⟩=([.bool neg,.string num,.string den]:List Value)[j]?)/\(∀j,W.cell? ⟨B+1,j,none⟩=([.bool neg',.string num',.string bZ]:List Value)[j]?)/\(∀j,W.frozen? ⟨B,j,none⟩=false)/\(∀j,W.frozen? ⟨B+1,j,none⟩=false)/\Fr w B [(43,([.bool neg,.string num,.string den]:List Value)),(43,[.bool neg',.string num',.string bZ]),(43,[.bool false,.string ⟨#[]⟩,.string ⟨#[]⟩])] W
theorem AS.of {w:World} {B:Nat} {neg neg':Bool} {num den num' bZ:ByteArray} {W:World} (h:Fr w B [(43,([.bool neg,.string num,.string den]:List Value)),(43,[.bool neg',.string num',.string bZ]),(43,[.bool false,.string ⟨#[]⟩,.string ⟨#[]⟩])] W):AS w B neg neg' num den num' bZ W:=
 ⟨h.c0,h.c (i:=1) rfl,h.f0,h.f (i:=1) rfl,h⟩
theorem AS.below {w:World} {B:Nat} {neg neg':Bool} {num den num' bZ:ByteArray} {W W':World} (h:AS w B neg neg' num den num' bZ W) (hb:Below W.heap.size W W'):AS w B neg neg' num den num' bZ W':=AS.of (h.2.2.2.2.below hb)
theorem AS.st0 {w:World} {B:Nat} {neg neg':Bool} {num den num' bZ:ByteArray} {W:World} (h:AS w B neg neg' num den num' bZ W):AS w B neg neg' num den num' bZ (((W.setCell ⟨B,0,none⟩ (.bool neg)).setCell ⟨B,1,none⟩ (.string num)).setCell ⟨B,2,none⟩ (.string den)):=
 AS.of (((h.2.2.2.2.set0 0 (.bool neg)).set0 1 (.string num)).set0 2 (.string den))
theorem AS.st1 {w:World} {B:Nat} {neg neg':Bool} {num den num' bZ:ByteArray} {W:World} (h:AS w B neg neg' num den num' bZ W):AS w B neg neg' num den num' bZ (((W.setCell ⟨B+1,0,none⟩ (.bool neg')).setCell ⟨B+1,1,none⟩ (.string num')).setCell ⟨B+1,2,none⟩ (.string bZ)):=
 AS.of (((h.2.2.2.2.set (i:=1) rfl 0 (.bool neg')).set (i:=1) rfl 1 (.string num')).set (i:=1) rfl 2 (.string bZ))
theorem V4 (neg neg':Bool) (num num' den bZ X Y D:ByteArray) (w:World) (r:Ra)
  (jr:Hid (∀W,Calls Tryz.prog 122 #[.agg #[.bool neg,.string num,.string den]] W fun e w'=>e=.returned (.agg #[.bool neg,.string num,.string den])/\Below W.heap.size W w'))
  (jX:Hid (∀W,Calls Tryz.prog 122 #[.agg #[.bool neg',.string num',.string bZ]] W fun e w'=>e=.returned (.agg #[.bool neg',.string num',.string bZ])/\Below W.heap.size W w'))
  (lH:Hid (∀W,Calls Tryz.prog 161 #[.string num,.string bZ] W fun e w'=>e=.returned (.string X)/\Below W.heap.size W w'))
  (rW:Hid (∀W,Calls Tryz.prog 161 #[.string num',.string den] W fun e w'=>e=.returned (.string Y)/\Below W.heap.size W w'))
  (V5:Hid (∀W,Calls Tryz.prog 161 #[.string den,.string bZ] W fun e w'=>e=.returned (.string D)/\Below W.heap.size W w'))
  (hc:(neg=neg'/\∃Z,Hid (∀W,Calls Tryz.prog 153 #[.string X,.string Y] W fun e w'=>e=.returned (.string Z)/\Below W.heap.size W w')/\Hid (∀W,Calls Tryz.prog 114 #[.bool neg,.string Z,.string D] W fun e w'=>e=.returned r.v/\Below W.heap.size W w'))∨
    ((neg==neg')=false/\∃Z,Hid (∀W,Calls Tryz.prog 187 #[.string X,.string Y] W fun e w'=>e=.returned (.tuple #[.string Z,.bool true])/\Below W.heap.size W w')/\Hid (∀W,Calls Tryz.prog 114 #[.bool neg,.string Z,.string D] W fun e w'=>e=.returned r.v/\Below W.heap.size W w'))∨
    ((neg==neg')=false/\∃Z,Hid (∀W,Calls Tryz.prog 187 #[.string X,.string Y] W fun e w'=>e=.returned (.tuple #[.string ⟨#[]⟩,.bool false])/\Below W.heap.size W w')/\Hid (∀W,Calls Tryz.prog 187 #[.string Y,.string X] W fun e w'=>e=.returned (.tuple #[.string Z,.bool true])/\Below W.heap.size W w')/\Hid (∀W,Calls Tryz.prog 114 #[.bool neg',.string Z,.string D] W fun e w'=>e=.returned r.v/\Below W.heap.size W w'))):
  Calls Tryz.prog 154 #[.agg #[.bool neg,.string num,.string den],.agg #[.bool neg',.string num',.string bZ]] w fun e w'=>e=.returned r.v/\Below w.heap.size w w':=by
 obtain⟨rn,ru,rd⟩:=r;unfold Ra.v at hc⊢;simp only at hc⊢;obtain⟨W,hW⟩:=zE (((w.alloc (.cells #[.bool neg,.string num,.string den] 43)).alloc (.cells #[.bool neg',.string num',.string bZ] 43)).alloc (.cells #[.bool false,.string ⟨#[]⟩,.string ⟨#[]⟩] 43));have hf:=Fr.three w 43 43 43 #[.bool neg,.string num,.string den] #[.bool neg',.string num',.string bZ] #[.bool false,.string ⟨#[]⟩,.string ⟨#[]⟩];obtain⟨B,hB⟩:=zE w.heap.size;rw[<-hW,<-hB] at hf;have HS:=zH (AS.of hf.drew);have HK:=zH (fun (W W':World) (h:AS w B neg neg' num den num' bZ W) (hb:Below W.heap.size W W')=>h.below hb);have HT0:=zH (fun (W:World) (h:AS w B neg neg' num den num' bZ W)=>h.st0);have HT1:=zH (fun (W:World) (h:AS w B neg neg' num den num' bZ W)=>h.st1);clear hf;go_enter Tryz.func154,Tryz.ntmps154
 go_upto_region 1 with fail
 simp only[<-hW,<-hB]
 clear hW hB
 go_region_held3 (fun w'=>(∀j,w'.cell? ⟨B,j,none⟩=([.bool neg,.string num,.string den]:List Value)[j]?)/\(∀j,w'.cell? ⟨B+1,j,none⟩=([.bool neg',.string num',.string bZ]:List Value)[j]?)/\(∀j,w'.frozen? ⟨B,j,none⟩=false)/\(∀j,w'.frozen? ⟨B+1,j,none⟩=false)/\Fr w B [(43,([.bool neg,.string num,.string den]:List Value)),(43,[.bool neg',.string num',.string bZ]),(43,[.bool false,.string ⟨#[]⟩,.string ⟨#[]⟩])] w') (first|(with_reducible exact HS.out)|(with_reducible assumption)|(with_reducible exact HT0.out _ (by with_reducible assumption))|(with_reducible exact HT1.out _ (by with_reducible assumption))|(with_reducible exact HK.out _ _ (by with_reducible assumption) hb1))
  ((first|(go_at_call 122;(with_reducible refine (jr.out _).mono ?_);rintro e w1 ⟨rfl,hb1⟩)|(go_at_call 122;(with_reducible refine (jX.out _).mono ?_);rintro e w1 ⟨rfl,hb1⟩;have hzz:=HK.out _ _ (by with_reducible assumption) hb1;obtain⟨z0,z1,z2,z3,z4⟩:=hzz)))
 rename_i hH;clear z0 z1 z2 z3 z4 HS;generalize (((((w1.setCell ⟨B,0,none⟩ (.bool neg)).setCell ⟨B,1,none⟩ (.string num)).setCell ⟨B,2,none⟩ (.string den)).setCell ⟨B+1,0,none⟩ (.bool neg')).setCell ⟨B+1,1,none⟩ (.string num')).setCell ⟨B+1,2,none⟩ (.string bZ)=w2 at*;have HS:=zH (AS.of hH.2.2.2.2.drew);clear hH hb1;go_wp2_with fail
 go_region_held3 (fun w'=>(∀j,w'.cell? ⟨B,j,none⟩=([.bool neg,.string num,.string den]:List Value)[j]?)/\(∀j,w'.cell? ⟨B+1,j,none⟩=([.bool neg',.string num',.string bZ]:List Value)[j]?)/\(∀j,w'.frozen? ⟨B,j,none⟩=false)/\(∀j,w'.frozen? ⟨B+1,j,none⟩=false)/\Fr w B [(43,([.bool neg,.string num,.string den]:List Value)),(43,[.bool neg',.string num',.string bZ]),(43,[.bool false,.string ⟨#[]⟩,.string ⟨#[]⟩])] w') (first|(with_reducible exact HS.out)|(with_reducible assumption)|(with_reducible exact HK.out _ _ (by with_reducible assumption) hb1))
  ((first|(go_at_call 161;(with_reducible refine (lH.out _).mono ?_);rintro e w1 ⟨rfl,hb1⟩)|(go_at_call 161;(with_reducible refine (rW.out _).mono ?_);rintro e w3 ⟨rfl,hb1⟩)))
 rename_i hH;obtain⟨c0,c1,f0,f1,hf⟩:=hH;clear HS HK HT0 HT1 lH rW jr jX hb1;go_wp2_with fail;refine (V5.out _).mono ?_;rintro e w4 ⟨rfl,hb4⟩;replace hf:=hf.below hb4;clear c0 c1 f0 f1 hb4 V5;have c0:=hf.c0;have c1:=hf.c (i:=1) rfl;rcases hc with⟨rfl,Z,HZ,eG⟩|⟨hne,Z,HZ,eG⟩|⟨hne,Z,HZ,HZ2,eG⟩
 ·go_upto_region 5 with fail
  have c2:=hf.c (i:=2) rfl;have f2:=hf.f (i:=2) rfl;have HF:=zH hf.drew;clear hf
  go_region_law ((go_simp;first|(go_at_call 153;(with_reducible refine (HZ.out _).mono ?_);rintro e w5 ⟨rfl,hb5⟩;have GL:=zH (HF.out.below hb5);have d0:=GL.out.c0;clear hb5)|(go_at_call 114;(with_reducible refine (eG.out _).mono ?_);rintro e w6 ⟨rfl,hb6⟩;have HF6:=zH (GL.out.below hb6);have e2:=HF6.out.c (i:=2) rfl;have g2:=HF6.out.f (i:=2) rfl;clear hb6)))
  all_goals
   go_wp2;refine bodyPost_ret (v:=.agg #[.bool rn,.string ru,.string rd]) (by simp[results,Tryz.results154,go_sem,e2]) rfl ⟨rfl,?_⟩;exact (((HF6.out.set (i:=2) rfl 0 _).set (i:=2) rfl 1 _).set (i:=2) rfl 2 _).low
 ·go_wp2_with fail;refine (HZ.out _).mono ?_;rintro e w5 ⟨rfl,hb5⟩;replace hf:=hf.below hb5;clear c0 c1 hb5;have c0:=hf.c0;go_wp2_with fail;refine (eG.out _).mono ?_;rintro e w6 ⟨rfl,hb6⟩;replace hf:=hf.below hb6;clear c0 hb6;have e2:=hf.c (i:=2) rfl;have g2:=hf.f (i:=2) rfl;go_wp2;refine bodyPost_ret (v:=.agg #[.bool rn,.string ru,.string rd]) (by simp[results,Tryz.results154,go_sem,e2]) rfl ⟨rfl,?_⟩;exact (((hf.set (i:=2) rfl 0 _).set (i:=2) rfl 1 _).set (i:=2) rfl 2 _).low
 ·go_wp2_with fail;refine (HZ.out _).mono ?_;rintro e w5 ⟨rfl,hb5⟩;replace hf:=hf.below hb5;clear c0 c1 hb5;go_wp2_with fail;refine (HZ2.out _).mono ?_;rintro e w6 ⟨rfl,hb6⟩;replace hf:=hf.below hb6;clear hb6;have c1:=hf.c (i:=1) rfl;go_wp2_with fail;refine (eG.out _).mono ?_;rintro e w7 ⟨rfl,hb7⟩;replace hf:=hf.below hb7;clear c1 hb7;have e2:=hf.c (i:=2) rfl;have g2:=hf.f (i:=2) rfl;go_wp2;refine bodyPost_ret (v:=.agg #[.bool rn,.string ru,.string rd]) (by simp[results,Tryz.results154,go_sem,e2]) rfl ⟨rfl,?_⟩;exact (((hf.set (i:=2) rfl 0 _).set (i:=2) rfl 1 _).set (i:=2) rfl 2 _).low
theorem abu {s:ByteArray} (h:dM s=true):aC (ay s)=s:=((gq s).1 h).symm
theorem acB (a b:Ra) (w:World) (ha:okR a=true) (hb:okR b=true) (S:Nat) (hS:S<=1048577) (h1:a.num.size<=S) (h2:a.den.size<=S) (h3:b.num.size<=S) (h4:b.den.size<=S):
  Calls Tryz.prog 154 #[a.v,b.v] w fun e w'=>e=.returned (wM a b).v/\Below w.heap.size w w':=by
 obtain⟨p1,p2,p3,p4⟩:=jc ha;obtain⟨q1,q2,q3,q4⟩:=jc hb;have va:=oV ha;have vb:=oV hb;have jr:=zH (fun W=>oP a W (by omega) (by omega));have jX:=zH (fun W=>oP b W (by omega) (by omega));rw[va] at jr;rw[vb] at jX;obtain⟨x,hx⟩:=zF (ay a.num*ay b.den);obtain⟨y,hy⟩:=zF (ay b.num*ay a.den);obtain⟨d,hd⟩:=zF (ay a.den*ay b.den);have bx:x<256 ^ (S+S):=hx ▸ fA (dA a.num S h1) (dA b.den S h4);have by_:y<256 ^ (S+S):=hy ▸ fA (dA b.num S h3) (dA a.den S h2);have bd:d<256 ^ (S+S):=hd ▸ fA (dA a.den S h2) (dA b.den S h4);have hd0:0<d:=hd ▸ Nat.mul_pos p2 q2;have sx:(aC x).size<=S+S:=aZ x (S+S) bx;have sy:(aC y).size<=S+S:=aZ y (S+S) by_;have bs:x+y<256 ^ (S+S+1):=by rw[Nat.pow_succ];omega
 have up:256 ^ (S+S)<=256 ^ (S+S+1):=Nat.pow_le_pow_right (by omega) (by omega);have lH:=zH (fun W=>qV a.num b.den W (by omega) (by omega));have rW:=zH (fun W=>qV b.num a.den W (by omega) (by omega));have V5:=zH (fun W=>qV a.den b.den W (by omega) (by omega));rw[hx] at lH;rw[hy] at rW;rw[hd] at V5;have HA:=zH (fun W=>Gp (aC x) (aC y) W (by omega) (by omega));rw[bJ,bJ] at HA;refine V4 a.neg b.neg a.num b.num a.den b.den (aC x) (aC y) (aC d) w (wM a b) jr jX lH rW V5 ?_;unfold wM;rw[hx,hy,hd];by_cases hn:a.neg=b.neg
 ·rw[if_pos hn];exact .inl ⟨hn,_,HA,fun W=>nJ a.neg (x+y) d (S+S+1) W (by omega) bs (by omega) hd0⟩
 ·rw[if_neg hn];have hne:(a.neg==b.neg)=false:=beq_eq_false_iff_ne.2 hn;by_cases hle:y<=x
  ·rw[if_pos hle];refine .inr (.inl ⟨hne,_,fun W=>Jw (aC x) (aC y) W (by omega) (by omega) (by rw[bJ,bJ];exact hle),?_⟩);rw[bJ,bJ];exact fun W=>nJ a.neg (x-y) d (S+S+1) W (by omega) (by omega) (by omega) hd0
  ·rw[if_neg hle];refine .inr (.inr ⟨hne,_,fun W=>VL (aC x) (aC y) W (by omega) (by omega) (by rw[bJ,bJ];omega),fun W=>Jw (aC y) (aC x) W (by omega) (by omega) (by rw[bJ,bJ];omega),?_⟩);rw[bJ,bJ];exact fun W=>nJ b.neg (y-x) d (S+S+1) W (by omega) (by omega) (by omega) hd0
theorem V6 (a b:Ra) (S:Nat) (h1:a.num.size<=S) (h2:a.den.size<=S) (h3:b.num.size<=S) (h4:b.den.size<=S):(wM a b).num.size<=S+S+1/\(wM a b).den.size<=S+S+1:=by
 have bx:=fA (dA a.num S h1) (dA b.den S h4);have by_:=fA (dA b.num S h3) (dA a.den S h2);have bd:=fA (dA a.den S h2) (dA b.den S h4);have up:256 ^ (S+S+1)=256 ^ (S+S)*256:=Nat.pow_succ ..;unfold wM;split
 ·exact wL _ _ _ _ (by omega) (by omega)
 ·split
  ·exact wL _ _ _ _ (by omega) (by omega)
  ·exact wL _ _ _ _ (by omega) (by omega)
def iR (a b:Ra):Ra × Bool:=if b.num=⟨#[]⟩ then (⟨false,⟨#[]⟩,⟨#[]⟩⟩,false) else (low (a.neg !=b.neg) (ay a.num*ay b.den) (ay a.den*ay b.num),true)
theorem V7 (neg neg':Bool) (num num' den bZ:ByteArray) (w:World) (r s:Ra)
  (HN:Hid (∀W,Calls Tryz.prog 155 #[.agg #[.bool neg',.string num',.string bZ]] W fun e w'=>e=.returned r.v/\Below W.heap.size W w')) (HA:Hid (∀W,Calls Tryz.prog 154 #[.agg #[.bool neg,.string num,.string den],r.v] W fun e w'=>e=.returned s.v/\Below W.heap.size W w')):
  Calls Tryz.prog 116 #[.agg #[.bool neg,.string num,.string den],.agg #[.bool neg',.string num',.string bZ]] w fun e w'=>e=.returned s.v/\Below w.heap.size w w':=by
 obtain⟨rn,ru,rd⟩:=r;obtain⟨sn,su,sd⟩:=s;unfold Ra.v at HN HA⊢;simp only at HN HA⊢;obtain⟨W,hW⟩:=zE (((w.alloc (.cells #[.bool neg,.string num,.string den] 43)).alloc (.cells #[.bool neg',.string num',.string bZ] 43)).alloc (.cells #[.bool false,.string ⟨#[]⟩,.string ⟨#[]⟩] 43));have hf:=Fr.three w 43 43 43 #[.bool neg,.string num,.string den] #[.bool neg',.string num',.string bZ] #[.bool false,.string ⟨#[]⟩,.string ⟨#[]⟩];obtain⟨B,hB⟩:=zE w.heap.size;rw[<-hW,<-hB] at hf;have c0:=hf.c0;have c1:=hf.c (i:=1) rfl;have HF:=zH hf.drew;clear hf;go_enter Tryz.func116,Tryz.ntmps116
 go_upto_region 1 with fail
 simp only[<-hW,<-hB]
 clear hW hB
 go_region_law ((go_simp;first|(go_at_call 155;(with_reducible refine (HN.out _).mono ?_);rintro e w5 ⟨rfl,hb5⟩;have GL:=zH (HF.out.below hb5);have d0:=GL.out.c0;clear hb5)|(go_at_call 154;(with_reducible refine (HA.out _).mono ?_);rintro e w6 ⟨rfl,hb6⟩;have HF6:=zH (GL.out.below hb6);have e2:=HF6.out.c (i:=2) rfl;have g2:=HF6.out.f (i:=2) rfl;clear hb6)))
 all_goals
  go_wp2;refine bodyPost_ret (v:=.agg #[.bool sn,.string su,.string sd]) (by simp[results,Tryz.results116,go_sem,e2]) rfl ⟨rfl,?_⟩;exact (((HF6.out.set (i:=2) rfl 0 _).set (i:=2) rfl 1 _).set (i:=2) rfl 2 _).low
theorem V8 (neg neg':Bool) (num num' den bZ:ByteArray) (w:World) (s:Ra) (z:Int)
  (HN:Hid (∀W,Calls Tryz.prog 116 #[.agg #[.bool neg,.string num,.string den],.agg #[.bool neg',.string num',.string bZ]] W fun e w'=>e=.returned s.v/\Below W.heap.size W w')) (HS:Hid (∀W,Calls Tryz.prog 73 #[s.v] W fun e w'=>e=.returned (.int .i64 z)/\Below W.heap.size W w')):
  Calls Tryz.prog 74 #[.agg #[.bool neg,.string num,.string den],.agg #[.bool neg',.string num',.string bZ]] w fun e w'=>e=.returned (.int .i64 z)/\Below w.heap.size w w':=by
 obtain⟨sn,su,sd⟩:=s;unfold Ra.v at HN HS;simp only at HN HS;obtain⟨W,hW⟩:=zE ((w.alloc (.cells #[.bool neg,.string num,.string den] 43)).alloc (.cells #[.bool neg',.string num',.string bZ] 43));have hf:=Fr.two w 43 43 #[.bool neg,.string num,.string den] #[.bool neg',.string num',.string bZ];obtain⟨B,hB⟩:=zE w.heap.size;rw[<-hW,<-hB] at hf;have c0:=hf.c0;have c1:=hf.c (i:=1) rfl;go_enter Tryz.func74,Tryz.ntmps74;go_wp2_with fail;simp only[<-hW,<-hB]
 clear hW hB;refine (HN.out _).mono ?_;rintro e w1 ⟨rfl,hb1⟩;go_wp2_with fail;refine (HS.out _).mono ?_;rintro e w2 ⟨rfl,hb2⟩;go_wp2;refine bodyPost_ret (v:=.int .i64 z) (by simp[results,Tryz.results74,go_sem]) rfl ⟨rfl,?_⟩;exact hf.out (ah hb1 hb2)
theorem Qu (a b:Ra) (w:World) (ha:okR a=true) (hb:okR b=true) (S:Nat) (hS:S<=1048577) (h1:a.num.size<=S) (h2:a.den.size<=S) (h3:b.num.size<=S) (h4:b.den.size<=S):
  Calls Tryz.prog 74 #[a.v,b.v] w fun e w'=>e=.returned (.int .i64 (sJ a b))/\Below w.heap.size w w':=by
 have hz:=V6 a (yT b) S h1 h2 h3 h4;have HS:=zH (fun W=>V7 a.neg b.neg a.num b.num a.den b.den W (yT b) (wM a (yT b)) (fun W=>acA b W hb (by omega) (by omega)) (fun W=>acB a (yT b) W ha (ad5 hb) S hS h1 h2 h3 h4));exact V8 a.neg b.neg a.num b.num a.den b.den w (wM a (yT b)) (sJ a b) HS (fun W=>uH (wM a (yT b)) W (by omega) (by omega))
section
variable {w:World} {B:Nat} {neg neg':Bool} {num den num' bZ:ByteArray} {x:TypeId × List Value} {W W':World}
theorem af6 (h:Fr w B [(43,([.bool neg,.string num,.string den]:List Value)),(43,[.bool neg',.string num',.string bZ]),x] W):(∀j,W.cell? ⟨B,j,none⟩=([.bool neg,.string num,.string den]:List Value)[j]?)/\(∀j,W.cell? ⟨B+1,j,none⟩=([.bool neg',.string num',.string bZ]:List Value)[j]?)/\B+2<W.heap.size:=
 ⟨h.c0,h.c (i:=1) rfl,by have:=h.sz.out;simp only[List.length_cons,List.length_nil] at this;omega⟩
theorem Zg (h:(∀j,W.cell? ⟨B,j,none⟩=([.bool neg,.string num,.string den]:List Value)[j]?)/\(∀j,W.cell? ⟨B+1,j,none⟩=([.bool neg',.string num',.string bZ]:List Value)[j]?)/\B+2<W.heap.size) (hb:Below W.heap.size W W'):(∀j,W'.cell? ⟨B,j,none⟩=([.bool neg,.string num,.string den]:List Value)[j]?)/\(∀j,W'.cell? ⟨B+1,j,none⟩=([.bool neg',.string num',.string bZ]:List Value)[j]?)/\B+2<W'.heap.size:=
 ⟨fun j=>(hb.cell (p:=⟨B,j,none⟩) (by show B<_;omega)).trans (h.1 j),fun j=>(hb.cell (p:=⟨B+1,j,none⟩) (by show B+1<_;omega)).trans (h.2.1 j),Nat.lt_of_lt_of_le h.2.2 hb.size⟩
theorem af7 (h:(∀j,W.cell? ⟨B,j,none⟩=([.bool neg,.string num,.string den]:List Value)[j]?)/\(∀j,W.cell? ⟨B+1,j,none⟩=([.bool neg',.string num',.string bZ]:List Value)[j]?)/\B+2<W.heap.size) (u v z:Value):(∀j,(((W.setCell ⟨B+2,0,none⟩ u).setCell ⟨B+2,1,none⟩ v).setCell ⟨B+2,2,none⟩ z).cell? ⟨B,j,none⟩=([.bool neg,.string num,.string den]:List Value)[j]?)/\(∀j,(((W.setCell ⟨B+2,0,none⟩ u).setCell ⟨B+2,1,none⟩ v).setCell ⟨B+2,2,none⟩ z).cell? ⟨B+1,j,none⟩=([.bool neg',.string num',.string bZ]:List Value)[j]?)/\B+2<(((W.setCell ⟨B+2,0,none⟩ u).setCell ⟨B+2,1,none⟩ v).setCell ⟨B+2,2,none⟩ z).heap.size:=by
 refine⟨fun j=>?_,fun j=>?_,by rw[World.size_setCell,World.size_setCell,World.size_setCell];exact h.2.2⟩
 ·rw[World.cell?_setCell_far _ _ _ _ (by show B+2≠B;omega),World.cell?_setCell_far _ _ _ _ (by show B+2≠B;omega),World.cell?_setCell_far _ _ _ _ (by show B+2≠B;omega)];exact h.1 j
 ·rw[World.cell?_setCell_far _ _ _ _ (by show B+2≠B+1;omega),World.cell?_setCell_far _ _ _ _ (by show B+2≠B+1;omega),World.cell?_setCell_far _ _ _ _ (by show B+2≠B+1;omega)];exact h.2.1 j
end
theorem V9 (neg neg':Bool) (num num' den bZ X Y:ByteArray) (w:World) (r:Ra)
  (jr:Hid (∀W,Calls Tryz.prog 122 #[.agg #[.bool neg,.string num,.string den]] W fun e w'=>e=.returned (.agg #[.bool neg,.string num,.string den])/\Below W.heap.size W w'))
  (jX:Hid (∀W,Calls Tryz.prog 122 #[.agg #[.bool neg',.string num',.string bZ]] W fun e w'=>e=.returned (.agg #[.bool neg',.string num',.string bZ])/\Below W.heap.size W w'))
  (lH:Hid (∀W,Calls Tryz.prog 161 #[.string num,.string bZ] W fun e w'=>e=.returned (.string X)/\Below W.heap.size W w'))
  (rW:Hid (∀W,Calls Tryz.prog 161 #[.string den,.string num'] W fun e w'=>e=.returned (.string Y)/\Below W.heap.size W w'))
  (eG:Hid (∀W,Calls Tryz.prog 114 #[.bool (!(neg==neg')),.string X,.string Y] W fun e w'=>e=.returned r.v/\Below W.heap.size W w')) (hz:num'.toList.isEmpty=false):
  Calls Tryz.prog 120 #[.agg #[.bool neg,.string num,.string den],.agg #[.bool neg',.string num',.string bZ]] w fun e w'=>e=.returned (.tuple #[r.v,.bool true])/\Below w.heap.size w w':=by
 obtain⟨rn,ru,rd⟩:=r;unfold Ra.v at eG⊢;simp only at eG⊢;obtain⟨W,hW⟩:=zE (((w.alloc (.cells #[.bool neg,.string num,.string den] 43)).alloc (.cells #[.bool neg',.string num',.string bZ] 43)).alloc (.cells #[.bool false,.string ⟨#[]⟩,.string ⟨#[]⟩] 43));have hf:=Fr.three w 43 43 43 #[.bool neg,.string num,.string den] #[.bool neg',.string num',.string bZ] #[.bool false,.string ⟨#[]⟩,.string ⟨#[]⟩];obtain⟨B,hB⟩:=zE w.heap.size;rw[<-hW,<-hB] at hf;have HS:=zH (AS.of hf.drew);have HK:=zH (fun (W W':World) (h:AS w B neg neg' num den num' bZ W) (hb:Below W.heap.size W W')=>h.below hb);have HT0:=zH (fun (W:World) (h:AS w B neg neg' num den num' bZ W)=>h.st0);have HT1:=zH (fun (W:World) (h:AS w B neg neg' num den num' bZ W)=>h.st1);clear hf;go_enter Tryz.func120,Tryz.ntmps120
 go_upto_region 1 with fail
 simp only[<-hW,<-hB]
 clear hW hB
 go_region_held3 (fun w'=>(∀j,w'.cell? ⟨B,j,none⟩=([.bool neg,.string num,.string den]:List Value)[j]?)/\(∀j,w'.cell? ⟨B+1,j,none⟩=([.bool neg',.string num',.string bZ]:List Value)[j]?)/\(∀j,w'.frozen? ⟨B,j,none⟩=false)/\(∀j,w'.frozen? ⟨B+1,j,none⟩=false)/\Fr w B [(43,([.bool neg,.string num,.string den]:List Value)),(43,[.bool neg',.string num',.string bZ]),(43,[.bool false,.string ⟨#[]⟩,.string ⟨#[]⟩])] w') (first|(with_reducible exact HS.out)|(with_reducible assumption)|(with_reducible exact HT0.out _ (by with_reducible assumption))|(with_reducible exact HT1.out _ (by with_reducible assumption))|(with_reducible exact HK.out _ _ (by with_reducible assumption) hb1))
  ((first|(go_at_call 122;(with_reducible refine (jr.out _).mono ?_);rintro e w1 ⟨rfl,hb1⟩)|(go_at_call 122;(with_reducible refine (jX.out _).mono ?_);rintro e w1 ⟨rfl,hb1⟩;have hzz:=HK.out _ _ (by with_reducible assumption) hb1;obtain⟨z0,z1,z2,z3,z4⟩:=hzz)))
 rename_i hH;clear z0 z1 z2 z3 z4 HS;generalize (((((w1.setCell ⟨B,0,none⟩ (.bool neg)).setCell ⟨B,1,none⟩ (.string num)).setCell ⟨B,2,none⟩ (.string den)).setCell ⟨B+1,0,none⟩ (.bool neg')).setCell ⟨B+1,1,none⟩ (.string num')).setCell ⟨B+1,2,none⟩ (.string bZ)=w2 at*;obtain⟨c0,c1,f0,f1,hf⟩:=hH;clear hb1 jr jX;have HF:=zH hf.drew;clear hf
 go_upto_region 4 with fail
 have HS:=zH (af6 HF.out);have HK:=zH (fun (W W':World) (h:(∀j,W.cell? ⟨B,j,none⟩=([.bool neg,.string num,.string den]:List Value)[j]?)/\(∀j,W.cell? ⟨B+1,j,none⟩=([.bool neg',.string num',.string bZ]:List Value)[j]?)/\B+2<W.heap.size) (hb:Below W.heap.size W W')=>Zg h hb);have HT:=zH (fun (W:World) (h:(∀j,W.cell? ⟨B,j,none⟩=([.bool neg,.string num,.string den]:List Value)[j]?)/\(∀j,W.cell? ⟨B+1,j,none⟩=([.bool neg',.string num',.string bZ]:List Value)[j]?)/\B+2<W.heap.size)=>af7 h (.bool rn) (.string ru) (.string rd))
 go_region_held3 (fun w'=>(∀j,w'.cell? ⟨B,j,none⟩=([.bool neg,.string num,.string den]:List Value)[j]?)/\(∀j,w'.cell? ⟨B+1,j,none⟩=([.bool neg',.string num',.string bZ]:List Value)[j]?)/\B+2<w'.heap.size) (first|(with_reducible exact HS.out)|(with_reducible assumption)|(with_reducible exact HT.out _ (by with_reducible assumption))|(with_reducible exact HK.out _ _ (by with_reducible assumption) hb1))
  ((first|(go_at_call 161;(with_reducible refine (lH.out _).mono ?_);rintro e w5 ⟨rfl,hb1⟩;have GL:=zH (HF.out.below hb1))|(go_at_call 161;(with_reducible refine (rW.out _).mono ?_);rintro e w6 ⟨rfl,hb1⟩;have HF6:=zH (GL.out.below hb1))|(go_at_call 114;(with_reducible refine (eG.out _).mono ?_);rintro e w7 ⟨rfl,hb1⟩;have HF7:=zH (HF6.out.below hb1);have e2:=HF7.out.c (i:=2) rfl;have g2:=HF7.out.f (i:=2) rfl)))
 all_goals
  go_wp2;refine bodyPost_ret (v:=.tuple #[.agg #[.bool rn,.string ru,.string rd],.bool true]) (by simp[results,Tryz.results120,go_sem,e2]) rfl ⟨rfl,?_⟩;exact (((HF7.out.set (i:=2) rfl 0 _).set (i:=2) rfl 1 _).set (i:=2) rfl 2 _).low
theorem GN {s:ByteArray} (h:s≠⟨#[]⟩):s.toList.isEmpty=false:=by
 cases e:s.toList.isEmpty
 ·rfl
 ·exact absurd (toList_inj (by rw[List.isEmpty_iff.1 e,ByteArray.toList_eq])) h
theorem IJ {s:ByteArray} (h:dM s=true) (h0:s≠⟨#[]⟩):0<ay s:=by
 rcases Nat.eq_zero_or_pos (ay s) with e|e
 ·exact absurd (by rw[(gq s).1 h,e];exact (zU 0).2 rfl) h0
 ·exact e
theorem acC (a b:Ra) (w:World) (ha:okR a=true) (hb:okR b=true) (h0:b.num≠⟨#[]⟩) (S:Nat) (hS:S<=1048577) (h1:a.num.size<=S) (h2:a.den.size<=S) (h3:b.num.size<=S) (h4:b.den.size<=S):
  Calls Tryz.prog 120 #[a.v,b.v] w fun e w'=>e=.returned (.tuple #[(iR a b).1.v,.bool true])/\Below w.heap.size w w':=by
 obtain⟨p1,p2,p3,p4⟩:=jc ha;obtain⟨q1,q2,q3,q4⟩:=jc hb;have jr:=zH (fun W=>oP a W (by omega) (by omega));have jX:=zH (fun W=>oP b W (by omega) (by omega));rw[oV ha] at jr;rw[oV hb] at jX;have e:(iR a b).1=low (a.neg !=b.neg) (ay a.num*ay b.den) (ay a.den*ay b.num):=by unfold iR;rw[if_neg h0]
 rw[e];have bx:=fA (dA a.num S h1) (dA b.den S h4);have by_:=fA (dA a.den S h2) (dA b.num S h3)
 exact V9 a.neg b.neg a.num b.num a.den b.den _ _ w _ jr jX (fun W=>qV a.num b.den W (by omega) (by omega)) (fun W=>qV a.den b.num W (by omega) (by omega))
  (fun W=>nJ (a.neg !=b.neg) _ _ (S+S) W (by omega) bx by_ (Nat.mul_pos p2 (IJ q3 h0))) (GN h0)
theorem Wh (a b:Ra) (S:Nat) (h1:a.num.size<=S) (h2:a.den.size<=S) (h3:b.num.size<=S) (h4:b.den.size<=S):(iR a b).1.num.size<=S+S/\(iR a b).1.den.size<=S+S:=by
 unfold iR;split
 ·exact⟨Nat.zero_le _,Nat.zero_le _⟩
 ·exact wL _ _ _ _ (fA (dA a.num S h1) (dA b.den S h4)) (fA (dA a.den S h2) (dA b.num S h3))
theorem Qv (neg:Bool) (n d:Nat) (hd:0<d):okR (low neg n d)=true:=by
 have hg:0<Nat.gcd n d:=Nat.gcd_pos_of_pos_right n hd;have h1:0<d / Nat.gcd n d:=Nat.div_pos (Nat.le_of_dvd hd (Nat.gcd_dvd_right n d)) hg;have hco:Nat.gcd (n / Nat.gcd n d) (d / Nat.gcd n d)=1:=Nat.coprime_div_gcd_div_gcd hg;unfold okR;have e1:dM (low neg n d).den=true:=(gq _).2 (by unfold low;rw[bJ]);have e2:dM (low neg n d).num=true:=(gq _).2 (by unfold low;rw[bJ]);have e3:ay (low neg n d).den=d / Nat.gcd n d:=bJ _;have e4:ay (low neg n d).num=n / Nat.gcd n d:=bJ _
 have hz:n / Nat.gcd n d=0↔n=0:=by
  constructor
  ·intro h;have:=Nat.div_mul_cancel (Nat.gcd_dvd_left n d);rw[h,Nat.zero_mul] at this;exact this.symm
  ·intro h;rw[h,Nat.zero_div]
 rw[e1,e2,e3,e4,decide_eq_true h1,Bool.true_and,Bool.true_and,Bool.true_and,decide_eq_true_eq];unfold low;rw[hco,Nat.div_one,Nat.div_one];congr 1;by_cases hn:n=0
 ·simp[hn]
 ·have:n / Nat.gcd n d≠0:=fun h=>hn (hz.1 h)
  simp[hn,this]
def Ra.cs (a:Ra):List Value:=[.bool a.neg,.string a.num,.string a.den]
structure R3 (w:World) (B:Nat) (a b r:Ra) (X:World):Prop where
 a:aj X B 43 a.cs
 b:aj X (B+1) 43 b.cs
 r:aj X (B+1+1) 43 r.cs
 o:Below w.heap.size w X
 e:w.heap.size<=B
section
variable {w X X':World} {B:Nat} {a b r:Ra}
theorem R3.grow (h:R3 w B a b r X) (k:Below X.heap.size X X'):R3 w B a b r X':=⟨h.a.below k h.a.lt,h.b.below k h.b.lt,h.r.below k h.r.lt,ah h.o k,h.e⟩
theorem R3.new (e:((w.alloc (.cells #[.bool a.neg,.string a.num,.string a.den] 43)).alloc (.cells #[.bool b.neg,.string b.num,.string b.den] 43)).alloc (.cells #[.bool false,.string ⟨#[]⟩,.string ⟨#[]⟩] 43)=X):R3 w w.heap.size a b zR X:=by
 subst e;have h1:=aj.new w 43 #[.bool a.neg,.string a.num,.string a.den];have h2:=aj.new (w.alloc (.cells #[.bool a.neg,.string a.num,.string a.den] 43)) 43 #[.bool b.neg,.string b.num,.string b.den];have h3:=aj.new ((w.alloc (.cells #[.bool a.neg,.string a.num,.string a.den] 43)).alloc (.cells #[.bool b.neg,.string b.num,.string b.den] 43)) 43 #[.bool false,.string ⟨#[]⟩,.string ⟨#[]⟩];rw[World.size_alloc] at h2;rw[World.size_alloc,World.size_alloc] at h3;exact⟨(h1.alloc _).alloc _,h2.alloc _,h3,((zB _ _).alloc (by rw[World.size_alloc];omega) _).alloc (by rw[World.size_alloc,World.size_alloc];omega) _,Nat.le_refl _⟩
def IK (X:World) (b:Nat) (v:Ra):World:=((X.setCell ⟨b,0,none⟩ (.bool v.neg)).setCell ⟨b,1,none⟩ (.string v.num)).setCell ⟨b,2,none⟩ (.string v.den)
theorem IL {b:Nat} {t:TypeId} {x y z:Value} (h:aj X b t [x,y,z]) (v:Ra):aj (IK X b v) b t v.cs:=((h.set 0 _).set 1 _).set 2 _
theorem sK {b c:Nat} {t:TypeId} {cs:List Value} (h:aj X b t cs) (hn:b≠c) (v:Ra):aj (IK X c v) b t cs:=((h.other (p:=⟨c,0,none⟩) hn _).other (p:=⟨c,1,none⟩) hn _).other (p:=⟨c,2,none⟩) hn _
theorem zY {c n:Nat} (h:Below n w X) (hn:n<=c) (v:Ra):Below n w (IK X c v):=((h.setCell (p:=⟨c,0,none⟩) hn _).setCell (p:=⟨c,1,none⟩) hn _).setCell (p:=⟨c,2,none⟩) hn _
theorem R3.sa (h:R3 w B a b r X) (v:Ra):R3 w B v b r (IK X B v):=⟨IL h.a v,sK h.b (by omega) v,sK h.r (by omega) v,zY h.o h.e v,h.e⟩
theorem R3.sb (h:R3 w B a b r X) (v:Ra):R3 w B a v r (IK X (B+1) v):=⟨sK h.a (by omega) v,IL h.b v,sK h.r (by omega) v,zY h.o (by have:=h.e;omega) v,h.e⟩
theorem R3.sr (h:R3 w B a b r X) (v:Ra):R3 w B a b v (IK X (B+1+1) v):=⟨sK h.a (by omega) v,sK h.b (by omega) v,IL h.r v,zY h.o (by have:=h.e;omega) v,h.e⟩
theorem R3.va (h:R3 w B a b r X) (k:Below X.heap.size X X') (v:Ra) {Y:World} (e:((X'.setCell ⟨B,0,none⟩ (.bool v.neg)).setCell ⟨B,1,none⟩ (.string v.num)).setCell ⟨B,2,none⟩ (.string v.den)=Y):R3 w B v b r Y:=by subst e;exact (h.grow k).sa v
theorem R3.vb (h:R3 w B a b r X) (k:Below X.heap.size X X') (v:Ra) {Y:World} (e:((X'.setCell ⟨B+1,0,none⟩ (.bool v.neg)).setCell ⟨B+1,1,none⟩ (.string v.num)).setCell ⟨B+1,2,none⟩ (.string v.den)=Y):R3 w B a v r Y:=by subst e;exact (h.grow k).sb v
theorem R3.vr (h:R3 w B a b r X) (k:Below X.heap.size X X') (v:Ra) {Y:World} (e:((X'.setCell ⟨B+1+1,0,none⟩ (.bool v.neg)).setCell ⟨B+1+1,1,none⟩ (.string v.num)).setCell ⟨B+1+1,2,none⟩ (.string v.den)=Y):R3 w B a b v Y:=by subst e;exact (h.grow k).sr v
theorem R3.all (_:R3 w B a b r X):∀Y,R3 w B a b r Y->(Y.cell? ⟨B,0,none⟩=some (.bool a.neg)/\Y.cell? ⟨B,1,none⟩=some (.string a.num)/\Y.cell? ⟨B,2,none⟩=some (.string a.den))/\(Y.cell? ⟨B+1,0,none⟩=some (.bool b.neg)/\Y.cell? ⟨B+1,1,none⟩=some (.string b.num)/\Y.cell? ⟨B+1,2,none⟩=some (.string b.den))/\
  (Y.cell? ⟨B+1+1,0,none⟩=some (.bool r.neg)/\Y.cell? ⟨B+1+1,1,none⟩=some (.string r.num)/\Y.cell? ⟨B+1+1,2,none⟩=some (.string r.den))/\(∀i,Y.frozen? ⟨B,i,none⟩=false)/\(∀i,Y.frozen? ⟨B+1,i,none⟩=false)/\∀i,Y.frozen? ⟨B+1+1,i,none⟩=false:=
 fun _ k=>⟨⟨k.a.cells 0,k.a.cells 1,k.a.cells 2⟩,⟨k.b.cells 0,k.b.cells 1,k.b.cells 2⟩,⟨k.r.cells 0,k.r.cells 1,k.r.cells 2⟩,k.a.aI,k.b.aI,k.r.aI⟩
theorem R3.ab (_:R3 w B a b r X):∀Y,(∃r,R3 w B a b r Y)->(Y.cell? ⟨B,0,none⟩=some (.bool a.neg)/\Y.cell? ⟨B,1,none⟩=some (.string a.num)/\Y.cell? ⟨B,2,none⟩=some (.string a.den))/\(Y.cell? ⟨B+1,0,none⟩=some (.bool b.neg)/\Y.cell? ⟨B+1,1,none⟩=some (.string b.num)/\Y.cell? ⟨B+1,2,none⟩=some (.string b.den))/\∀i,Y.frozen? ⟨B+1+1,i,none⟩=false:=
 fun _ ⟨_,k⟩=>⟨⟨k.a.cells 0,k.a.cells 1,k.a.cells 2⟩,⟨k.b.cells 0,k.b.cells 1,k.b.cells 2⟩,k.r.aI⟩
end
theorem Zh (a b:Ra) (w:World) (ha:okR a=true) (hb:okR b=true) (h0:b.num≠⟨#[]⟩) (S:Nat) (hS:S<=1048577) (h1:a.num.size<=S) (h2:a.den.size<=S) (h3:b.num.size<=S) (h4:b.den.size<=S):
  Calls Tryz.prog 96 #[a.v,b.v] w fun e w'=>e=.returned (.tuple #[(iR a b).1.v,.bool true])/\Below w.heap.size w w':=by
 obtain⟨p1,p2,p3,p4⟩:=jc ha;obtain⟨q1,q2,q3,q4⟩:=jc hb;have jr:=zH (fun W=>vK a W (by omega) (by omega));have jX:=zH (fun W=>vK b W (by omega) (by omega));rw[oV ha] at jr;rw[oV hb] at jX;have e:(iR a b).1=low (a.neg !=b.neg) (ay a.num*ay b.den) (ay a.den*ay b.num):=by unfold iR;rw[if_neg h0]
 have HL:=zH (fun W=>En (a.neg !=b.neg) _ _ (S+S) W (by omega) (fA (dA a.num S h1) (dA b.den S h4)) (fA (dA a.den S h2) (dA b.num S h3)) (Nat.mul_pos p2 (IJ q3 h0)));rw[<-e,show (a.neg !=b.neg)= !(a.neg==b.neg) from rfl] at HL;have lH:=zH (fun W=>zO a.num b.den W (by omega) (by omega));have rW:=zH (fun W=>zO a.den b.num W (by omega) (by omega));have e1:=GN h0;generalize (iR a b).1=r at*;generalize aC (ay a.num*ay b.den)=M1 at*;generalize aC (ay a.den*ay b.num)=M2 at*;clear ha hb h1 h2 h3 h4 hS p1 p2 p3 p4 q1 q2 q3 q4 e h0;obtain⟨an,au,ad⟩:=a;obtain⟨bn,bu,bd⟩:=b;obtain⟨rn,ru,rd⟩:=r;unfold Ra.v at jr jX HL⊢;simp only at jr jX lH rW HL e1⊢;have e2:(bu.toList==(⟨#[]⟩:ByteArray).toList)=false:=by rw[show (⟨#[]⟩:ByteArray).toList=[] by rw[ByteArray.toList_eq]];cases h:bu.toList;rw[h] at e1;cases e1;rfl
 have e3:(bu.toList==[])=false:=by cases h:bu.toList;rw[h] at e1;cases e1;rfl
 go_enter Tryz.func96,Tryz.ntmps96
 go_upto_region 1 with fail
 generalize hX:World.alloc (World.alloc (World.alloc w _) _) _=X;have h:=R3.new (a:=⟨an,au,ad⟩) (b:=⟨bn,bu,bd⟩) hX;clear hX;have hc:=h.all _ h;go_wp2_with fail;refine (jr.out _).mono ?_;rintro e w1 ⟨rfl,hb1⟩;clear hc;have hc:=h.all _ (h.grow hb1)
 go_upto_region 2 with fail
 generalize hX:World.setCell (World.setCell (World.setCell _ _ _) _ _) _ _=X1;replace h:=h.va hb1 ⟨an,au,ad⟩ hX;clear hX hc hb1;have hc:=h.all _ h;go_wp2_with fail;refine (jX.out _).mono ?_;rintro e w2 ⟨rfl,hb2⟩;clear hc;have hc:=h.all _ (h.grow hb2)
 go_upto_region 3 with fail
 generalize hX:World.setCell (World.setCell (World.setCell _ _ _) _ _) _ _=X2;replace h:=h.vb hb2 ⟨bn,bu,bd⟩ hX;clear hX hc hb2;have hc:=h.ab;have hc5:=hc _ ⟨_,h⟩
 go_upto_region 5 with fail
 clear hc5;refine dN (fun X=>∃r,R3 w w.heap.size ⟨an,au,ad⟩ ⟨bn,bu,bd⟩ r X) 99 ⟨_,h.grow (ak _ _ 1)⟩ (fun w6 h6 hS=>?_)
 iterate 9 refine aW ?_
 refine aG 10 ?_;refine aG 11 ?_;refine aG 12 ?_;refine aG 13 ?_;refine cO 9 (lH.out _) ?_;rintro e w7 ⟨rfl,hb⟩;refine⟨_,rfl,hS.imp (fun _ h=>h.grow hb),fun hS=>?_⟩;refine cO 14 (rW.out _) ?_;rintro e w8 ⟨rfl,hb⟩;refine⟨_,rfl,hS.imp (fun _ h=>h.grow hb),fun hS=>?_⟩;refine cO 15 (HL.out _) ?_;rintro e w9 ⟨rfl,hb⟩;refine⟨_,rfl,hS.imp (fun _ h=>h.grow hb),fun hS=>?_⟩;obtain⟨_,h⟩:=hS;have Wi:=h.all _ h;have hS:=h.vr (Below.refl _ _) ⟨rn,ru,rd⟩ rfl;refine iL 16 (fun _=>⟨_,hS⟩) (fun _=>?_);refine aW ?_ (hS:=⟨_,hS⟩);refine dH ?_;clear hc hS Wi;go_wp2;generalize hX:World.setCell (World.setCell (World.setCell _ _ _) _ _) _ _=X3;replace h:=h.vr (Below.refl _ _) ⟨rn,ru,rd⟩ hX;have hc:=h.all _ h;exact bodyPost_ret (v:=.tuple #[Ra.v ⟨rn,ru,rd⟩,.bool true]) (by simp[results,Tryz.results96,go_sem,hc,Ra.v]) rfl ⟨rfl,h.o⟩
theorem acD (neg:Bool) (n:Nat):low neg n 1=⟨neg&&decide (n≠0),aC n,aC 1⟩:=by
 unfold low;rw[Nat.gcd_one_right,Nat.div_one,Nat.div_one]
theorem Wj (neg:Bool) (n:Nat):eH (low neg n 1)=if n=0 then 0 else if neg then-1 else 1:=by
 unfold eH;rw[if_pos (Qv neg n 1 (by omega)),acD];by_cases h:n=0
 ·subst h;rw[if_pos (by simp[aS]),if_pos rfl]
 ·rw[if_neg h,if_neg (fun e=>h (DF (congrArg Ra.num e)))];simp[h]
theorem Qw (n:Nat):aS (n:Int)=⟨false,aC n,aC 1⟩:=by
 unfold aS;rw[show decide ((n:Int)<0)=false from decide_eq_false (by omega)];rfl
theorem acE {p q:Nat->Bool} (h:∀j,q j=true->p j=true) (l:List Nat):(l.filter q).length<=(l.filter p).length:=by
 induction l with
 |nil=>exact Nat.le_refl _
 |cons a l ih=>
  rw[List.filter_cons,List.filter_cons];cases hq:q a
  ·cases hp:p a
   ·simpa using ih
   ·simp;omega
  ·rw[h a hq];simp;omega
theorem acF {p q:Nat->Bool} {i:Nat} (h:∀j,q j=true->p j=true) (hp:p i=true) (hq:q i=false) (l:List Nat) (hi:i∈l):(l.filter q).length<(l.filter p).length:=by
 induction l with
 |nil=>cases hi
 |cons a l ih=>
  rw[List.filter_cons,List.filter_cons];rcases List.mem_cons.1 hi with rfl|hi
  ·have:=acE h l;rw[hp,hq];simp;omega
  ·have:=ih hi;cases hq':q a
   ·cases hp':p a
    ·simpa using this
    ·simp;omega
   ·rw[h a hq'];simp;omega
def unl (n:Nat) (listed:Array Bool):Nat:=((List.range n).filter fun i=> !listed.getD i true).length
theorem MC {l:Array Bool} {i j:Nat} (h:i≠j) (d:Bool):(l.setIfInBounds i true).getD j d=l.getD j d:=by
 rw[Array.getD_eq_getD_getElem?,Array.getD_eq_getD_getElem?,Array.getElem?_setIfInBounds_ne h]
theorem JE {l:Array Bool} {i:Nat}:(l.setIfInBounds i true).getD i true=true:=by
 rw[Array.getD_eq_getD_getElem?,Array.getElem?_setIfInBounds];split<;>(try split)<;>first|rfl|omega|(rw[Array.getElem?_eq_none (by omega)];rfl)
section
variable {P:Program} {ops:Array Oper} {Q:Exit->Act->World->Prop}
theorem Wn (I:Array Bool->Act->World->Prop)
  (hs:∀listed a w i,I listed a w->i∈Region.ready .any ops listed->wpOp P ops Q i (I (listed.setIfInBounds i true)) a w)
  (hd:∀listed a w,I listed a w->Region.ready .any ops listed=[]->Q .normal a w):
  ∀fuel listed a w,I listed a w->unl ops.size listed<=fuel->wpAny P .any ops Q fuel listed a w:=by
 have hlt:∀listed i,i∈Region.ready .any ops listed->unl ops.size (listed.setIfInBounds i true)<unl ops.size listed:=fun listed i hi=>by
  obtain⟨h0,o,ho,_⟩:=mem_ready.1 hi
  have his:i<ops.size:=by
   rcases Nat.lt_or_ge i ops.size with h|h
   ·exact h
   ·rw[Array.getElem?_eq_none h] at ho;cases ho
  refine acF (i:=i) (fun j hj=>?_) (by rw[h0];rfl) (by rw[JE];rfl) _ (List.mem_range.2 his);by_cases e:i=j
  ·subst e;rw[JE] at hj;cases hj
  ·rw[MC e] at hj;exact hj
 intro fuel
 induction fuel with
 |zero=>
  intro listed a w h hu;have hr:Region.ready .any ops listed=[]:=List.eq_nil_iff_forall_not_mem.2 (fun i hi=>by have:=hlt listed i hi;omega);exact⟨hr,hd _ _ _ h hr⟩
 |succ fuel ih=>
  intro listed a w h hu;exact⟨fun hr=>hd _ _ _ h hr,fun i hi=>wpOp_mono (fun a' w' h'=>ih _ a' w' h' (by have:=hlt listed i hi;omega)) (hs _ _ _ i h hi)⟩
def kT (ops:Array Oper) (i:Nat):Nat:=((ops[i]?).bind (·.dst)).getD 0
def ad8 (ops:Array Oper) (n:Nat):Bool:=
 (List.range ops.size).all fun i=>match ops[i]? with
   |none=>false
   |some o=>decide (kT ops i<n)&&(o.after.all (fun e=>decide (e.on<i))&&(List.range ops.size).all fun j=>i==j||decide (kT ops i≠kT ops j))
theorem Pg {id n:Nat} {a:Act} {w:World} (hm:P.follows .mixedOrders=true) (hk:ad8 ops n=true) (ha:a.tmps.size=n) (R:Nat->Value->World->Prop)
  (hR:∀i v w w',R i v w->Below w.heap.size w w'->R i v w')
  (hop:∀i o,ops[i]?=some o->∀(a1:Act) (W:World),Below w.heap.size w W->(∀e∈o.after,Region.binds .any e=true->R e.on ((a1.tmps[kT ops e.on]?).getD undef) W)->
    wpOp P ops Q i (fun a' W'=>∃v,a'=a1.put (some (kT ops i)) v/\R i v W'/\Below W.heap.size W W') a1 W)
  (hend:∀(a1:Act) (W:World),a1.tmps.size=n->a1.defers=a.defers->Below w.heap.size w W->(∀i,i<ops.size->R i ((a1.tmps[kT ops i]?).getD undef) W)->Q .normal a1 W):
  (Code.region id ops true).wp P Q a w:=by
 have hok:∀i o,ops[i]?=some o->kT ops i<n/\(∀e∈o.after,e.on<i)/\∀j,j<ops.size->i≠j->kT ops i≠kT ops j:=fun i o ho=>by
  have his:i<ops.size:=by
   rcases Nat.lt_or_ge i ops.size with h|h
   ·exact h
   ·rw[Array.getElem?_eq_none h] at ho;cases ho
  have h:=List.all_eq_true.1 hk i (List.mem_range.2 his);rw[ho] at h;simp only[Bool.and_eq_true,decide_eq_true_eq] at h;refine⟨h.1,fun e he=>?_,fun j hj hij=>?_⟩
  ·have:=Array.all_eq_true_iff_forall_mem.1 h.2.1 e he;exact of_decide_eq_true this
  ·have:=List.all_eq_true.1 h.2.2 j (List.mem_range.2 hj);rw[Bool.or_eq_true,beq_iff_eq,decide_eq_true_eq] at this;exact this.resolve_left hij
 refine wp_region_any hm (Wn (fun listed a1 W=>Below w.heap.size w W/\a1.tmps.size=n/\a1.defers=a.defers/\∀i,i<ops.size->listed.getD i true=true->R i ((a1.tmps[kT ops i]?).getD undef) W) ?_ ?_ _ _ _ _ ⟨ak w.heap.size w 1,ha,rfl,?_⟩ ?_)
 ·rintro listed a1 W i ⟨hb,hsz,hdf,hr⟩ hi;obtain⟨h0,o,ho,iq⟩:=mem_ready.1 hi;obtain⟨hd1,hd2,hd3⟩:=hok i o ho
  have his:i<ops.size:=by
   rcases Nat.lt_or_ge i ops.size with h|h
   ·exact h
   ·rw[Array.getElem?_eq_none h] at ho;cases ho
  refine wpOp_mono ?_ (hop i o ho a1 W hb (fun e he hbd=>hr e.on (by have:=hd2 e he;omega) ?_))
  ·rintro a' W' ⟨v,rfl,hv,hbW⟩;refine⟨hb.trans (hbW.mono hb.size),by show (a1.tmps.setIfInBounds _ _).size=n;rw[Array.size_setIfInBounds];exact hsz,hdf,fun j hj hl=>?_⟩;by_cases e:i=j
   ·subst e;show R i (((a1.tmps.setIfInBounds (kT ops i) v)[kT ops i]?).getD undef) W';rw[Array.getElem?_setIfInBounds_self_of_lt (by rw[hsz];exact hd1)];exact hv
   ·rw[MC e] at hl;show R j (((a1.tmps.setIfInBounds (kT ops i) v)[kT ops j]?).getD undef) W';rw[Array.getElem?_setIfInBounds_ne (hd3 j hj e)];exact hR _ _ _ _ (hr j hj hl) hbW
  ·have h1:=iq e he hbd
   have h2:e.on<listed.size:=by
    rcases Nat.lt_or_ge e.on listed.size with h|h
    ·exact h
    ·rw[Array.getD_eq_getD_getElem?,Array.getElem?_eq_none h] at h1;cases h1
   rw[Array.getD_eq_getD_getElem?,Array.getElem?_eq_getElem h2] at h1⊢;exact h1
 ·rintro listed a1 W ⟨hb,hsz,hdf,hr⟩ hnil
  have hall:∀m i,i<m->i<ops.size->listed.getD i true=true:=fun m=>by
   induction m with
   |zero=>intro i hi;omega
   |succ m ih=>
    intro i hi his;cases hl:listed.getD i true
    ·have:i∈Region.ready .any ops listed:=by
      refine mem_ready.2 ⟨hl,ops[i],Array.getElem?_eq_getElem his,fun e he hbd=>?_⟩;have h1:=(hok i ops[i] (Array.getElem?_eq_getElem his)).2.1 e he;have h2:=ih e.on (by omega) (by omega);rcases Nat.lt_or_ge e.on listed.size with h|h
      ·rw[Array.getD_eq_getD_getElem?,Array.getElem?_eq_getElem h] at h2⊢;exact h2
      ·have h3:listed.getD i true=true:=by rw[Array.getD_eq_getD_getElem?,Array.getElem?_eq_none (by omega)];rfl
       rw[h3] at hl;cases hl
     rw[hnil] at this;cases this
    ·rfl
  exact hend a1 W hsz hdf hb (fun i hi=>hr i hi (hall _ i (Nat.lt_succ_self i) hi))
 ·intro i hi h;rw[Array.getD_eq_getD_getElem?,Array.getElem?_replicate,if_pos hi] at h;cases h
 ·exact Nat.le_trans (List.length_filter_le _ _) (by rw[List.length_range];exact Nat.le_refl _)
end
end Go.Proofs.YtimokmplkpbmdaaGreatDoor
