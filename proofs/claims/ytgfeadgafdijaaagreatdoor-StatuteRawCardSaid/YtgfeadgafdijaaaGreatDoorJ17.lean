/- A part of the proof: Fr Q9 Qa Qb K7 Ya. -/
import Derived.Deep.Cut
import Derived.Deep.RegionHeld3
import Derived.OrdersHeld
import Derived.Test.YtgfeadgafdijaaaGreatDoorJ01
import Derived.Test.YtgfeadgafdijaaaGreatDoorJ08
import Derived.Test.YtgfeadgafdijaaaGreatDoorJ15
set_option linter.unusedVariables false
set_option linter.unusedSimpArgs false
set_option maxRecDepth 100000
set_option maxHeartbeats 40000000
namespace Go.Proofs.YtgfeadgafdijaaaGreatDoor
open Go.RowKit
structure Fr (w0:World) (B:Nat) (l:List (TypeId × List Value)) (W:World):Prop where
 b:Hid (B=w0.heap.size)
 blk:∀i x,l[i]?=some x→aj W (B+i) x.1 x.2
 sz:Hid (B+l.length≤W.heap.size)
 low:Below w0.heap.size w0 W
theorem Fr.one (w:World) (t:TypeId) (cs:Array Value):Fr w w.heap.size [(t,cs.toList)] (w.alloc (.cells cs t)):=by
 refine⟨rfl,fun i x h=>?_,?_,(Below.refl _ _).alloc (Nat.le_refl _) _⟩
 ·cases i with
  |zero=>injection h with h;subst h;exact aj.new w t cs
  |succ i=>cases h
 ·show _≤_;rw[World.size_alloc];exact Nat.le_refl _
theorem Fr.more {w0 W:World} {B:Nat} {l:List (TypeId × List Value)} (h:Fr w0 B l W) (hz:W.heap.size=B+l.length) (t:TypeId) (cs:Array Value):Fr w0 B (l++[(t,cs.toList)]) (W.alloc (.cells cs t)):=by
 refine⟨h.b,fun i x hx=>?_,?_,h.low.alloc (by rw[hz,h.b.out];omega) _⟩
 ·rcases Nat.lt_or_ge i l.length with hi|hi
  ·rw[List.getElem?_append_left hi] at hx;exact (h.blk i x hx).alloc _
  ·rw[List.getElem?_append_right hi] at hx;obtain⟨j,rfl⟩:∃j,i=l.length+j:=⟨i-l.length,by omega⟩
   rw[Nat.add_sub_cancel_left] at hx;cases j with
   |zero=>injection hx with hx;subst hx;have:=aj.new W t cs;rw[hz] at this;exact this
   |succ j=>cases hx
 ·show _≤_;rw[World.size_alloc,hz,List.length_append];show _+(_+1)≤_;omega
theorem Fr.two (w:World) (t t':TypeId) (cs cs':Array Value):Fr w w.heap.size [(t,cs.toList),(t',cs'.toList)] ((w.alloc (.cells cs t)).alloc (.cells cs' t')):=
 (Fr.one w t cs).more (by rw[World.size_alloc];rfl) t' cs'
theorem Fr.three (w:World) (t t' t'':TypeId) (cs cs' cs'':Array Value):Fr w w.heap.size [(t,cs.toList),(t',cs'.toList),(t'',cs''.toList)] (((w.alloc (.cells cs t)).alloc (.cells cs' t')).alloc (.cells cs'' t'')):=
 (Fr.two w t t' cs cs').more (by rw[World.size_alloc,World.size_alloc];rfl) t'' cs''
variable {w0 W:World} {B:Nat} {l:List (TypeId × List Value)}
theorem Fr.below {W':World} (h:Fr w0 B l W) (hb:Below W.heap.size W W'):Fr w0 B l W':=
 ⟨h.b,fun i x hx=>(h.blk i x hx).below hb (h.blk i x hx).lt,Nat.le_trans h.sz.out hb.size,ah h.low hb⟩
theorem Fr.alloc (h:Fr w0 B l W) (o:Obj):Fr w0 B l (W.alloc o):=h.below (zB _ _)
theorem Fr.drew (h:Fr w0 B l W):Fr w0 B l W.drew:=h.below (ak W.heap.size W 1)
theorem Fr.set {i:Nat} {t:TypeId} {cs:List Value} (h:Fr w0 B l W) (hi:l[i]?=some (t,cs)) (j:Nat) (v:Value):Fr w0 B (l.set i (t,cs.set j v)) (W.setCell ⟨B+i,j,none⟩ v):=by
 have hil:i<l.length:=(List.getElem?_eq_some_iff.1 hi).1;refine⟨h.b,fun k x hx=>?_,?_,h.low.setCell (p:=⟨B+i,j,none⟩) (by have:=h.b.out;show _≤B+i;omega) v⟩
 ·by_cases hk:k=i
  ·subst hk;rw[List.getElem?_set_self hil] at hx;injection hx with hx;subst hx;exact (h.blk k _ hi).set j v
  ·rw[List.getElem?_set_ne (fun e=>hk e.symm)] at hx;exact (h.blk k x hx).other (by show B+k≠B+i;omega) v
 ·show _≤_;rw[World.size_setCell,List.length_set];exact h.sz.out
theorem Fr.set0 {t:TypeId} {cs:List Value} {r:List (TypeId × List Value)} (h:Fr w0 B ((t,cs)::r) W) (j:Nat) (v:Value):Fr w0 B ((t,cs.set j v)::r) (W.setCell ⟨B,j,none⟩ v):=h.set (i:=0) rfl j v
theorem Fr.c0 {x:TypeId × List Value} {r:List (TypeId × List Value)} (h:Fr w0 B (x::r) W):∀j,W.cell? ⟨B,j,none⟩=x.2[j]?:=(h.blk 0 x rfl).cells
theorem Fr.f0 {x:TypeId × List Value} {r:List (TypeId × List Value)} (h:Fr w0 B (x::r) W):∀j,W.frozen? ⟨B,j,none⟩=false:=(h.blk 0 x rfl).aF
theorem Fr.c {i:Nat} {x:TypeId × List Value} (h:Fr w0 B l W) (hi:l[i]?=some x):∀j,W.cell? ⟨B+i,j,none⟩=x.2[j]?:=(h.blk i x hi).cells
theorem Fr.f {i:Nat} {x:TypeId × List Value} (h:Fr w0 B l W) (hi:l[i]?=some x):∀j,W.frozen? ⟨B+i,j,none⟩=false:=(h.blk i x hi).aF
theorem Fr.out (h:Fr w0 B l W) {W':World} (hb:Below W.heap.size W W'):Below w0.heap.size w0 W':=ah h.low hb
end Go.Proofs.YtgfeadgafdijaaaGreatDoor
namespace Go.Proofs.YtgfeadgafdijaaaGreatDoor
open Go.RowKit
def qj (a:Ra):Ra:=⟨!a.neg&&decide (a.num≠⟨#[]⟩),a.num,a.den⟩
def nH (a b:Ra):Ra:=
 if a.neg=b.neg then low a.neg (aA a.num*aA b.den+aA b.num*aA a.den) (aA a.den*aA b.den)
 else if aA b.num*aA a.den≤aA a.num*aA b.den then low a.neg (aA a.num*aA b.den-aA b.num*aA a.den) (aA a.den*aA b.den)
 else low b.neg (aA b.num*aA a.den-aA a.num*aA b.den) (aA a.den*aA b.den)
def lX (a b:Ra):Int:=dV (nH a (qj b))
theorem nZ {a:Ra} (h:okR a=true):dN a=a:=by unfold dN;rw[if_pos h]
theorem gY {a:Ra} (h:okR a=true):dM a.den=true∧0<aA a.den∧dM a.num=true∧low a.neg (aA a.num) (aA a.den)=a:=by
 unfold okR at h;rw[Bool.and_eq_true,Bool.and_eq_true,Bool.and_eq_true,decide_eq_true_eq,decide_eq_true_eq] at h;exact⟨h.1.1.1,h.1.1.2,h.1.2,h.2⟩
theorem V4 {a:Ra} (h:okR a=true):okR (qj a)=true:=by
 obtain⟨h1,h2,h3,h4⟩:=gY h;obtain⟨neg,num,den⟩:=a;simp only at h1 h2 h3 h4;unfold okR qj;simp only[h1,h3,decide_eq_true h2,Bool.true_and]
 rw[decide_eq_true_eq];unfold low at h4⊢;injection h4 with h5 h6 h7;rw[h6,h7];congr 1
 have e:num=⟨#[]⟩↔aA num=0:=by
  have:=(iO num).1 h3;constructor
  ·intro h;rw[h];rfl
  ·intro h;rw[this,h];exact (AB 0).2 rfl
 by_cases hz:aA num=0
 ·simp[hz,e.2 hz]
 ·have:¬(num=⟨#[]⟩):=fun h=>hz (e.1 h)
  simp[hz,this]
theorem aby (a:Ra) (w:World) (hok:okR a=true) (hn:a.num.size≤536870912) (hd:a.den.size≤536870912):
  Calls Tryz.prog 153 #[a.v] w fun e w'=>e=.returned (qj a).v∧Below w.heap.size w w':=by
 have HR:=zH (fun w=>pK a w hn hd);rw[nZ hok] at HR;obtain⟨neg,num,den⟩:=a;have HN:Hid (qj ⟨neg,num,den⟩=⟨!neg&&decide (num≠⟨#[]⟩),num,den⟩):=rfl;unfold Ra.v at HR⊢;rw[HN.out];simp only at HR⊢;obtain⟨ng,BP⟩:=zF ((!neg&&decide (num≠⟨#[]⟩)));rw[BP];have HNG:=zH BP;clear BP HN;obtain⟨W,hW⟩:=zE ((w.alloc (.cells #[.bool neg,.string num,.string den] 40)).alloc (.cells #[.bool false,.string ⟨#[]⟩,.string ⟨#[]⟩] 40));have hf:=Fr.two w 40 40 #[.bool neg,.string num,.string den] #[.bool false,.string ⟨#[]⟩,.string ⟨#[]⟩];obtain⟨B,hB⟩:=zE w.heap.size;rw[←hW,←hB] at hf;have c0:=hf.c0;clear hn hd hok;go_enter Tryz.func153,Tryz.ntmps153;go_wp2_with fail;simp only[←hW,←hB]
 clear hW hB;refine (HR.out _).mono ?_;rintro e w1 ⟨rfl,hb1⟩;have hf1:=hf.below hb1;clear c0 hf hb1;have c0:=hf1.c0;have f0:=hf1.f0
 go_upto_region 2 with fail
 have hf2:=((hf1.set0 0 (.bool neg)).set0 1 (.string num)).set0 2 (.string den);simp only[List.set_cons_zero,List.set_cons_succ] at hf2;generalize ((w1.setCell ⟨B,0,none⟩ (.bool neg)).setCell ⟨B,1,none⟩ (.string num)).setCell ⟨B,2,none⟩ (.string den)=w2 at*;clear c0 f0 hf1;have c0:=hf2.c0;have f0:=hf2.f0;have c1:=hf2.c (i:=1) rfl;have f1:=hf2.f (i:=1) rfl;have HF:=zH hf2;clear hf2;by_cases he:num=⟨#[]⟩
 ·obtain rfl:ng=false:=by rw[←HNG.out,decide_eq_false (fun h=>h he),Bool.and_false]
  subst he;clear HNG;cases neg
  all_goals
   go_wp2;refine bodyPost_ret (v:=.agg #[.bool false,.string ⟨#[]⟩,.string den]) (by simp[results,Tryz.results153,go_sem,c0,c1]) rfl ⟨rfl,?_⟩;exact ((((HF.out.set0 0 _).set (i:=1) rfl 0 _).set (i:=1) rfl 1 _).set (i:=1) rfl 2 _).low
 ·have he2:num.toList.isEmpty=false:=by
   cases h:num.toList.isEmpty
   ·rfl
   ·exact absurd (toList_inj (by rw[List.isEmpty_iff.1 h,ByteArray.toList_eq])) he
  have qh:ng= !neg:=by rw[←HNG.out,decide_eq_true he,Bool.and_true]
  subst qh;clear HNG;cases neg
  ·go_wp2;refine bodyPost_ret (v:=.agg #[.bool true,.string num,.string den]) (by simp[results,Tryz.results153,go_sem,c0,c1]) rfl ⟨rfl,?_⟩;exact ((((HF.out.set0 0 _).set (i:=1) rfl 0 _).set (i:=1) rfl 1 _).set (i:=1) rfl 2 _).low
  ·go_wp2;refine bodyPost_ret (v:=.agg #[.bool false,.string num,.string den]) (by simp[results,Tryz.results153,go_sem,c0,c1]) rfl ⟨rfl,?_⟩;exact ((((HF.out.set0 0 _).set (i:=1) rfl 0 _).set (i:=1) rfl 1 _).set (i:=1) rfl 2 _).low
abbrev AS (w:World) (B:Nat) (neg neg':Bool) (num den num' dw:ByteArray) (W:World):Prop:=
 (∀j,W.cell? ⟨B,j,none⟩=([.bool neg,.string num,.string den]:List Value)[j]?)∧(∀j,W.cell? ⟨B+1,j,none⟩=([.bool neg',.string num',.string dw]:List Value)[j]?)∧(∀j,W.frozen? ⟨B,j,none⟩=false)∧(∀j,W.frozen? ⟨B+1,j,none⟩=false)∧Fr w B [(40,([.bool neg,.string num,.string den]:List Value)),(40,[.bool neg',.string num',.string dw]),(40,[.bool false,.string ⟨#[]⟩,.string ⟨#[]⟩])] W
theorem AS.of {w:World} {B:Nat} {neg neg':Bool} {num den num' dw:ByteArray} {W:World} (h:Fr w B [(40,([.bool neg,.string num,.string den]:List Value)),(40,[.bool neg',.string num',.string dw]),(40,[.bool false,.string ⟨#[]⟩,.string ⟨#[]⟩])] W):AS w B neg neg' num den num' dw W:=
 ⟨h.c0,h.c (i:=1) rfl,h.f0,h.f (i:=1) rfl,h⟩
theorem AS.below {w:World} {B:Nat} {neg neg':Bool} {num den num' dw:ByteArray} {W W':World} (h:AS w B neg neg' num den num' dw W) (hb:Below W.heap.size W W'):AS w B neg neg' num den num' dw W':=AS.of (h.2.2.2.2.below hb)
theorem AS.st0 {w:World} {B:Nat} {neg neg':Bool} {num den num' dw:ByteArray} {W:World} (h:AS w B neg neg' num den num' dw W):AS w B neg neg' num den num' dw (((W.setCell ⟨B,0,none⟩ (.bool neg)).setCell ⟨B,1,none⟩ (.string num)).setCell ⟨B,2,none⟩ (.string den)):=
 AS.of (((h.2.2.2.2.set0 0 (.bool neg)).set0 1 (.string num)).set0 2 (.string den))
theorem AS.st1 {w:World} {B:Nat} {neg neg':Bool} {num den num' dw:ByteArray} {W:World} (h:AS w B neg neg' num den num' dw W):AS w B neg neg' num den num' dw (((W.setCell ⟨B+1,0,none⟩ (.bool neg')).setCell ⟨B+1,1,none⟩ (.string num')).setCell ⟨B+1,2,none⟩ (.string dw)):=
 AS.of (((h.2.2.2.2.set (i:=1) rfl 0 (.bool neg')).set (i:=1) rfl 1 (.string num')).set (i:=1) rfl 2 (.string dw))
theorem V5 (neg neg':Bool) (num num' den dw X Y D:ByteArray) (w:World) (r:Ra)
  (jE:Hid (∀W,Calls Tryz.prog 102 #[.agg #[.bool neg,.string num,.string den]] W fun e w'=>e=.returned (.agg #[.bool neg,.string num,.string den])∧Below W.heap.size W w'))
  (kC:Hid (∀W,Calls Tryz.prog 102 #[.agg #[.bool neg',.string num',.string dw]] W fun e w'=>e=.returned (.agg #[.bool neg',.string num',.string dw])∧Below W.heap.size W w'))
  (jU:Hid (∀W,Calls Tryz.prog 158 #[.string num,.string dw] W fun e w'=>e=.returned (.string X)∧Below W.heap.size W w'))
  (qx:Hid (∀W,Calls Tryz.prog 158 #[.string num',.string den] W fun e w'=>e=.returned (.string Y)∧Below W.heap.size W w'))
  (Ip:Hid (∀W,Calls Tryz.prog 158 #[.string den,.string dw] W fun e w'=>e=.returned (.string D)∧Below W.heap.size W w'))
  (hc:(neg=neg'∧∃Z,Hid (∀W,Calls Tryz.prog 142 #[.string X,.string Y] W fun e w'=>e=.returned (.string Z)∧Below W.heap.size W w')∧Hid (∀W,Calls Tryz.prog 112 #[.bool neg,.string Z,.string D] W fun e w'=>e=.returned r.v∧Below W.heap.size W w'))∨
    ((neg==neg')=false∧∃Z,Hid (∀W,Calls Tryz.prog 196 #[.string X,.string Y] W fun e w'=>e=.returned (.tuple #[.string Z,.bool true])∧Below W.heap.size W w')∧Hid (∀W,Calls Tryz.prog 112 #[.bool neg,.string Z,.string D] W fun e w'=>e=.returned r.v∧Below W.heap.size W w'))∨
    ((neg==neg')=false∧∃Z,Hid (∀W,Calls Tryz.prog 196 #[.string X,.string Y] W fun e w'=>e=.returned (.tuple #[.string ⟨#[]⟩,.bool false])∧Below W.heap.size W w')∧Hid (∀W,Calls Tryz.prog 196 #[.string Y,.string X] W fun e w'=>e=.returned (.tuple #[.string Z,.bool true])∧Below W.heap.size W w')∧Hid (∀W,Calls Tryz.prog 112 #[.bool neg',.string Z,.string D] W fun e w'=>e=.returned r.v∧Below W.heap.size W w'))):
  Calls Tryz.prog 152 #[.agg #[.bool neg,.string num,.string den],.agg #[.bool neg',.string num',.string dw]] w fun e w'=>e=.returned r.v∧Below w.heap.size w w':=by
 obtain⟨rn,ru,rd⟩:=r;unfold Ra.v at hc⊢;simp only at hc⊢;obtain⟨W,hW⟩:=zE (((w.alloc (.cells #[.bool neg,.string num,.string den] 40)).alloc (.cells #[.bool neg',.string num',.string dw] 40)).alloc (.cells #[.bool false,.string ⟨#[]⟩,.string ⟨#[]⟩] 40));have hf:=Fr.three w 40 40 40 #[.bool neg,.string num,.string den] #[.bool neg',.string num',.string dw] #[.bool false,.string ⟨#[]⟩,.string ⟨#[]⟩];obtain⟨B,hB⟩:=zE w.heap.size;rw[←hW,←hB] at hf;have HS:=zH (AS.of hf.drew);have HK:=zH (fun (W W':World) (h:AS w B neg neg' num den num' dw W) (hb:Below W.heap.size W W')=>h.below hb);have HT0:=zH (fun (W:World) (h:AS w B neg neg' num den num' dw W)=>h.st0);have HT1:=zH (fun (W:World) (h:AS w B neg neg' num den num' dw W)=>h.st1);clear hf;go_enter Tryz.func152,Tryz.ntmps152
 go_upto_region 1 with fail
 simp only[←hW,←hB]
 clear hW hB
 go_region_held3 (fun w'=>(∀j,w'.cell? ⟨B,j,none⟩=([.bool neg,.string num,.string den]:List Value)[j]?)∧(∀j,w'.cell? ⟨B+1,j,none⟩=([.bool neg',.string num',.string dw]:List Value)[j]?)∧(∀j,w'.frozen? ⟨B,j,none⟩=false)∧(∀j,w'.frozen? ⟨B+1,j,none⟩=false)∧Fr w B [(40,([.bool neg,.string num,.string den]:List Value)),(40,[.bool neg',.string num',.string dw]),(40,[.bool false,.string ⟨#[]⟩,.string ⟨#[]⟩])] w') (first|(with_reducible exact HS.out)|(with_reducible assumption)|(with_reducible exact HT0.out _ (by with_reducible assumption))|(with_reducible exact HT1.out _ (by with_reducible assumption))|(with_reducible exact HK.out _ _ (by with_reducible assumption) hb1))
  ((first|(go_at_call 102;(with_reducible refine (jE.out _).mono ?_);rintro e w1 ⟨rfl,hb1⟩)|(go_at_call 102;(with_reducible refine (kC.out _).mono ?_);rintro e w1 ⟨rfl,hb1⟩;have hzz:=HK.out _ _ (by with_reducible assumption) hb1;obtain⟨z0,z1,z2,z3,z4⟩:=hzz)))
 rename_i hH;clear z0 z1 z2 z3 z4 HS;generalize (((((w1.setCell ⟨B,0,none⟩ (.bool neg)).setCell ⟨B,1,none⟩ (.string num)).setCell ⟨B,2,none⟩ (.string den)).setCell ⟨B+1,0,none⟩ (.bool neg')).setCell ⟨B+1,1,none⟩ (.string num')).setCell ⟨B+1,2,none⟩ (.string dw)=w2 at*;have HS:=zH (AS.of hH.2.2.2.2.drew);clear hH hb1;go_wp2_with fail
 go_region_held3 (fun w'=>(∀j,w'.cell? ⟨B,j,none⟩=([.bool neg,.string num,.string den]:List Value)[j]?)∧(∀j,w'.cell? ⟨B+1,j,none⟩=([.bool neg',.string num',.string dw]:List Value)[j]?)∧(∀j,w'.frozen? ⟨B,j,none⟩=false)∧(∀j,w'.frozen? ⟨B+1,j,none⟩=false)∧Fr w B [(40,([.bool neg,.string num,.string den]:List Value)),(40,[.bool neg',.string num',.string dw]),(40,[.bool false,.string ⟨#[]⟩,.string ⟨#[]⟩])] w') (first|(with_reducible exact HS.out)|(with_reducible assumption)|(with_reducible exact HK.out _ _ (by with_reducible assumption) hb1))
  ((first|(go_at_call 158;(with_reducible refine (jU.out _).mono ?_);rintro e w1 ⟨rfl,hb1⟩)|(go_at_call 158;(with_reducible refine (qx.out _).mono ?_);rintro e w3 ⟨rfl,hb1⟩)))
 rename_i hH;obtain⟨c0,c1,f0,f1,hf⟩:=hH;clear HS HK HT0 HT1 jU qx jE kC hb1;go_wp2_with fail;refine (Ip.out _).mono ?_;rintro e w4 ⟨rfl,hb4⟩;replace hf:=hf.below hb4;clear c0 c1 f0 f1 hb4 Ip;have c0:=hf.c0;have c1:=hf.c (i:=1) rfl;rcases hc with⟨rfl,Z,HZ,fP⟩|⟨hne,Z,HZ,fP⟩|⟨hne,Z,HZ,HZ2,fP⟩
 ·go_upto_region 5 with fail
  have c2:=hf.c (i:=2) rfl;have f2:=hf.f (i:=2) rfl;have HF:=zH hf.drew;clear hf
  go_region_law ((go_simp;first|(go_at_call 142;(with_reducible refine (HZ.out _).mono ?_);rintro e w5 ⟨rfl,hb5⟩;have xW:=zH (HF.out.below hb5);have d0:=xW.out.c0;clear hb5)|(go_at_call 112;(with_reducible refine (fP.out _).mono ?_);rintro e w6 ⟨rfl,hb6⟩;have HF6:=zH (xW.out.below hb6);have e2:=HF6.out.c (i:=2) rfl;have g2:=HF6.out.f (i:=2) rfl;clear hb6)))
  all_goals
   go_wp2;refine bodyPost_ret (v:=.agg #[.bool rn,.string ru,.string rd]) (by simp[results,Tryz.results152,go_sem,e2]) rfl ⟨rfl,?_⟩;exact (((HF6.out.set (i:=2) rfl 0 _).set (i:=2) rfl 1 _).set (i:=2) rfl 2 _).low
 ·go_wp2_with fail;refine (HZ.out _).mono ?_;rintro e w5 ⟨rfl,hb5⟩;replace hf:=hf.below hb5;clear c0 c1 hb5;have c0:=hf.c0;go_wp2_with fail;refine (fP.out _).mono ?_;rintro e w6 ⟨rfl,hb6⟩;replace hf:=hf.below hb6;clear c0 hb6;have e2:=hf.c (i:=2) rfl;have g2:=hf.f (i:=2) rfl;go_wp2;refine bodyPost_ret (v:=.agg #[.bool rn,.string ru,.string rd]) (by simp[results,Tryz.results152,go_sem,e2]) rfl ⟨rfl,?_⟩;exact (((hf.set (i:=2) rfl 0 _).set (i:=2) rfl 1 _).set (i:=2) rfl 2 _).low
 ·go_wp2_with fail;refine (HZ.out _).mono ?_;rintro e w5 ⟨rfl,hb5⟩;replace hf:=hf.below hb5;clear c0 c1 hb5;go_wp2_with fail;refine (HZ2.out _).mono ?_;rintro e w6 ⟨rfl,hb6⟩;replace hf:=hf.below hb6;clear hb6;have c1:=hf.c (i:=1) rfl;go_wp2_with fail;refine (fP.out _).mono ?_;rintro e w7 ⟨rfl,hb7⟩;replace hf:=hf.below hb7;clear c1 hb7;have e2:=hf.c (i:=2) rfl;have g2:=hf.f (i:=2) rfl;go_wp2;refine bodyPost_ret (v:=.agg #[.bool rn,.string ru,.string rd]) (by simp[results,Tryz.results152,go_sem,e2]) rfl ⟨rfl,?_⟩;exact (((hf.set (i:=2) rfl 0 _).set (i:=2) rfl 1 _).set (i:=2) rfl 2 _).low
theorem TA {s:ByteArray} (h:dM s=true):aB (aA s)=s:=((iO s).1 h).symm
theorem abz (a b:Ra) (w:World) (ha:okR a=true) (hb:okR b=true) (S:Nat) (hS:S≤1048577) (h1:a.num.size≤S) (h2:a.den.size≤S) (h3:b.num.size≤S) (h4:b.den.size≤S):
  Calls Tryz.prog 152 #[a.v,b.v] w fun e w'=>e=.returned (nH a b).v∧Below w.heap.size w w':=by
 obtain⟨p1,p2,p3,p4⟩:=gY ha;obtain⟨q1,q2,q3,q4⟩:=gY hb;have va:=nZ ha;have vb:=nZ hb;have jE:=zH (fun W=>pK a W (by omega) (by omega));have kC:=zH (fun W=>pK b W (by omega) (by omega));rw[va] at jE;rw[vb] at kC;obtain⟨x,hx⟩:=zF (aA a.num*aA b.den);obtain⟨y,hy⟩:=zF (aA b.num*aA a.den);obtain⟨d,hd⟩:=zF (aA a.den*aA b.den);have bx:x<256 ^ (S+S):=hx ▸ fE (dB a.num S h1) (dB b.den S h4);have NR:y<256 ^ (S+S):=hy ▸ fE (dB b.num S h3) (dB a.den S h2);have bd:d<256 ^ (S+S):=hd ▸ fE (dB a.den S h2) (dB b.den S h4);have hd0:0<d:=hd ▸ Nat.mul_pos p2 q2;have sx:(aB x).size≤S+S:=aV x (S+S) bx;have sy:(aB y).size≤S+S:=aV y (S+S) NR;have bs:x+y<256 ^ (S+S+1):=by rw[Nat.pow_succ];omega
 have up:256 ^ (S+S)≤256 ^ (S+S+1):=Nat.pow_le_pow_right (by omega) (by omega);have jU:=zH (fun W=>sD a.num b.den W (by omega) (by omega));have qx:=zH (fun W=>sD b.num a.den W (by omega) (by omega));have Ip:=zH (fun W=>sD a.den b.den W (by omega) (by omega));rw[hx] at jU;rw[hy] at qx;rw[hd] at Ip;have HA:=zH (fun W=>Hz (aB x) (aB y) W (by omega) (by omega));rw[aX,aX] at HA;refine V5 a.neg b.neg a.num b.num a.den b.den (aB x) (aB y) (aB d) w (nH a b) jE kC jU qx Ip ?_;unfold nH;rw[hx,hy,hd];by_cases hn:a.neg=b.neg
 ·rw[if_pos hn];exact .inl ⟨hn,_,HA,fun W=>nX a.neg (x+y) d (S+S+1) W (by omega) bs (by omega) hd0⟩
 ·rw[if_neg hn];have hne:(a.neg==b.neg)=false:=beq_eq_false_iff_ne.2 hn;by_cases hle:y≤x
  ·rw[if_pos hle];refine .inr (.inl ⟨hne,_,fun W=>Kv (aB x) (aB y) W (by omega) (by omega) (by rw[aX,aX];exact hle),?_⟩);rw[aX,aX];exact fun W=>nX a.neg (x-y) d (S+S+1) W (by omega) (by omega) (by omega) hd0
  ·rw[if_neg hle];refine .inr (.inr ⟨hne,_,fun W=>VH (aB x) (aB y) W (by omega) (by omega) (by rw[aX,aX];omega),fun W=>Kv (aB y) (aB x) W (by omega) (by omega) (by rw[aX,aX];omega),?_⟩);rw[aX,aX];exact fun W=>nX b.neg (y-x) d (S+S+1) W (by omega) (by omega) (by omega) hd0
theorem KG (a b:Ra) (S:Nat) (h1:a.num.size≤S) (h2:a.den.size≤S) (h3:b.num.size≤S) (h4:b.den.size≤S):(nH a b).num.size≤S+S+1∧(nH a b).den.size≤S+S+1:=by
 have bx:=fE (dB a.num S h1) (dB b.den S h4);have NR:=fE (dB b.num S h3) (dB a.den S h2);have bd:=fE (dB a.den S h2) (dB b.den S h4);have up:256 ^ (S+S+1)=256 ^ (S+S)*256:=Nat.pow_succ ..;unfold nH;split
 ·exact xU _ _ _ _ (by omega) (by omega)
 ·split
  ·exact xU _ _ _ _ (by omega) (by omega)
  ·exact xU _ _ _ _ (by omega) (by omega)
def iZ (a b:Ra):Ra × Bool:=if b.num=⟨#[]⟩ then (⟨false,⟨#[]⟩,⟨#[]⟩⟩,false) else (low (a.neg !=b.neg) (aA a.num*aA b.den) (aA a.den*aA b.num),true)
theorem V6 (neg neg':Bool) (num num' den dw:ByteArray) (w:World) (r s:Ra)
  (HN:Hid (∀W,Calls Tryz.prog 153 #[.agg #[.bool neg',.string num',.string dw]] W fun e w'=>e=.returned r.v∧Below W.heap.size W w')) (HA:Hid (∀W,Calls Tryz.prog 152 #[.agg #[.bool neg,.string num,.string den],r.v] W fun e w'=>e=.returned s.v∧Below W.heap.size W w')):
  Calls Tryz.prog 113 #[.agg #[.bool neg,.string num,.string den],.agg #[.bool neg',.string num',.string dw]] w fun e w'=>e=.returned s.v∧Below w.heap.size w w':=by
 obtain⟨rn,ru,rd⟩:=r;obtain⟨sn,su,sd⟩:=s;unfold Ra.v at HN HA⊢;simp only at HN HA⊢;obtain⟨W,hW⟩:=zE (((w.alloc (.cells #[.bool neg,.string num,.string den] 40)).alloc (.cells #[.bool neg',.string num',.string dw] 40)).alloc (.cells #[.bool false,.string ⟨#[]⟩,.string ⟨#[]⟩] 40));have hf:=Fr.three w 40 40 40 #[.bool neg,.string num,.string den] #[.bool neg',.string num',.string dw] #[.bool false,.string ⟨#[]⟩,.string ⟨#[]⟩];obtain⟨B,hB⟩:=zE w.heap.size;rw[←hW,←hB] at hf;have c0:=hf.c0;have c1:=hf.c (i:=1) rfl;have HF:=zH hf.drew;clear hf;go_enter Tryz.func113,Tryz.ntmps113
 go_upto_region 1 with fail
 simp only[←hW,←hB]
 clear hW hB
 go_region_law ((go_simp;first|(go_at_call 153;(with_reducible refine (HN.out _).mono ?_);rintro e w5 ⟨rfl,hb5⟩;have xW:=zH (HF.out.below hb5);have d0:=xW.out.c0;clear hb5)|(go_at_call 152;(with_reducible refine (HA.out _).mono ?_);rintro e w6 ⟨rfl,hb6⟩;have HF6:=zH (xW.out.below hb6);have e2:=HF6.out.c (i:=2) rfl;have g2:=HF6.out.f (i:=2) rfl;clear hb6)))
 all_goals
  go_wp2;refine bodyPost_ret (v:=.agg #[.bool sn,.string su,.string sd]) (by simp[results,Tryz.results113,go_sem,e2]) rfl ⟨rfl,?_⟩;exact (((HF6.out.set (i:=2) rfl 0 _).set (i:=2) rfl 1 _).set (i:=2) rfl 2 _).low
theorem V7 (neg neg':Bool) (num num' den dw:ByteArray) (w:World) (s:Ra) (z:Int)
  (HN:Hid (∀W,Calls Tryz.prog 113 #[.agg #[.bool neg,.string num,.string den],.agg #[.bool neg',.string num',.string dw]] W fun e w'=>e=.returned s.v∧Below W.heap.size W w')) (HS:Hid (∀W,Calls Tryz.prog 67 #[s.v] W fun e w'=>e=.returned (.int .i64 z)∧Below W.heap.size W w')):
  Calls Tryz.prog 68 #[.agg #[.bool neg,.string num,.string den],.agg #[.bool neg',.string num',.string dw]] w fun e w'=>e=.returned (.int .i64 z)∧Below w.heap.size w w':=by
 obtain⟨sn,su,sd⟩:=s;unfold Ra.v at HN HS;simp only at HN HS;obtain⟨W,hW⟩:=zE ((w.alloc (.cells #[.bool neg,.string num,.string den] 40)).alloc (.cells #[.bool neg',.string num',.string dw] 40));have hf:=Fr.two w 40 40 #[.bool neg,.string num,.string den] #[.bool neg',.string num',.string dw];obtain⟨B,hB⟩:=zE w.heap.size;rw[←hW,←hB] at hf;have c0:=hf.c0;have c1:=hf.c (i:=1) rfl;go_enter Tryz.func68,Tryz.ntmps68;go_wp2_with fail;simp only[←hW,←hB]
 clear hW hB;refine (HN.out _).mono ?_;rintro e w1 ⟨rfl,hb1⟩;go_wp2_with fail;refine (HS.out _).mono ?_;rintro e w2 ⟨rfl,hb2⟩;go_wp2;refine bodyPost_ret (v:=.int .i64 z) (by simp[results,Tryz.results68,go_sem]) rfl ⟨rfl,?_⟩;exact hf.out (ah hb1 hb2)
theorem QZ (a b:Ra) (w:World) (ha:okR a=true) (hb:okR b=true) (S:Nat) (hS:S≤1048577) (h1:a.num.size≤S) (h2:a.den.size≤S) (h3:b.num.size≤S) (h4:b.den.size≤S):
  Calls Tryz.prog 68 #[a.v,b.v] w fun e w'=>e=.returned (.int .i64 (lX a b))∧Below w.heap.size w w':=by
 have hz:=KG a (qj b) S h1 h2 h3 h4;have HS:=zH (fun W=>V6 a.neg b.neg a.num b.num a.den b.den W (qj b) (nH a (qj b)) (fun W=>aby b W hb (by omega) (by omega)) (fun W=>abz a (qj b) W ha (V4 hb) S hS h1 h2 h3 h4));exact V7 a.neg b.neg a.num b.num a.den b.den w (nH a (qj b)) (lX a b) HS (fun W=>vC (nH a (qj b)) W (by omega) (by omega))
section
variable {w:World} {B:Nat} {neg neg':Bool} {num den num' dw:ByteArray} {x:TypeId × List Value} {W W':World}
theorem aeH (h:Fr w B [(40,([.bool neg,.string num,.string den]:List Value)),(40,[.bool neg',.string num',.string dw]),x] W):(∀j,W.cell? ⟨B,j,none⟩=([.bool neg,.string num,.string den]:List Value)[j]?)∧(∀j,W.cell? ⟨B+1,j,none⟩=([.bool neg',.string num',.string dw]:List Value)[j]?)∧B+2<W.heap.size:=
 ⟨h.c0,h.c (i:=1) rfl,by have:=h.sz.out;simp only[List.length_cons,List.length_nil] at this;omega⟩
theorem YS (h:(∀j,W.cell? ⟨B,j,none⟩=([.bool neg,.string num,.string den]:List Value)[j]?)∧(∀j,W.cell? ⟨B+1,j,none⟩=([.bool neg',.string num',.string dw]:List Value)[j]?)∧B+2<W.heap.size) (hb:Below W.heap.size W W'):(∀j,W'.cell? ⟨B,j,none⟩=([.bool neg,.string num,.string den]:List Value)[j]?)∧(∀j,W'.cell? ⟨B+1,j,none⟩=([.bool neg',.string num',.string dw]:List Value)[j]?)∧B+2<W'.heap.size:=
 ⟨fun j=>(hb.cell (p:=⟨B,j,none⟩) (by show B<_;omega)).trans (h.1 j),fun j=>(hb.cell (p:=⟨B+1,j,none⟩) (by show B+1<_;omega)).trans (h.2.1 j),Nat.lt_of_lt_of_le h.2.2 hb.size⟩
theorem aeI (h:(∀j,W.cell? ⟨B,j,none⟩=([.bool neg,.string num,.string den]:List Value)[j]?)∧(∀j,W.cell? ⟨B+1,j,none⟩=([.bool neg',.string num',.string dw]:List Value)[j]?)∧B+2<W.heap.size) (u v z:Value):(∀j,(((W.setCell ⟨B+2,0,none⟩ u).setCell ⟨B+2,1,none⟩ v).setCell ⟨B+2,2,none⟩ z).cell? ⟨B,j,none⟩=([.bool neg,.string num,.string den]:List Value)[j]?)∧(∀j,(((W.setCell ⟨B+2,0,none⟩ u).setCell ⟨B+2,1,none⟩ v).setCell ⟨B+2,2,none⟩ z).cell? ⟨B+1,j,none⟩=([.bool neg',.string num',.string dw]:List Value)[j]?)∧B+2<(((W.setCell ⟨B+2,0,none⟩ u).setCell ⟨B+2,1,none⟩ v).setCell ⟨B+2,2,none⟩ z).heap.size:=by
 refine⟨fun j=>?_,fun j=>?_,by rw[World.size_setCell,World.size_setCell,World.size_setCell];exact h.2.2⟩
 ·rw[World.cell?_setCell_far _ _ _ _ (by show B+2≠B;omega),World.cell?_setCell_far _ _ _ _ (by show B+2≠B;omega),World.cell?_setCell_far _ _ _ _ (by show B+2≠B;omega)];exact h.1 j
 ·rw[World.cell?_setCell_far _ _ _ _ (by show B+2≠B+1;omega),World.cell?_setCell_far _ _ _ _ (by show B+2≠B+1;omega),World.cell?_setCell_far _ _ _ _ (by show B+2≠B+1;omega)];exact h.2.1 j
end
theorem V8 (neg neg':Bool) (num num' den dw X Y:ByteArray) (w:World) (r:Ra)
  (jE:Hid (∀W,Calls Tryz.prog 102 #[.agg #[.bool neg,.string num,.string den]] W fun e w'=>e=.returned (.agg #[.bool neg,.string num,.string den])∧Below W.heap.size W w'))
  (kC:Hid (∀W,Calls Tryz.prog 102 #[.agg #[.bool neg',.string num',.string dw]] W fun e w'=>e=.returned (.agg #[.bool neg',.string num',.string dw])∧Below W.heap.size W w'))
  (jU:Hid (∀W,Calls Tryz.prog 158 #[.string num,.string dw] W fun e w'=>e=.returned (.string X)∧Below W.heap.size W w'))
  (qx:Hid (∀W,Calls Tryz.prog 158 #[.string den,.string num'] W fun e w'=>e=.returned (.string Y)∧Below W.heap.size W w'))
  (fP:Hid (∀W,Calls Tryz.prog 112 #[.bool (!(neg==neg')),.string X,.string Y] W fun e w'=>e=.returned r.v∧Below W.heap.size W w')) (hz:num'.toList.isEmpty=false):
  Calls Tryz.prog 117 #[.agg #[.bool neg,.string num,.string den],.agg #[.bool neg',.string num',.string dw]] w fun e w'=>e=.returned (.tuple #[r.v,.bool true])∧Below w.heap.size w w':=by
 obtain⟨rn,ru,rd⟩:=r;unfold Ra.v at fP⊢;simp only at fP⊢;obtain⟨W,hW⟩:=zE (((w.alloc (.cells #[.bool neg,.string num,.string den] 40)).alloc (.cells #[.bool neg',.string num',.string dw] 40)).alloc (.cells #[.bool false,.string ⟨#[]⟩,.string ⟨#[]⟩] 40));have hf:=Fr.three w 40 40 40 #[.bool neg,.string num,.string den] #[.bool neg',.string num',.string dw] #[.bool false,.string ⟨#[]⟩,.string ⟨#[]⟩];obtain⟨B,hB⟩:=zE w.heap.size;rw[←hW,←hB] at hf;have HS:=zH (AS.of hf.drew);have HK:=zH (fun (W W':World) (h:AS w B neg neg' num den num' dw W) (hb:Below W.heap.size W W')=>h.below hb);have HT0:=zH (fun (W:World) (h:AS w B neg neg' num den num' dw W)=>h.st0);have HT1:=zH (fun (W:World) (h:AS w B neg neg' num den num' dw W)=>h.st1);clear hf;go_enter Tryz.func117,Tryz.ntmps117
 go_upto_region 1 with fail
 simp only[←hW,←hB]
 clear hW hB
 go_region_held3 (fun w'=>(∀j,w'.cell? ⟨B,j,none⟩=([.bool neg,.string num,.string den]:List Value)[j]?)∧(∀j,w'.cell? ⟨B+1,j,none⟩=([.bool neg',.string num',.string dw]:List Value)[j]?)∧(∀j,w'.frozen? ⟨B,j,none⟩=false)∧(∀j,w'.frozen? ⟨B+1,j,none⟩=false)∧Fr w B [(40,([.bool neg,.string num,.string den]:List Value)),(40,[.bool neg',.string num',.string dw]),(40,[.bool false,.string ⟨#[]⟩,.string ⟨#[]⟩])] w') (first|(with_reducible exact HS.out)|(with_reducible assumption)|(with_reducible exact HT0.out _ (by with_reducible assumption))|(with_reducible exact HT1.out _ (by with_reducible assumption))|(with_reducible exact HK.out _ _ (by with_reducible assumption) hb1))
  ((first|(go_at_call 102;(with_reducible refine (jE.out _).mono ?_);rintro e w1 ⟨rfl,hb1⟩)|(go_at_call 102;(with_reducible refine (kC.out _).mono ?_);rintro e w1 ⟨rfl,hb1⟩;have hzz:=HK.out _ _ (by with_reducible assumption) hb1;obtain⟨z0,z1,z2,z3,z4⟩:=hzz)))
 rename_i hH;clear z0 z1 z2 z3 z4 HS;generalize (((((w1.setCell ⟨B,0,none⟩ (.bool neg)).setCell ⟨B,1,none⟩ (.string num)).setCell ⟨B,2,none⟩ (.string den)).setCell ⟨B+1,0,none⟩ (.bool neg')).setCell ⟨B+1,1,none⟩ (.string num')).setCell ⟨B+1,2,none⟩ (.string dw)=w2 at*;obtain⟨c0,c1,f0,f1,hf⟩:=hH;clear hb1 jE kC;have HF:=zH hf.drew;clear hf
 go_upto_region 4 with fail
 have HS:=zH (aeH HF.out);have HK:=zH (fun (W W':World) (h:(∀j,W.cell? ⟨B,j,none⟩=([.bool neg,.string num,.string den]:List Value)[j]?)∧(∀j,W.cell? ⟨B+1,j,none⟩=([.bool neg',.string num',.string dw]:List Value)[j]?)∧B+2<W.heap.size) (hb:Below W.heap.size W W')=>YS h hb);have HT:=zH (fun (W:World) (h:(∀j,W.cell? ⟨B,j,none⟩=([.bool neg,.string num,.string den]:List Value)[j]?)∧(∀j,W.cell? ⟨B+1,j,none⟩=([.bool neg',.string num',.string dw]:List Value)[j]?)∧B+2<W.heap.size)=>aeI h (.bool rn) (.string ru) (.string rd))
 go_region_held3 (fun w'=>(∀j,w'.cell? ⟨B,j,none⟩=([.bool neg,.string num,.string den]:List Value)[j]?)∧(∀j,w'.cell? ⟨B+1,j,none⟩=([.bool neg',.string num',.string dw]:List Value)[j]?)∧B+2<w'.heap.size) (first|(with_reducible exact HS.out)|(with_reducible assumption)|(with_reducible exact HT.out _ (by with_reducible assumption))|(with_reducible exact HK.out _ _ (by with_reducible assumption) hb1))
  ((first|(go_at_call 158;(with_reducible refine (jU.out _).mono ?_);rintro e w5 ⟨rfl,hb1⟩;have xW:=zH (HF.out.below hb1))|(go_at_call 158;(with_reducible refine (qx.out _).mono ?_);rintro e w6 ⟨rfl,hb1⟩;have HF6:=zH (xW.out.below hb1))|(go_at_call 112;(with_reducible refine (fP.out _).mono ?_);rintro e w7 ⟨rfl,hb1⟩;have HF7:=zH (HF6.out.below hb1);have e2:=HF7.out.c (i:=2) rfl;have g2:=HF7.out.f (i:=2) rfl)))
 all_goals
  go_wp2;refine bodyPost_ret (v:=.tuple #[.agg #[.bool rn,.string ru,.string rd],.bool true]) (by simp[results,Tryz.results117,go_sem,e2]) rfl ⟨rfl,?_⟩;exact (((HF7.out.set (i:=2) rfl 0 _).set (i:=2) rfl 1 _).set (i:=2) rfl 2 _).low
theorem AQ {s:ByteArray} (h:s≠⟨#[]⟩):s.toList.isEmpty=false:=by
 cases e:s.toList.isEmpty
 ·rfl
 ·exact absurd (toList_inj (by rw[List.isEmpty_iff.1 e,ByteArray.toList_eq])) h
theorem EJ {s:ByteArray} (h:dM s=true) (h0:s≠⟨#[]⟩):0<aA s:=by
 rcases Nat.eq_zero_or_pos (aA s) with e|e
 ·exact absurd (by rw[(iO s).1 h,e];exact (AB 0).2 rfl) h0
 ·exact e
theorem abA (a b:Ra) (w:World) (ha:okR a=true) (hb:okR b=true) (h0:b.num≠⟨#[]⟩) (S:Nat) (hS:S≤1048577) (h1:a.num.size≤S) (h2:a.den.size≤S) (h3:b.num.size≤S) (h4:b.den.size≤S):
  Calls Tryz.prog 117 #[a.v,b.v] w fun e w'=>e=.returned (.tuple #[(iZ a b).1.v,.bool true])∧Below w.heap.size w w':=by
 obtain⟨p1,p2,p3,p4⟩:=gY ha;obtain⟨q1,q2,q3,q4⟩:=gY hb;have jE:=zH (fun W=>pK a W (by omega) (by omega));have kC:=zH (fun W=>pK b W (by omega) (by omega));rw[nZ ha] at jE;rw[nZ hb] at kC;have e:(iZ a b).1=low (a.neg !=b.neg) (aA a.num*aA b.den) (aA a.den*aA b.num):=by unfold iZ;rw[if_neg h0]
 rw[e];have bx:=fE (dB a.num S h1) (dB b.den S h4);have NR:=fE (dB a.den S h2) (dB b.num S h3)
 exact V8 a.neg b.neg a.num b.num a.den b.den _ _ w _ jE kC (fun W=>sD a.num b.den W (by omega) (by omega)) (fun W=>sD a.den b.num W (by omega) (by omega))
  (fun W=>nX (a.neg !=b.neg) _ _ (S+S) W (by omega) bx NR (Nat.mul_pos p2 (EJ q3 h0))) (AQ h0)
theorem V9 (a b:Ra) (S:Nat) (h1:a.num.size≤S) (h2:a.den.size≤S) (h3:b.num.size≤S) (h4:b.den.size≤S):(iZ a b).1.num.size≤S+S∧(iZ a b).1.den.size≤S+S:=by
 unfold iZ;split
 ·exact⟨Nat.zero_le _,Nat.zero_le _⟩
 ·exact xU _ _ _ _ (fE (dB a.num S h1) (dB b.den S h4)) (fE (dB a.den S h2) (dB b.num S h3))
theorem Jy (neg:Bool) (n d:Nat) (hd:0<d):okR (low neg n d)=true:=by
 have hg:0<Nat.gcd n d:=Nat.gcd_pos_of_pos_right n hd;have h1:0<d / Nat.gcd n d:=Nat.div_pos (Nat.le_of_dvd hd (Nat.gcd_dvd_right n d)) hg;have hco:Nat.gcd (n / Nat.gcd n d) (d / Nat.gcd n d)=1:=Nat.coprime_div_gcd_div_gcd hg;unfold okR;have e1:dM (low neg n d).den=true:=(iO _).2 (by unfold low;rw[aX]);have e2:dM (low neg n d).num=true:=(iO _).2 (by unfold low;rw[aX]);have e3:aA (low neg n d).den=d / Nat.gcd n d:=aX _;have e4:aA (low neg n d).num=n / Nat.gcd n d:=aX _
 have hz:n / Nat.gcd n d=0↔n=0:=by
  constructor
  ·intro h;have:=Nat.div_mul_cancel (Nat.gcd_dvd_left n d);rw[h,Nat.zero_mul] at this;exact this.symm
  ·intro h;rw[h,Nat.zero_div]
 rw[e1,e2,e3,e4,decide_eq_true h1,Bool.true_and,Bool.true_and,Bool.true_and,decide_eq_true_eq];unfold low;rw[hco,Nat.div_one,Nat.div_one];congr 1;by_cases hn:n=0
 ·simp[hn]
 ·have:n / Nat.gcd n d≠0:=fun h=>hn (hz.1 h)
  simp[hn,this]
theorem abB {p q:Nat→Bool} (h:∀j,q j=true→p j=true) (l:List Nat):(l.filter q).length≤(l.filter p).length:=by
 induction l with
 |nil=>exact Nat.le_refl _
 |cons a l ih=>
  rw[List.filter_cons,List.filter_cons];cases hq:q a
  ·cases hp:p a
   ·simpa using ih
   ·simp;omega
  ·rw[h a hq];simp;omega
theorem abC {p q:Nat→Bool} {i:Nat} (h:∀j,q j=true→p j=true) (hp:p i=true) (hq:q i=false) (l:List Nat) (hi:i∈l):(l.filter q).length<(l.filter p).length:=by
 induction l with
 |nil=>cases hi
 |cons a l ih=>
  rw[List.filter_cons,List.filter_cons];rcases List.mem_cons.1 hi with rfl|hi
  ·have:=abB h l;rw[hp,hq];simp;omega
  ·have:=ih hi;cases hq':q a
   ·cases hp':p a
    ·simpa using this
    ·simp;omega
   ·rw[h a hq'];simp;omega
def unl (n:Nat) (listed:Array Bool):Nat:=((List.range n).filter fun i=> !listed.getD i true).length
theorem NT {l:Array Bool} {i j:Nat} (h:i≠j) (d:Bool):(l.setIfInBounds i true).getD j d=l.getD j d:=by
 rw[Array.getD_eq_getD_getElem?,Array.getD_eq_getD_getElem?,Array.getElem?_setIfInBounds_ne h]
theorem KH {l:Array Bool} {i:Nat}:(l.setIfInBounds i true).getD i true=true:=by
 rw[Array.getD_eq_getD_getElem?,Array.getElem?_setIfInBounds];split<;>(try split)<;>first|rfl|omega|(rw[Array.getElem?_eq_none (by omega)];rfl)
section
variable {P:Program} {ops:Array Oper} {Q:Exit→Act→World→Prop}
theorem Wh (I:Array Bool→Act→World→Prop)
  (hs:∀listed a w i,I listed a w→i∈Region.ready .any ops listed→wpOp P ops Q i (I (listed.setIfInBounds i true)) a w)
  (hd:∀listed a w,I listed a w→Region.ready .any ops listed=[]→Q .normal a w):
  ∀fuel listed a w,I listed a w→unl ops.size listed≤fuel→wpAny P .any ops Q fuel listed a w:=by
 have hlt:∀listed i,i∈Region.ready .any ops listed→unl ops.size (listed.setIfInBounds i true)<unl ops.size listed:=fun listed i hi=>by
  obtain⟨h0,o,ho,_⟩:=mem_ready.1 hi
  have his:i<ops.size:=by
   rcases Nat.lt_or_ge i ops.size with h|h
   ·exact h
   ·rw[Array.getElem?_eq_none h] at ho;cases ho
  refine abC (i:=i) (fun j hj=>?_) (by rw[h0];rfl) (by rw[KH];rfl) _ (List.mem_range.2 his);by_cases e:i=j
  ·subst e;rw[KH] at hj;cases hj
  ·rw[NT e] at hj;exact hj
 intro fuel
 induction fuel with
 |zero=>
  intro listed a w h hu;have hr:Region.ready .any ops listed=[]:=List.eq_nil_iff_forall_not_mem.2 (fun i hi=>by have:=hlt listed i hi;omega);exact⟨hr,hd _ _ _ h hr⟩
 |succ fuel ih=>
  intro listed a w h hu;exact⟨fun hr=>hd _ _ _ h hr,fun i hi=>wpOp_mono (fun a' w' h'=>ih _ a' w' h' (by have:=hlt listed i hi;omega)) (hs _ _ _ i h hi)⟩
def oJ (ops:Array Oper) (i:Nat):Nat:=((ops[i]?).bind (·.dst)).getD 0
def acS (ops:Array Oper) (n:Nat):Bool:=
 (List.range ops.size).all fun i=>match ops[i]? with
   |none=>false
   |some o=>decide (oJ ops i<n)&&(o.after.all (fun e=>decide (e.on<i))&&(List.range ops.size).all fun j=>i==j||decide (oJ ops i≠oJ ops j))
theorem Qd {id n:Nat} {a:Act} {w:World} (hm:P.follows .mixedOrders=true) (hk:acS ops n=true) (ha:a.tmps.size=n) (R:Nat→Value→World→Prop)
  (hR:∀i v w w',R i v w→Below w.heap.size w w'→R i v w')
  (hop:∀i o,ops[i]?=some o→∀(a1:Act) (W:World),Below w.heap.size w W→(∀e∈o.after,Region.binds .any e=true→R e.on ((a1.tmps[oJ ops e.on]?).getD undef) W)→
    wpOp P ops Q i (fun a' W'=>∃v,a'=a1.put (some (oJ ops i)) v∧R i v W'∧Below W.heap.size W W') a1 W)
  (hend:∀(a1:Act) (W:World),a1.tmps.size=n→a1.defers=a.defers→Below w.heap.size w W→(∀i,i<ops.size→R i ((a1.tmps[oJ ops i]?).getD undef) W)→Q .normal a1 W):
  (Code.region id ops true).wp P Q a w:=by
 have hok:∀i o,ops[i]?=some o→oJ ops i<n∧(∀e∈o.after,e.on<i)∧∀j,j<ops.size→i≠j→oJ ops i≠oJ ops j:=fun i o ho=>by
  have his:i<ops.size:=by
   rcases Nat.lt_or_ge i ops.size with h|h
   ·exact h
   ·rw[Array.getElem?_eq_none h] at ho;cases ho
  have h:=List.all_eq_true.1 hk i (List.mem_range.2 his);rw[ho] at h;simp only[Bool.and_eq_true,decide_eq_true_eq] at h;refine⟨h.1,fun e he=>?_,fun j hj hij=>?_⟩
  ·have:=Array.all_eq_true_iff_forall_mem.1 h.2.1 e he;exact of_decide_eq_true this
  ·have:=List.all_eq_true.1 h.2.2 j (List.mem_range.2 hj);rw[Bool.or_eq_true,beq_iff_eq,decide_eq_true_eq] at this;exact this.resolve_left hij
 refine wp_region_any hm (Wh (fun listed a1 W=>Below w.heap.size w W∧a1.tmps.size=n∧a1.defers=a.defers∧∀i,i<ops.size→listed.getD i true=true→R i ((a1.tmps[oJ ops i]?).getD undef) W) ?_ ?_ _ _ _ _ ⟨ak w.heap.size w 1,ha,rfl,?_⟩ ?_)
 ·rintro listed a1 W i ⟨hb,hsz,hdf,hr⟩ hi;obtain⟨h0,o,ho,dD⟩:=mem_ready.1 hi;obtain⟨hd1,hd2,hd3⟩:=hok i o ho
  have his:i<ops.size:=by
   rcases Nat.lt_or_ge i ops.size with h|h
   ·exact h
   ·rw[Array.getElem?_eq_none h] at ho;cases ho
  refine wpOp_mono ?_ (hop i o ho a1 W hb (fun e he hbd=>hr e.on (by have:=hd2 e he;omega) ?_))
  ·rintro a' W' ⟨v,rfl,hv,hbW⟩;refine⟨hb.trans (hbW.mono hb.size),by show (a1.tmps.setIfInBounds _ _).size=n;rw[Array.size_setIfInBounds];exact hsz,hdf,fun j hj hl=>?_⟩;by_cases e:i=j
   ·subst e;show R i (((a1.tmps.setIfInBounds (oJ ops i) v)[oJ ops i]?).getD undef) W';rw[Array.getElem?_setIfInBounds_self_of_lt (by rw[hsz];exact hd1)];exact hv
   ·rw[NT e] at hl;show R j (((a1.tmps.setIfInBounds (oJ ops i) v)[oJ ops j]?).getD undef) W';rw[Array.getElem?_setIfInBounds_ne (hd3 j hj e)];exact hR _ _ _ _ (hr j hj hl) hbW
  ·have h1:=dD e he hbd
   have h2:e.on<listed.size:=by
    rcases Nat.lt_or_ge e.on listed.size with h|h
    ·exact h
    ·rw[Array.getD_eq_getD_getElem?,Array.getElem?_eq_none h] at h1;cases h1
   rw[Array.getD_eq_getD_getElem?,Array.getElem?_eq_getElem h2] at h1⊢;exact h1
 ·rintro listed a1 W ⟨hb,hsz,hdf,hr⟩ hnil
  have hall:∀m i,i<m→i<ops.size→listed.getD i true=true:=fun m=>by
   induction m with
   |zero=>intro i hi;omega
   |succ m ih=>
    intro i hi his;cases hl:listed.getD i true
    ·have:i∈Region.ready .any ops listed:=by
      refine mem_ready.2 ⟨hl,ops[i],Array.getElem?_eq_getElem his,fun e he hbd=>?_⟩;have h1:=(hok i ops[i] (Array.getElem?_eq_getElem his)).2.1 e he;have h2:=ih e.on (by omega) (by omega);rcases Nat.lt_or_ge e.on listed.size with h|h
      ·rw[Array.getD_eq_getD_getElem?,Array.getElem?_eq_getElem h] at h2⊢;exact h2
      ·have h3:listed.getD i true=true:=by rw[Array.getD_eq_getD_getElem?,Array.getElem?_eq_none (by omega)];rfl
       rw[h3] at hl;cases hl
     rw[hnil] at this;cases this
    ·rfl
  exact hend a1 W hsz hdf hb (fun i hi=>hr i hi (hall _ i (Nat.lt_succ_self i) hi))
 ·intro i hi h;rw[Array.getD_eq_getD_getElem?,Array.getElem?_replicate,if_pos hi] at h;cases h
 ·exact Nat.le_trans (List.length_filter_le _ _) (by rw[List.length_range];exact Nat.le_refl _)
end
theorem Jz (neg:Bool) (n:Nat):low neg n 1=⟨neg&&decide (n≠0),aB n,aB 1⟩:=by
 unfold low;rw[Nat.gcd_one_right,Nat.div_one,Nat.div_one]
theorem yO (neg:Bool) (n:Nat):dV (low neg n 1)=if n=0 then 0 else if neg then-1 else 1:=by
 unfold dV;rw[if_pos (Jy neg n 1 (by omega)),Jz];by_cases h:n=0
 ·subst h;rw[if_pos (by simp[aW]),if_pos rfl]
 ·rw[if_neg h,if_neg (fun e=>h (EI (congrArg Ra.num e)))];simp[h]
theorem zU (n:Nat):aW (n:Int)=⟨false,aB n,aB 1⟩:=by
 unfold aW;rw[show decide ((n:Int)<0)=false from decide_eq_false (by omega)];rfl
theorem Wi (n m:Nat) (hm:0<m):lX (aW (n:Int)) (aW (m:Int))≤0↔n≤m:=by
 have e:qj (aW (m:Int))=⟨true,aB m,aB 1⟩:=by
  rw[zU];unfold qj;simp only[Bool.not_false,Bool.true_and,Ra.mk.injEq,and_true,decide_eq_true_eq]
  intro h;have:=(AB m).1 h;omega
 unfold lX;rw[e,zU];unfold nH;rw[if_neg (by simp)];simp only[aX,Nat.mul_one]
 split
 ·rw[yO];by_cases h:n-m=0
  ·rw[if_pos h];omega
  ·rw[if_neg h];simp;omega
 ·rw[yO,if_neg (by omega)];simp;omega
theorem TB {q:Ra} (hq:okR q=true):(q.den=(aW 1).den∧0<dV q∧lX q (aW 200)≤0)↔∃n:Nat,1≤n∧n≤200∧q=aW (n:Int):=by
 constructor
 ·rintro⟨h1,h2,h3⟩;obtain⟨_,_,hn,_⟩:=gY hq
  have e:q=aW ((aA q.num:Nat):Int):=by
   unfold dV at h2;rw[if_pos hq] at h2;rw[zU,TA hn];obtain⟨neg,num,den⟩:=q;simp only at h1 h2⊢;rw[h1];cases neg
   ·rfl
   ·split at h2<;>simp at h2
  rw[e] at h2 h3;refine⟨_,?_,(Wi _ 200 (by omega)).1 h3,e⟩;rw[zU,←show low false (aA q.num) 1=⟨false,aB (aA q.num),aB 1⟩ by rw[Jz];rfl,yO] at h2;split at h2<;>omega
 ·rintro⟨n,h1,h2,rfl⟩;refine⟨rfl,?_,(Wi _ 200 (by omega)).2 h2⟩;rw[zU,←show low false n 1=⟨false,aB n,aB 1⟩ by rw[Jz];rfl,yO,if_neg (by omega)];decide
end Go.Proofs.YtgfeadgafdijaaaGreatDoor
