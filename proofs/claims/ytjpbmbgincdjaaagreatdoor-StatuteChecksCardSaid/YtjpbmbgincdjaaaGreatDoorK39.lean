/- Part: Js Qg. -/
import Derived.Test.YtjpbmbgincdjaaaGreatDoorK35
set_option linter.all false
set_option maxRecDepth 100000
set_option maxHeartbeats 0
namespace Go.Proofs.YtjpbmbgincdjaaaGreatDoor
open Go.RowKit List Tryz
section
set_option maxRecDepth 100000
set_option maxHeartbeats 0
variable {Ld:bU}
def WJ:ByteArray:=⟨#[97,103,101]⟩
def ado:ByteArray:=⟨#[114,101,110,116]⟩
def jk:ByteArray:=⟨#[99,114,101,100,105,116]⟩
def lX:ByteArray:=⟨#[114,101,108,105,101,102]⟩
abbrev pz (nm:ByteArray) (t:Ty) (c:Bool):Pv:=⟨nm,t,c,zR,zR,[]⟩
def jW (d:Dr) (i:Nat):Pv × Bool × Dr:=
 if i=3 then (pz (six.getD i nE) aV (decide (0<d.nx 3)),true,d.go)
 else if i=4 then (pz (six.getD i nE) (if d.nx 2=0 then aB else aV) false,decide (0<d.go.nx 5),d.go.go)
 else if i=5 then (pz (six.getD i nE) aV (decide (0<d.nx 3)),decide (0<d.go.nx 5),d.go.go)
 else (pz (six.getD i nE) aV false,decide (0<d.nx 5),d.go)
def iw (d:Dr):Nat->Dr × List Pv
 |0=>(d,[])
 |i+1=>((jW (iw d i).1 i).2.2,if (jW (iw d i).1 i).2.1 then (iw d i).2++[(jW (iw d i).1 i).1] else (iw d i).2)
instance aeL (d:Dr) (i:Nat) [eG d]:eG (jW d i).2.2:=by unfold jW;split<;>(try split)<;>(try split)<;>infer_instance
instance Ua (d:Dr) [h:eG d]:∀i,eG (iw d i).1
 |0=>h
 |i+1=>have:=Ua d i;aeL _ i
theorem ZI (c:Int):∀(n k:Nat) (f:Int) (d:Dr) (o:List Bk),eG d->eG (KD c n k f d o).2
 |0,_,_,_,_,h=>h
 |n+1,k,f,d,o,h=>by
  unfold KD;split
  ·exact ZI c n _ _ _ _ inferInstance
  ·infer_instance
instance (c:Int) (d:Dr) [eG d]:eG (uX c d).2:=ZI c _ _ _ _ _ inferInstance
def sK (x:List (List Int)) (all:List Sg) (b:Bool) (i:Nat) (p:Pv):Pv:={p with body:=(bg (beforeL p.name b all) 2 ⟨x.getD (i+1) [],0⟩ p.ty).1}
def oQ (x:List (List Int)) (all:List Sg) (b:Bool) (ps:List Pv) (k:Nat):List Pv:=(ps.mapIdx (sK x all b)).take k++ps.drop k
def ji (d:Dr):List Dc:=(if 0<d.nx 4 then [⟨WJ,aJ⟩,⟨ado,aV⟩] else [⟨WJ,aJ⟩])++[⟨LK,aV⟩]
def pR (d:Dr):List Sc × Dr:=
 let a:=uX 0 d.go
 if a.2.nx 2=0 then ([⟨nS[0],1,0,a.1⟩,⟨nS[1],1,0,(uX (-2) a.2.go).1⟩],(uX (-2) a.2.go).2) else ([⟨nS[0],1,0,a.1⟩],a.2.go)
instance amV (d:Dr) [eG d]:eG (pR d).2:=by unfold pR;dsimp only;split<;>infer_instance
theorem PW (d:Dr):∀i,(iw d i).2.length<=i
 |0=>Nat.le_refl _
 |i+1=>by
  have:=PW d i;unfold iw;dsimp only;split
  ·rw[length_append,length_singleton];omega
  ·omega
instance (d:Dr) (p:Pv) (o:ByteArray) [eG d]:eG (iR d p o).2:=by unfold iR;infer_instance
def uS (d:Dr) (z:Int) (a b:Nat × Bool) (ps:List Pv):Dr × List Pv:=
 if (decide (1<=z)&&(decide (z<=3)&&(a.2&&b.2)))=true then
  let c:=iR d (ps.getD a.1 (pz nE aV false)) lX
  let e:=iR c.2 ((ps.set a.1 c.1).getD b.1 (pz nE aV false)) jk
  (e.2,(ps.set a.1 c.1).set b.1 e.1)
 else (d,ps)
def wR (d:Dr) (z:Int) (a:Nat × Bool) (ps:List Pv):Dr × List Pv:=
 if (decide (z=4)&&a.2)=true then ((iR d (ps.getD a.1 (pz nE aV false)) jk).2,ps.set a.1 (iR d (ps.getD a.1 (pz nE aV false)) jk).1) else (d,ps)
def Fq (d:Dr) (z:Int) (ps:List Pv):List Pv:=
 if z=5 then
  let k:=(d.nx ps.length).toNat
  let p:=ps.getD k (pz nE aV false)
  if p.ty.truth then ps else ps.set k {p with step:=je 1 2,cap:=aK (1+d.go.nx 100)}
 else ps
def Fv (d:Dr) (z:Int) (ps:List Pv):List Pv:=
 let a:=gV jk ps
 let e:=uS d z a (gV lX ps) ps
 let f:=wR e.1 z a e.2
 Fq f.1 z f.2
instance (d:Dr) (z:Int) (a b:Nat × Bool) (ps:List Pv) [eG d]:eG (uS d z a b ps).1:=by unfold uS;dsimp only;split<;>infer_instance
instance (d:Dr) (z:Int) (a:Nat × Bool) (ps:List Pv) [eG d]:eG (wR d z a ps).1:=by unfold wR;split<;>infer_instance
theorem PY (d:Dr) (z:Int) (a b:Nat × Bool) (ps:List Pv):(uS d z a b ps).2.length=ps.length:=by unfold uS;dsimp only;split<;>simp
theorem PZ (d:Dr) (z:Int) (a:Nat × Bool) (ps:List Pv):(wR d z a ps).2.length=ps.length:=by unfold wR;split<;>simp
theorem P5 {s:ByteArray} {l:List Pv} (h:(gV s l).2=true):(gV s l).1<l.length:=by
 unfold gV at h⊢;cases hf:l.findIdx? (fun x=>decide (x.name=s)) with
 |none=>rw[hf] at h;cases h
 |some i=>exact (findIdx?_eq_some_iff_getElem.1 hf).1
theorem P6 (d:Dr) (i:Nat) (h:4<=i):1<=(iw d i).2.length:=by
 induction i with
 |zero=>omega
 |succ i ih=>
  unfold iw;dsimp only
  by_cases hi:i=3
  ·subst hi;simp[jW]
  ·have:=ih (by omega);split
   ·rw[length_append];omega
   ·exact this
theorem Jh (d:Dr):∀i,∀p∈(iw d i).2,p.ty=aV∨p.ty=aB
 |0,p,h=>by cases h
 |i+1,p,h=>by
  unfold iw at h;dsimp only at h
  have key:∀p∈(iw d i).2++[(jW (iw d i).1 i).1],p.ty=aV∨p.ty=aB:=fun p h=>by
   rcases mem_append.1 h with h|h
   ·exact Jh d i p h
   ·rw[mem_singleton.1 h];unfold jW;split
    ·exact .inl rfl
    split
    ·dsimp only;split
     ·exact .inr rfl
     ·exact .inl rfl
    split<;>exact .inl rfl
  split at h
  ·exact key p h
  ·exact Jh d i p h
theorem abX (d:Dr):(pR d).1.length<=2:=by unfold pR;dsimp only;split<;>simp
theorem abY (d:Dr):(ji d).length<=3:=by unfold ji;split<;>simp
theorem ZJ (l:Lw):(dO l).length=l.facts.length+3*l.ay.length+l.aH.length:=by unfold dO;simp;omega
theorem P7 (x:List (List Int)) (all:List Sg) (b:Bool) (ps:List Pv) (k:Nat):(oQ x all b ps k).length=ps.length:=by unfold oQ;simp;omega
theorem Ub (x:List (List Int)) (all:List Sg) (b:Bool) (ps:List Pv) (k:Nat) (h:k<ps.length):(oQ x all b ps k)[k]?=some ps[k]:=by
 unfold oQ;rw[getElem?_append_right (by simp;omega)];simp[Nat.min_eq_left (Nat.le_of_lt h),h]
theorem P8 (x:List (List Int)) (all:List Sg) (b:Bool) (ps:List Pv) (k:Nat) (h:k<ps.length):oQ x all b ps (k+1)=(oQ x all b ps k).set k (sK x all b k ps[k]):=by
 have hl:((ps.mapIdx (sK x all b)).take k).length=k:=by simp;omega
 unfold oQ;rw[take_succ_eq_append_getElem (by simpa using h),drop_eq_getElem_cons h,set_append_right _ _ (by rw[hl];exact Nat.le_refl _),hl,Nat.sub_self,set_cons_zero,append_assoc,getElem_mapIdx];rfl
theorem P9 (x:List (List Int)) (all:List Sg) (b:Bool) (ps:List Pv) (k:Nat) (h:ps.length<=k):oQ x all b ps k=ps.mapIdx (sK x all b):=by
 unfold oQ;rw[take_of_length_le (by simpa using h),drop_of_length_le h,append_nil]
def jG (x:List (List Int)):Lw:=
 let d:Dr:=⟨x.getD 0 [],0⟩
 let s:=pR d
 let q:=iw s.2 6
 let z:=q.1.nx 8
 let all:=dO ⟨ji d,s.1,q.2⟩
 ⟨ji d,s.1,Fv q.1.go z (q.2.mapIdx (sK x all (decide (z=0))))⟩
theorem aiW (x:List (List Int)) (hx:∀i,eG ⟨x.getD i [],0⟩):PC prog Ld 22 [.sl 1 (x.map Ef)] (·=(jG x).p):=by
 have c1:=ac0 (Ld:=Ld) x 0;obtain⟨d,hd⟩:∃d:Dr,d=⟨x.getD 0 [],0⟩:=⟨_,rfl⟩
 haveI:eG d:=hd ▸ hx 0
 have n0:=(LJ (Ld:=Ld) d 4).h;have b1:=KE (Ld:=Ld) d.go true;have b2:=KE (Ld:=Ld) (uX 0 d.go).2.go false;have hL1:Lo 24:=⟨⟩
 have hL2:Lo 48:=⟨⟩
 have hG:Lg 25:=⟨⟩
 simp only[if_true,Bool.false_eq_true,if_false] at b1 b2;have n1:yw prog Ld 49 [none,some (iP 4)] [Ef (x.getD 0 []),iP 0] (iP (d.nx 4)) d.go.cs:=by rw[hd] at n0⊢;exact n0
 have hM:jG x=let s:=pR d;let q:=iw s.2 6;⟨ji d,s.1,Fv q.1.go (q.1.nx 8) (q.2.mapIdx (sK x (dO ⟨ji d,s.1,q.2⟩) (decide (q.1.nx 8=0))))⟩:=by rw[hd];rfl
 rw[hM];clear hM hd n0;refine dh func22 fun X=>?_
 refine run ?_;obtain⟨A,hA⟩:∃A:List Dc,A=if 0<d.nx 4 then [⟨WJ,aJ⟩,⟨ado,aV⟩] else [⟨WJ,aJ⟩]:=⟨_,rfl⟩
 refine qx [(.o 24,.o (.row 53 4 (A.map Dc.p))),(.o 5,.o (.blk [.ow 24 (A.map Dc.p).length,.v (.sc (.slice none 0 0)),.v (.sc (.slice none 0 0))]))] ?_ ?_
 ·refine aZ (fun h=>?_) fun h=>?_
  ·refine run ?_;exact fA (by rw[hA,if_pos h];exact eP)
  ·refine run ?_;exact fA (by rw[hA,if_neg h];exact eP)
 have hF:A.map Dc.p++[Dc.p ⟨LK,aV⟩]=(ji d).map Dc.p:=by rw[hA];unfold ji;rw[map_append];rfl
 have hAl:A.length<=2:=by rw[hA];split<;>simp
 clear hA;refine run ?_;obtain⟨S,hS⟩:∃S:List Sc × Dr,pR d=S:=⟨_,rfl⟩
 refine qx [(.o 48,.o (.row 71 4 (S.1.map Sc.p))),(.o 20,.o (.blk (S.2.cs.map .v))),(.o 24,.o (.row 53 4 ((ji d).map Dc.p))),(.o 5,.o (.blk [.ow 24 ((ji d).map Dc.p).length,.ow 48 (S.1.map Sc.p).length,.v (.sc (.slice none 0 0))]))] ?_ ?_
 ·refine aZ (fun h=>?_) fun h=>?_
  ·have hS:S=([⟨nS[0],1,0,(uX 0 d.go).1⟩,⟨nS[1],1,0,(uX (-2) (uX 0 d.go).2.go).1⟩],(uX (-2) (uX 0 d.go).2.go).2):=by rw[<-hS];unfold pR;dsimp only;rw[if_pos h]
   refine run ?_;exact fA (by rw[hS,<-hF];exact eP)
  ·have hS:S=([⟨nS[0],1,0,(uX 0 d.go).1⟩],(uX 0 d.go).2.go):=by rw[<-hS];unfold pR;dsimp only;rw[if_neg h]
   refine run ?_;exact fA (by rw[hS,<-hF];exact eP)
 haveI:eG S.2:=by rw[<-hS];infer_instance
 obtain⟨S,D0⟩:=S;dsimp only at*;refine run ?_;refine aau 5 2 901 59 12 ?_;refine jr 6 (fun i=>[(.s 7,.s (.v (nP i))),(.o 20,.o (.blk ((iw D0 i).1.cs.map .v))),(.o 5,.o (.blk [.ow 24 ((ji d).map Dc.p).length,.ow 48 (S.map Sc.p).length,.ox 901 ((iw D0 i).2.map Pv.p).length 0])),(.o 901,.o (.aW 0 59 12 ((iw D0 i).2.map Pv.p)))]) [.s 0,.s 2,.o 2,.s 3,.s 4,.o 4,.s 5,.s 6,.o 6,.o 24,.o 48] ?_;intro i hi hw
 haveI:=Ua D0 i
 have hlen:=PW D0 i;by_cases h6:i=6
 ·subst h6;have hT:=Jh D0 6;have hp:=P6 D0 6 (by decide);have hfl:=abY d;have hsl:=abX d;rw[hS] at hsl⊢;dsimp only at hsl⊢;generalize iw D0 6=q at*;obtain⟨D,ps⟩:=q;dsimp only at*;have g8:=D.lt 8;have hsg:=VX (Ld:=Ld) ⟨ji d,S,ps⟩ ⟨by dsimp only;omega,by dsimp only;omega,by dsimp only;omega⟩;have hal:=ZJ ⟨ji d,S,ps⟩;dsimp only at hal;refine run ?_;generalize dO ⟨ji d,S,ps⟩=all at*;obtain⟨b,hb⟩:=zF (decide (D.nx 8=0));rw[hb];refine jr ps.length (fun i=>[(.s 11,.s (.v (nP i))),(.o 5,.o (.blk [.ow 24 ((ji d).map Dc.p).length,.ow 48 (S.map Sc.p).length,.ox 901 ((oQ x all b ps i).map Pv.p).length 0])),(.o 901,.o (.aW 0 59 12 ((oQ x all b ps i).map Pv.p)))]) [.s 0,.s 2,.o 2,.s 3,.o 20,.s 5,.s 9,.s 10,.o 24,.o 48] ?_;intro i hi hw;have m2:=P7 x all b ps i;refine run ?_;refine aZ (fun hu=>?_) fun hu=>?_
  ·have m1:∀h:i<(oQ x all b ps i).length,(oQ x all b ps i)[i]=ps[i]:=fun h=>by have:=Ub x all b ps i (by omega);rw[getElem?_eq_getElem h] at this;exact Option.some.inj this
   have m3:=congrArg (List.map Pv.p) (P8 x all b ps i (by omega));rw[map_set] at m3;have hy:=hT ps[i] (getElem_mem (by omega));generalize oQ x all b ps i=Q at*;unfold sK at m3;generalize ps[i]=y at*
   haveI:=hx (i+1)
   have q1:PC prog Ld 53 [.sl 5 (all.map Sg.p),sP y.name,bP (decide (D.nx 8=0))] (·=.sl 5 ((beforeL y.name b all).map Sg.p)):=by rw[hb];exact aen all (by omega) y.name b
   have q2:=ac0 (Ld:=Ld) x (i+1);have q3:=aep (Ld:=Ld) (beforeL y.name b all) (Nat.le_trans (length_filter_le _ _) (by omega)) y.ty (by rcases hy with h|h<;>simp[pI,h]) (x.getD (i+1) []);refine run ?_;refine gq
  ·rw[P9 x all b ps i (by omega)];have hl1:(ps.mapIdx (sK x all b)).length=ps.length:=length_mapIdx;clear m2 hsg hal;generalize ps.mapIdx (sK x all b)=P at*;have hP:1<=P.length/\P.length<=6:=by omega
   clear hl1 hi hu hw hlen hp hT;have f1:Bg prog Ld 54 [Lw.p ⟨ji d,S,P⟩,sP jk] (.tu [nP (gV jk P).1,bP (gV jk P).2]):=(ac2 ⟨ji d,S,P⟩ ⟨by dsimp only;omega,by dsimp only;omega,by dsimp only;omega⟩ jk).fr (.tu (.cons (.cons .nil)));have f2:Bg prog Ld 54 [Lw.p ⟨ji d,S,P⟩,sP lX] (.tu [nP (gV lX P).1,bP (gV lX P).2]):=(ac2 ⟨ji d,S,P⟩ ⟨by dsimp only;omega,by dsimp only;omega,by dsimp only;omega⟩ lX).fr (.tu (.cons (.cons .nil)));have ha:=@P5 jk P;have hb':=@P5 lX P;unfold Fv;dsimp only
   generalize gV jk P=a at*;generalize gV lX P=b' at*;generalize D.nx 8=z at*;refine run ?_;refine dH [(.s 169,.s (.v (bP (decide (1<=z)&&(decide (z<=3)&&(a.2&&b'.2))))))] ?_;refine run ?_;obtain⟨E,hE⟩:=zF (uS D.go z a b' P);have hEl:E.2.length=P.length:=by rw[<-hE];exact PY ..
   haveI:eG E.1:=by rw[<-hE];infer_instance
   rw[hE];refine aat [.s 2,.o 2,.s 3,.s 5,.s 9,.s 12,.s 13,.o 24,.o 48] [(.o 20,.o (.blk (E.1.cs.map .v))),(.o 5,.o (.blk [.ow 24 ((ji d).map Dc.p).length,.ow 48 (S.map Sc.p).length,.ox 901 (E.2.map Pv.p).length 0])),(.o 901,.o (.aW 0 59 12 (E.2.map Pv.p)))] ?_ ?_
   ·refine bM (fun h=>?_) fun h=>?_
    ·unfold uS at hE;rw[if_pos h] at hE;simp only[Bool.and_eq_true] at h;have l1:=ha h.2.2.1;have l2:=hb' h.2.2.2;simp only[getD_eq_getElem?_getD,getElem?_eq_getElem l1,Option.getD_some] at hE;have c1:=I7 (Ld:=Ld) D.go P[a.1] lX
     haveI:eG (iR D.go P[a.1] lX).2:=inferInstance
     generalize iR D.go P[a.1] lX=C at*;have mq:=map_set (f:=Pv.p) (l:=P) (i:=a.1) (a:=C.1);have lq:(P.set a.1 C.1).length=P.length:=length_set;refine Xh ?_;refine qx [(.o 20,.o (.blk (C.2.cs.map .v))),(.o 901,.o (.aW 0 59 12 ((P.set a.1 C.1).map Pv.p))),(.o 5,.o (.blk [.ow 24 ((ji d).map Dc.p).length,.ow 48 (S.map Sc.p).length,.ox 901 ((P.set a.1 C.1).map Pv.p).length 0]))] ?_ ?_
     ·refine run ?_;exact fA eP
     clear mq c1;generalize P.set a.1 C.1=Q at*;rw[getElem?_eq_getElem (by omega),Option.getD_some] at hE;have c2:=I7 (Ld:=Ld) C.2 Q[b'.1] jk;generalize iR C.2 Q[b'.1] jk=K at*;have mq:=map_set (f:=Pv.p) (l:=Q) (i:=b'.1) (a:=K.1);subst hE;dsimp only
     refine run ?_;exact fA eP
    ·unfold uS at hE;rw[h,if_neg (by simp)] at hE;subst hE;refine run ?_;exact fA eP
   clear hE f1 f2 hb';refine run ?_;refine dH [(.s 196,.s (.v (bP (decide (z=4)&&a.2))))] ?_;refine run ?_;obtain⟨G,hG2⟩:=zF (wR E.1 z a E.2);have hGl:G.2.length=P.length:=by rw[<-hG2,PZ,hEl]
   haveI:eG G.1:=by rw[<-hG2];infer_instance
   rw[hG2];refine aat [.s 2,.o 2,.s 3,.s 5,.s 9,.o 24,.o 48] [(.o 20,.o (.blk (G.1.cs.map .v))),(.o 5,.o (.blk [.ow 24 ((ji d).map Dc.p).length,.ow 48 (S.map Sc.p).length,.ox 901 (G.2.map Pv.p).length 0])),(.o 901,.o (.aW 0 59 12 (G.2.map Pv.p)))] ?_ ?_
   ·refine bM (fun h=>?_) fun h=>?_
    ·unfold wR at hG2;rw[if_pos h] at hG2;simp only[Bool.and_eq_true] at h;have l1:=ha h.2;rw[getD_eq_getElem?_getD,getElem?_eq_getElem (by omega),Option.getD_some] at hG2;have c1:=I7 (Ld:=Ld) E.1 E.2[a.1] jk;generalize iR E.1 E.2[a.1] jk=C at*;have mq:=map_set (f:=Pv.p) (l:=E.2) (i:=a.1) (a:=C.1);subst hG2;dsimp only
     refine run ?_;exact fA eP
    ·unfold wR at hG2;rw[h,if_neg (by simp)] at hG2;subst hG2;refine run ?_;exact fA eP
   have hGb:1<=G.2.length/\G.2.length<=6:=by omega
   clear hG2 hEl ha hGl;refine run ?_;obtain⟨H,hH⟩:=zF (Fq G.1 z G.2);rw[hH];refine aat [.s 2,.o 2,.s 5,.o 24,.o 48] [(.o 5,.o (.blk [.ow 24 ((ji d).map Dc.p).length,.ow 48 (S.map Sc.p).length,.ox 901 (H.map Pv.p).length 0])),(.o 901,.o (.aW 0 59 12 (H.map Pv.p)))] ?_ ?_
   ·refine aZ (fun h=>?_) fun h=>?_
    ·unfold Fq at hH;rw[if_pos h] at hH;dsimp only at hH
     haveI:Ps (G.2.length:Int):=⟨by omega⟩
     have gk:=G.1.lt (G.2.length:Int);obtain⟨k,hk⟩:∃k:Nat,G.1.nx (G.2.length:Int)=(k:Int):=⟨_,(Int.toNat_of_nonneg gk.1).symm⟩
     have hkl:k<G.2.length:=by omega
     have e1:G.2.getD (G.1.nx (G.2.length:Int)).toNat (pz nE aV false)=G.2[k]:=by rw[hk,Int.toNat_natCast,getD_eq_getElem?_getD,getElem?_eq_getElem hkl];rfl
     rw[e1] at hH;refine run ?_;refine bM (fun g=>?_) fun g=>?_
     ·rw[if_neg (by simpa using g)] at hH;have g2:=G.1.go.lt 100;have w2:=G.1.go.wr 1 100 (by decide);have q1:=qh (Ld:=Ld) 1 2 (by decide) (by decide);have q2:=xk (Ld:=Ld) (1+G.1.go.nx 100) (by omega) (by omega);rw[hk,Int.toNat_natCast] at hH;have mq:=congrArg (List.map Pv.p) hH.symm;clear hH;rw[map_set] at mq;refine run ?_;exact fA eP
     ·rw[if_pos (by simpa using g)] at hH;subst hH;refine run ?_;exact fA eP
    ·unfold Fq at hH;rw[if_neg h] at hH;subst hH;refine run ?_;exact fA eP
   refine at_next ?_;refine af5 901 ?_;refine run ?_;exact aF
 have e:iw D0 (i+1)=((jW (iw D0 i).1 i).2.2,if (jW (iw D0 i).1 i).2.1 then (iw D0 i).2++[(jW (iw D0 i).1 i).1] else (iw D0 i).2):=rfl;generalize iw D0 i=q at*;obtain⟨D,ps⟩:=q;dsimp only at*;obtain⟨w1,w2,w3,w4,w5,w6⟩:IntKind.i64.wrap 1=1/\IntKind.i64.wrap 2=2/\IntKind.i64.wrap 3=3/\IntKind.i64.wrap 4=4/\IntKind.i64.wrap 5=5/\IntKind.i64.wrap 6=6:=by decide
 rcases (by omega:i=0∨i=1∨i=2∨i=3∨i=4∨i=5) with rfl|rfl|rfl|rfl|rfl|rfl
 iterate 3
  focus
   refine run ?_;refine LC 8 4 5 ?_;refine mM ?_;refine run ?_;refine mM ?_;refine run ?_;refine mM ?_;refine run ?_;refine bM (fun h=>?_) fun h=>?_
   ·replace e:=e.trans (by simp only[jW,Nat.reduceEqDiff,if_false,h];rfl:_=(D.go,ps++[_]));refine run ?_;refine gq
   ·replace e:=e.trans (by simp only[jW,Nat.reduceEqDiff,if_false,h];rfl:_=(D.go,ps));refine run ?_;refine gq
 ·refine run ?_;refine LC 8 4 5 ?_;refine mM ?_;refine run ?_;refine mM ?_;refine run ?_;refine mM ?_;replace e:=e.trans (by simp only[jW,if_true];rfl:_=(D.go,ps++[_]));refine run ?_;refine gq
 ·refine run ?_;refine LC 8 4 5 ?_;refine mM ?_;refine run ?_;refine aZ (fun g=>?_) fun g=>?_
  all_goals
   refine run ?_;refine mM ?_;refine run ?_;refine mM ?_;refine run ?_;refine bM (fun h=>?_) fun h=>?_
   ·replace e:=e.trans (by simp only[jW,Nat.reduceEqDiff,if_false,if_true,h,g];rfl:_=(D.go.go,ps++[_]));refine run ?_;refine gq
   ·replace e:=e.trans (by simp only[jW,Nat.reduceEqDiff,if_false,if_true,h];rfl:_=(D.go.go,ps));refine run ?_;refine gq
 ·refine run ?_;refine LC 8 4 5 ?_;refine mM ?_;refine run ?_;refine mM ?_;refine run ?_;refine mM ?_;refine run ?_;refine bM (fun h=>?_) fun h=>?_
  ·replace e:=e.trans (by simp only[jW,Nat.reduceEqDiff,if_false,if_true,h];rfl:_=(D.go.go,ps++[_]));refine run ?_;refine gq
  ·replace e:=e.trans (by simp only[jW,Nat.reduceEqDiff,if_false,if_true,h];rfl:_=(D.go.go,ps));refine run ?_;refine gq
end
def CP (fs:List Dc) (ss:List (Sc × Hd)) (ps:List (Pv × Hd)):Lw:=⟨fs,ss.map Prod.fst,ps.map Prod.fst⟩
def Ji:ByteArray:=⟨#[119,97,103,101]⟩
def Qa:ByteArray:=⟨#[116,104,114,101,115,104,111,108,100]⟩
structure Iq (fs:List Dc):Prop where
 n:(fs.map Dc.name).Sublist nF
 t:∀d∈fs,aN d.ty=true
 w:(⟨Ji,aV⟩:Dc)∈fs
structure Ir (ss:List (Sc × Hd)):Prop where
 n:(ss.map fun x=>x.1.name).Sublist nS
 t:∀x∈ss,x.1.aA=1/\x.1.days=0
 b:∀x∈ss,BQ x.1.bJ
 e:ss≠[]
structure Pk (i:Nat) (ps:List (Pv × Hd)):Prop where
 nm:(ps.map fun x=>x.1.name).Sublist (six.take i)
 ty:∀x∈ps,x.1.ty=aV∨(x.1.ty=aB/\x.1.name=Qa)
 ch:∀x∈ps,x.1.fH=true->x.1.ty=aV
 ne:4<=i->ps≠[]
section
variable {i:Nat} {fs:List Dc} {ss:List (Sc × Hd)} {ps:List (Pv × Hd)} {sg:List Sg}
theorem Pk.zero:Pk 0 []:=⟨nil_sublist _,fun _ h=>(by cases h),fun _ h=>(by cases h),fun h=>(by omega)⟩
theorem Pk.len (h:Pk i ps):ps.length<=6:=by
 have h1:=h.nm.length_le;rw[length_map,length_take] at h1;have:six.length=6:=rfl;omega
def PkX (x:Pv):Prop:=(x.ty=aV∨(x.ty=aB/\x.name=Qa))/\(x.fH=true->x.ty=aV)
theorem Pk.push (h:Pk i ps) (hi:i<six.length) (x:Pv × Hd) (hn:x.1.name=six[i]) (ht:PkX x.1):Pk (i+1) (ps++[x]):=by
 refine⟨?_,fun y hy=>?_,fun y hy=>?_,fun _=>by simp⟩
 ·rw[map_append,take_succ_eq_append_getElem hi,map_cons,map_nil,hn];exact h.nm.append (List.Sublist.refl _)
 ·rcases mem_append.1 hy with hy|hy
  ·exact h.ty y hy
  ·rw[mem_singleton.1 hy];exact ht.1
 ·rcases mem_append.1 hy with hy|hy
  ·exact h.ch y hy
  ·rw[mem_singleton.1 hy];exact ht.2
theorem Pk.skip (h:Pk i ps) (hi:i<six.length) (h3:¬i=3):Pk (i+1) ps:=by
 refine⟨?_,h.ty,h.ch,fun h4=>h.ne (by omega)⟩;rw[take_succ_eq_append_getElem hi];exact h.nm.trans (sublist_append_left _ _)
theorem wS {α β:Type} (f:α->β) (xs:List α) (k:Nat) (hk:k<xs.length) (x:α) (h:f x=f xs[k]):(xs.set k x).map f=xs.map f:=by
 apply ext_getElem?;intro j;rw[getElem?_map,getElem?_map,getElem?_set];by_cases hj:k=j
 ·subst hj;rw[if_pos rfl,if_pos hk,getElem?_eq_getElem hk,Option.map_some,Option.map_some,h]
 ·rw[if_neg hj]
def PvS (x y:Pv):Prop:=x.name=y.name/\x.ty=y.ty/\x.fH=y.fH
theorem Pk.set (h:Pk i ps) (k:Nat) (hk:k<ps.length) (x:Pv × Hd) (hx:PvS x.1 ps[k].1):Pk i (ps.set k x):=by
 refine⟨?_,fun y hy=>?_,fun y hy=>?_,fun h4 h0=>h.ne h4 (by simpa using congrArg List.length h0)⟩
 ·rw[wS (fun x:Pv × Hd=>x.1.name) ps k hk x hx.1];exact h.nm
 ·rcases mem_or_eq_of_mem_set hy with hy|rfl
  ·exact h.ty y hy
  ·rw[hx.1,hx.2.1];exact h.ty _ (getElem_mem hk)
 ·rcases mem_or_eq_of_mem_set hy with hy|rfl
  ·exact h.ch y hy
  ·rw[hx.2.1,hx.2.2];exact h.ch _ (getElem_mem hk)
theorem Qb (k:Nat) (hk:k<ps.length) (x:Pv × Hd) (hx:PvS x.1 ps[k].1):dO (CP fs ss (ps.set k x))=dO (CP fs ss ps):=by
 have e:∀op,((ps.set k x).map Prod.fst).map (jd op)=(ps.map Prod.fst).map (jd op):=fun op=>by
  rw[map_map,map_map];exact wS _ ps k hk x (by show jd op x.1=jd op ps[k].1;unfold jd;rw[hx.1,hx.2.1])
 unfold dO CP;rw[e,e,e]
theorem nmG (hf:Iq fs) (hs:Ir ss) (hp:Pk 6 ps):qK (CP fs ss ps):=by
 refine⟨hf.n,by show ((ss.map Prod.fst).map Sc.name).Sublist nS;rw[map_map];exact hs.n,by show ((ps.map Prod.fst).map Pv.name).Sublist six;rw[map_map];exact hp.nm,hf.t,fun s h=>?_,fun p h=>?_,fun s h=>?_⟩
 ·obtain⟨x,hx,rfl⟩:=mem_map.1 h;exact hs.t x hx
 ·obtain⟨x,hx,rfl⟩:=mem_map.1 h;exact (hp.ty x hx).imp id And.left
 ·obtain⟨x,hx,rfl⟩:=mem_map.1 h;exact (hs.b x hx).rate
theorem qK.nok {l:Lw} (h:qK l):∀s∈dO l,bY s.name=true:=by
 intro s hs;refine ZG _ ?_;unfold dO at hs;simp only[mem_append,mem_map] at hs;rw[mem_append,mem_append];rcases hs with⟨d,hd,rfl⟩|⟨d,hd,rfl⟩|⟨d,hd,rfl⟩|⟨d,hd,rfl⟩|⟨d,hd,rfl⟩
 ·exact .inl (h.f.mem (mem_map.2 ⟨d,hd,rfl⟩))
 ·exact .inr (.inr (h.p.mem (mem_map.2 ⟨d,hd,rfl⟩)))
 ·exact .inr (.inr (h.p.mem (mem_map.2 ⟨d,hd,rfl⟩)))
 ·exact .inr (.inr (h.p.mem (mem_map.2 ⟨d,hd,rfl⟩)))
 ·exact .inr (.inl (h.s.mem (mem_map.2 ⟨d,hd,rfl⟩)))
theorem ab1 {l:Lw} (h:qK l) {p:Pv} (hp:p∈l.ay) {op:Int} (ho:op=6∨op=8):dZ (dO l) ⟨op,zR,p.name⟩=some p.ty:=by
 refine Jg h.key (s:=jd op p) ?_ ?_
 ·unfold dO;simp only[mem_append,mem_map]
  rcases ho with rfl|rfl
  ·exact .inr (.inl ⟨p,hp,rfl⟩)
  ·exact .inr (.inr (.inr (.inl ⟨p,hp,rfl⟩)))
 ·have hr:aN p.ty=true:=by rcases h.tp p hp with e|e<;>rw[e]<;>decide
  unfold jD jd;rw[hr];rcases ho with rfl|rfl<;>simp
theorem ab2 {l:Lw} (h:qK l) {d:Dc} (hd:d∈l.facts):dZ (dO l) ⟨5,zR,d.name⟩=some d.ty:=by
 refine Jg h.key (s:=oM d) ?_ ?_
 ·unfold dO;simp only[mem_append,mem_map]
  exact .inl ⟨d,hd,rfl⟩
 ·unfold jD oM;rw[h.tf d hd];simp
structure Qc (sg:List Sg) (fs:List Dc) (ss:List (Sc × Hd)) (ps:List (Pv × Hd)) (j:Nat):Prop where
 k:Pk 6 ps
 s:dO (CP fs ss ps)=sg
 g:∀i (h:i<ps.length),i<j->KZ sg ps[i].1
 z:∀x∈ps,dX x.1=true
structure PG (sg:List Sg) (fs:List Dc) (ss:List (Sc × Hd)) (ps:List (Pv × Hd)):Prop where
 k:Pk 6 ps
 s:dO (CP fs ss ps)=sg
 g:∀x∈ps,KZ sg x.1
theorem Qc.body {j:Nat} (h:Qc sg fs ss ps j) (hj:j<ps.length) {ns:List Nd} (ht:TE sg ps[j].1.ty ns) (hl:ns.length<=60) (z:Hd):Qc sg fs ss (ps.set j ({ps[j].1 with body:=ns},z)) (j+1):=by
 have hs:PvS ({ps[j].1 with body:=ns}:Pv) ps[j].1:=⟨rfl,rfl,rfl⟩
 refine⟨h.k.set j hj _ hs,(Qb j hj ({ps[j].1 with body:=ns},z) hs).trans h.s,fun i hi hij=>?_,fun x hx=>?_⟩
 ·rw[getElem_set];by_cases e:j=i
  ·rw[if_pos e];exact⟨ht,hl,h.k.ch ps[j] (getElem_mem hj),by have:=h.z _ (getElem_mem hj);show (dX ps[j].1||_)=true;rw[this];rfl⟩
  ·rw[if_neg e];exact h.g i (by simpa using hi) (by omega)
 ·rcases mem_or_eq_of_mem_set hx with hx|rfl
  ·exact h.z x hx
  ·exact h.z ps[j] (getElem_mem hj)
theorem Qc.all (h:Qc sg fs ss ps ps.length):PG sg fs ss ps:=⟨h.k,h.s,fun x hx=>by obtain⟨i,hi,rfl⟩:=getElem_of_mem hx;exact h.g i hi hi⟩
theorem PG.set (h:PG sg fs ss ps) (k:Nat) (hk:k<ps.length) (x:Pv × Hd) (hx:PvS x.1 ps[k].1) (hg:KZ sg x.1):PG sg fs ss (ps.set k x):=
 ⟨h.k.set k hk x hx,(Qb k hk x hx).trans h.s,fun y hy=>by
   rcases mem_or_eq_of_mem_set hy with hy|rfl
   ·exact h.g y hy
   ·exact hg⟩
theorem ZL {p:Pv} (h:OY p.step p.cap=true) (ht:p.ty=aV):(dX p||iO p)=true:=by
 have e:iO p=(!p.ty.truth&&OY p.step p.cap):=rfl;rw[e,h,ht,Bool.or_eq_true];exact .inr rfl
theorem PG.sig (hf:Iq fs) (hs:Ir ss) (h:PG sg fs ss ps) {i:Nat} {nm:ByteArray} (hi:(ps.map fun x=>x.1.name)[i]?=some nm) (hn:nm≠Qa):∃hk:i<ps.length,ps[i].1.ty=aV/\∀op:Int,op=6∨op=8->dZ sg ⟨op,zR,nm⟩=some aV:=by
 obtain⟨hk,e⟩:=List.getElem?_eq_some_iff.1 hi;rw[length_map] at hk;rw[getElem_map] at e;have ht:ps[i].1.ty=aV:=(h.k.ty _ (getElem_mem hk)).resolve_right (fun h9=>hn (e.symm.trans h9.2));refine⟨hk,ht,fun op ho=>?_⟩;have h2:=ab1 (nmG hf hs h.k) (p:=ps[i].1) (mem_map.2 ⟨_,getElem_mem hk,rfl⟩) ho;rw[h.s,e,ht] at h2;exact h2
theorem PG.Ji (hf:Iq fs) (hs:Ir ss) (h:PG sg fs ss ps):dZ sg ⟨5,zR,Ji⟩=some aV:=by
 have h2:=ab2 (nmG hf hs h.k) hf.w;rw[h.s] at h2;exact h2
theorem amP:Iq [⟨⟨#[97,103,101]⟩,aJ⟩,⟨Ji,aV⟩]:=⟨.cons_cons _ (.cons _ (.cons_cons _ .slnil)),by decide,by decide⟩
theorem amQ:Iq [⟨⟨#[97,103,101]⟩,aJ⟩,⟨⟨#[114,101,110,116]⟩,aV⟩,⟨Ji,aV⟩]:=⟨List.Sublist.refl _,by decide,by decide⟩
theorem amR {l:List Bk} (h:BQ l) (z:Hd):Ir [(⟨⟨#[98,97,115,105,99]⟩,1,0,l⟩,z)]:=⟨.cons_cons _ (.cons _ .slnil),fun x hx=>by rw[mem_singleton.1 hx];exact⟨rfl,rfl⟩,fun x hx=>by rw[mem_singleton.1 hx];exact h,by simp⟩
theorem amS {l l2:List Bk} (h:BQ l) (h2:BQ l2) (z z2:Hd):Ir ([(⟨⟨#[98,97,115,105,99]⟩,1,0,l⟩,z)]++[(⟨⟨#[101,120,116,114,97]⟩,1,0,l2⟩,z2)]):=
 ⟨List.Sublist.refl _,fun x hx=>by
   rcases mem_append.1 hx with hx|hx<;>(rw[mem_singleton.1 hx];exact⟨rfl,rfl⟩),fun x hx=>by
   rcases mem_append.1 hx with hx|hx
   ·rw[mem_singleton.1 hx];exact h
   ·rw[mem_singleton.1 hx];exact h2,by simp⟩
theorem qL {a:Ra} (h:bQ a=true):dA a:=by
 obtain⟨_,h1,h2⟩:=kC h;exact⟨by omega,by omega⟩
theorem V8 {n:Nd} (h:aQ n=0):Fine n:=by
 have hn:=(wF h).2.2.2.1;unfold iC at hn;have k0:(aK 0).num.size<=1048576/\(aK 0).den.size<=1048576:=by decide+kernel
 have k1:(aK 1).num.size<=1048576/\(aK 1).den.size<=1048576:=by decide+kernel
 have k2:zR.num.size<=1048576/\zR.den.size<=1048576:=by decide+kernel
 unfold Fine;split at hn
 ·simp only[Bool.or_eq_true,decide_eq_true_eq] at hn;rcases hn with hn|hn<;>rw[hn]
  ·exact k0
  ·exact k1
 ·split at hn
  ·exact qL hn
  ·split at hn
   ·simp only[Bool.and_eq_true] at hn;exact qL hn.1
   ·rw[of_decide_eq_true hn];exact k2
theorem ab3 {e:List Nd} (h:aX e=0):∀n∈e,Fine n:=fun n hn=>V8 (JW h n hn)
structure La (l:Lw):Prop where
 n:qK l
 p:∀p∈l.ay,KZ (dO l) p
 b:∀s∈l.aH,BQ s.bJ
 ne:l.ay≠[]
 fe:l.facts≠[]
 se:l.aH≠[]
theorem PG.md (hf:Iq fs) (hs:Ir ss) (h:PG sg fs ss ps):La (CP fs ss ps):=by
 refine⟨nmG hf hs h.k,fun p hp=>?_,fun s hS=>?_,fun h0=>h.k.ne (by omega) (map_eq_nil_iff.1 h0),ne_nil_of_mem hf.w,fun h0=>hs.e (map_eq_nil_iff.1 h0)⟩
 ·obtain⟨x,hx,rfl⟩:=mem_map.1 hp;rw[h.s];exact h.g x hx
 ·obtain⟨x,hx,rfl⟩:=mem_map.1 hS;exact hs.b x hx
theorem BQ.fits {l:List Bk} (h:BQ l):∀b∈l,bQ b.fr=true/\bQ b.rt=true:=fun b hb=>by
 obtain⟨fs,h1,_,_,h4⟩:=h.f;refine⟨?_,h.r b hb⟩;have:b.fr∈l.map Bk.fr:=mem_map.2 ⟨b,hb,rfl⟩;rw[h1] at this;obtain⟨n,hn,e⟩:=mem_map.1 this;rw[<-e];exact Ti ⟨n,by have:=h4 n hn;omega⟩
theorem La.fine {l:Lw} (h:La l):lW l:=by
 obtain⟨h1,h2,h3⟩:=h.n.len;refine⟨by omega,by omega,by omega,fun s hs b hb=>?_,fun p hp=>?_⟩
 ·obtain⟨a,c⟩:=(h.b s hs).fits b hb;exact⟨qL a,qL c⟩
 ·have g:=h.p p hp;have hz:dA zR:=⟨by decide+kernel,by decide+kernel⟩
  refine⟨?_,?_,ab3 (g.b.chk g.n)⟩
  all_goals
   rcases Bool.or_eq_true _ _ ▸ g.s with hc|hc
   ·unfold dX at hc;rw[Bool.and_eq_true,decide_eq_true_eq,decide_eq_true_eq] at hc
    first|(rw[hc.1];exact hz)|(rw[hc.2];exact hz)
   ·have e:iO p=(!p.ty.truth&&(bQ p.step&&(bQ p.cap&&_))):=rfl;rw[e] at hc;simp only[Bool.and_eq_true] at hc
    first|exact qL hc.2.1|exact qL hc.2.2.1
theorem La.chk {l:Lw} (h:La l):aT l=0:=aeJ h.n h.p
end
end Go.Proofs.YtjpbmbgincdjaaaGreatDoor
