/- A part of the proof: Qf Qg We Qh Wr Wh Ul Th. -/
import Derived.Test.YtimokmplkpbmdaaGreatDoorQ34
set_option linter.all false
set_option maxRecDepth 100000
set_option maxHeartbeats 0
namespace Go.Proofs.YtimokmplkpbmdaaGreatDoor
open Go.RowKit
theorem DV {a b:List Sg} (ha:AB a) (hb:AB b) (h:∀x∈a,∀y∈b,x.op≠y.op):AB (a++b):=
 List.pairwise_append.2 ⟨ha,hb,fun x hx y hy e=>h x hx y hy e.1⟩
theorem zu {α:Type} (f:α->Sg) (g:α->ByteArray) (hg:∀a,(f a).name=g a) {xs:List α} (h:(xs.map g).Nodup):AB (xs.map f):=by
 unfold AB;rw[List.pairwise_map];refine (List.pairwise_map.1 h).imp ?_;intro a b hab e;rw[hg,hg] at e;exact hab e.2
theorem pV.key {l:Lw} (h:pV l):AB (dW l):=by
 have hn:=Dj;have n1:(l.facts.map Dc.name).Nodup:=(hn.sublist (List.sublist_append_left _ _)).sublist h.f;have n2:(l.aU.map Sc.name).Nodup:=(hn.sublist ((List.sublist_append_left _ _).trans (List.sublist_append_right _ _))).sublist h.s;have n3:(l.aH.map Pv.name).Nodup:=X9.sublist h.p;unfold dW;refine DV (zu jd Dc.name (fun _=>rfl) n1) (DV (zu (iK 6) Pv.name (fun _=>rfl) n3) (DV (zu (iK 7) Pv.name (fun _=>rfl) n3) (DV (zu (iK 8) Pv.name (fun _=>rfl) n3) (zu kY Sc.name (fun _=>rfl) n2) ?_) ?_) ?_) ?_
 all_goals
  intro x hx y hy;obtain⟨a,_,rfl⟩:=List.mem_map.1 hx;simp only[List.mem_append,List.mem_map] at hy
 ·obtain⟨b,_,rfl⟩:=hy;show (8:Int)≠24;decide
 ·rcases hy with⟨b,_,rfl⟩|⟨b,_,rfl⟩
  ·show (7:Int)≠8;decide
  ·show (7:Int)≠24;decide
 ·rcases hy with⟨b,_,rfl⟩|⟨b,_,rfl⟩|⟨b,_,rfl⟩
  ·show (6:Int)≠7;decide
  ·show (6:Int)≠8;decide
  ·show (6:Int)≠24;decide
 ·rcases hy with⟨b,_,rfl⟩|⟨b,_,rfl⟩|⟨b,_,rfl⟩|⟨b,_,rfl⟩
  ·show (5:Int)≠6;decide
  ·show (5:Int)≠7;decide
  ·show (5:Int)≠8;decide
  ·show (5:Int)≠24;decide
def zx (fs:List Dc) (ss:List (Sc × Hd)) (ps:List (Pv × Hd)):Lw:=⟨fs,ss.map Prod.fst,ps.map Prod.fst⟩
def tJ:ByteArray:=⟨#[119,97,103,101]⟩
def Rl:ByteArray:=⟨#[116,104,114,101,115,104,111,108,100]⟩
structure ES (fs:List Dc):Prop where
 n:(fs.map Dc.name).Sublist nF
 t:∀d∈fs,bH d.ty=true
 w:(⟨tJ,bT⟩:Dc)∈fs
structure KC (ss:List (Sc × Hd)):Prop where
 n:(ss.map fun x=>x.1.name).Sublist nS
 t:∀x∈ss,x.1.aN=1/\x.1.days=0
 b:∀x∈ss,EH x.1.bI
 e:ss≠[]
structure Pk (i:Nat) (ps:List (Pv × Hd)):Prop where
 nm:(ps.map fun x=>x.1.name).Sublist (six.take i)
 ty:∀x∈ps,x.1.ty=bT∨(x.1.ty=bG/\x.1.name=Rl)
 ch:∀x∈ps,x.1.dS=true->x.1.ty=bT
 ne:4<=i->ps≠[]
section
variable {i:Nat} {fs:List Dc} {ss:List (Sc × Hd)} {ps:List (Pv × Hd)} {sg:List Sg}
theorem Pk.zero:Pk 0 []:=⟨List.nil_sublist _,fun _ h=>(by cases h),fun _ h=>(by cases h),fun h=>(by omega)⟩
theorem Pk.len (h:Pk i ps):ps.length<=6:=by
 have h1:=h.nm.length_le;rw[List.length_map,List.length_take] at h1;have:six.length=6:=rfl;omega
def PkX (x:Pv):Prop:=(x.ty=bT∨(x.ty=bG/\x.name=Rl))/\(x.dS=true->x.ty=bT)
theorem Pk.push (h:Pk i ps) (hi:i<six.length) (x:Pv × Hd) (hn:x.1.name=six[i]) (ht:PkX x.1):Pk (i+1) (ps++[x]):=by
 refine⟨?_,fun y hy=>?_,fun y hy=>?_,fun _=>by simp⟩
 ·rw[List.map_append,List.take_succ_eq_append_getElem hi,List.map_cons,List.map_nil,hn];exact h.nm.append (List.Sublist.refl _)
 ·rcases List.mem_append.1 hy with hy|hy
  ·exact h.ty y hy
  ·rw[List.mem_singleton.1 hy];exact ht.1
 ·rcases List.mem_append.1 hy with hy|hy
  ·exact h.ch y hy
  ·rw[List.mem_singleton.1 hy];exact ht.2
theorem Pk.skip (h:Pk i ps) (hi:i<six.length) (h3:¬i=3):Pk (i+1) ps:=by
 refine⟨?_,h.ty,h.ch,fun h4=>h.ne (by omega)⟩;rw[List.take_succ_eq_append_getElem hi];exact h.nm.trans (List.sublist_append_left _ _)
theorem oN {α β:Type} (f:α->β) (xs:List α) (k:Nat) (hk:k<xs.length) (x:α) (h:f x=f xs[k]):(xs.set k x).map f=xs.map f:=by
 apply List.ext_getElem?;intro j;rw[List.getElem?_map,List.getElem?_map,List.getElem?_set];by_cases hj:k=j
 ·subst hj;rw[if_pos rfl,if_pos hk,List.getElem?_eq_getElem hk,Option.map_some,Option.map_some,h]
 ·rw[if_neg hj]
def Oj (x y:Pv):Prop:=x.name=y.name/\x.ty=y.ty/\x.dS=y.dS
theorem Pk.set (h:Pk i ps) (k:Nat) (hk:k<ps.length) (x:Pv × Hd) (hx:Oj x.1 ps[k].1):Pk i (ps.set k x):=by
 refine⟨?_,fun y hy=>?_,fun y hy=>?_,fun h4 h0=>h.ne h4 (by simpa using congrArg List.length h0)⟩
 ·rw[oN (fun x:Pv × Hd=>x.1.name) ps k hk x hx.1];exact h.nm
 ·rcases List.mem_or_eq_of_mem_set hy with hy|rfl
  ·exact h.ty y hy
  ·rw[hx.1,hx.2.1];exact h.ty _ (List.getElem_mem hk)
 ·rcases List.mem_or_eq_of_mem_set hy with hy|rfl
  ·exact h.ch y hy
  ·rw[hx.2.1,hx.2.2];exact h.ch _ (List.getElem_mem hk)
theorem Ol (k:Nat) (hk:k<ps.length) (x:Pv × Hd) (hx:Oj x.1 ps[k].1):dW (zx fs ss (ps.set k x))=dW (zx fs ss ps):=by
 have e:∀op,((ps.set k x).map Prod.fst).map (iK op)=(ps.map Prod.fst).map (iK op):=fun op=>by
  rw[List.map_map,List.map_map];exact oN _ ps k hk x (by show iK op x.1=iK op ps[k].1;unfold iK;rw[hx.1,hx.2.1])
 unfold dW zx;rw[e,e,e]
theorem nmG (hf:ES fs) (hs:KC ss) (hp:Pk 6 ps):pV (zx fs ss ps):=by
 refine⟨hf.n,by show ((ss.map Prod.fst).map Sc.name).Sublist nS;rw[List.map_map];exact hs.n,by show ((ps.map Prod.fst).map Pv.name).Sublist six;rw[List.map_map];exact hp.nm,hf.t,fun s h=>?_,fun p h=>?_,fun s h=>?_⟩
 ·obtain⟨x,hx,rfl⟩:=List.mem_map.1 h;exact hs.t x hx
 ·obtain⟨x,hx,rfl⟩:=List.mem_map.1 h;exact (hp.ty x hx).imp id And.left
 ·obtain⟨x,hx,rfl⟩:=List.mem_map.1 h;exact (hs.b x hx).rate
theorem pV.nok {l:Lw} (h:pV l):∀s∈dW l,dI s.name=true:=by
 intro s hs;refine Ya _ ?_;unfold dW at hs;simp only[List.mem_append,List.mem_map] at hs;rw[List.mem_append,List.mem_append];rcases hs with⟨d,hd,rfl⟩|⟨d,hd,rfl⟩|⟨d,hd,rfl⟩|⟨d,hd,rfl⟩|⟨d,hd,rfl⟩
 ·exact .inl (h.f.mem (List.mem_map.2 ⟨d,hd,rfl⟩))
 ·exact .inr (.inr (h.p.mem (List.mem_map.2 ⟨d,hd,rfl⟩)))
 ·exact .inr (.inr (h.p.mem (List.mem_map.2 ⟨d,hd,rfl⟩)))
 ·exact .inr (.inr (h.p.mem (List.mem_map.2 ⟨d,hd,rfl⟩)))
 ·exact .inr (.inl (h.s.mem (List.mem_map.2 ⟨d,hd,rfl⟩)))
theorem aaB {l:Lw} (h:pV l) {p:Pv} (hp:p∈l.aH) {op:Int} (ho:op=6∨op=8):dP (dW l) ⟨op,zR,p.name⟩=some p.ty:=by
 refine I7 h.key (s:=iK op p) ?_ ?_
 ·unfold dW;simp only[List.mem_append,List.mem_map]
  rcases ho with rfl|rfl
  ·exact .inr (.inl ⟨p,hp,rfl⟩)
  ·exact .inr (.inr (.inr (.inl ⟨p,hp,rfl⟩)))
 ·have hr:bH p.ty=true:=by rcases h.tp p hp with e|e<;>rw[e]<;>decide
  unfold jB iK;rw[hr];rcases ho with rfl|rfl<;>simp
theorem aaC {l:Lw} (h:pV l) {d:Dc} (hd:d∈l.facts):dP (dW l) ⟨5,zR,d.name⟩=some d.ty:=by
 refine I7 h.key (s:=jd d) ?_ ?_
 ·unfold dW;simp only[List.mem_append,List.mem_map]
  exact .inl ⟨d,hd,rfl⟩
 ·unfold jB jd;rw[h.tf d hd];simp
structure Ic (sg:List Sg) (fs:List Dc) (ss:List (Sc × Hd)) (ps:List (Pv × Hd)) (j:Nat):Prop where
 k:Pk 6 ps
 s:dW (zx fs ss ps)=sg
 g:∀i (h:i<ps.length),i<j->ER sg ps[i].1
 z:∀x∈ps,dZ x.1=true
structure PG (sg:List Sg) (fs:List Dc) (ss:List (Sc × Hd)) (ps:List (Pv × Hd)):Prop where
 k:Pk 6 ps
 s:dW (zx fs ss ps)=sg
 g:∀x∈ps,ER sg x.1
theorem Ic.body {j:Nat} (h:Ic sg fs ss ps j) (hj:j<ps.length) {ns:List Nd} (ht:TE sg ps[j].1.ty ns) (hl:ns.length<=60) (z:Hd):Ic sg fs ss (ps.set j ({ps[j].1 with body:=ns},z)) (j+1):=by
 have hs:Oj ({ps[j].1 with body:=ns}:Pv) ps[j].1:=⟨rfl,rfl,rfl⟩
 refine⟨h.k.set j hj _ hs,(Ol j hj ({ps[j].1 with body:=ns},z) hs).trans h.s,fun i hi hij=>?_,fun x hx=>?_⟩
 ·rw[List.getElem_set];by_cases e:j=i
  ·rw[if_pos e];exact⟨ht,hl,h.k.ch ps[j] (List.getElem_mem hj),by have:=h.z _ (List.getElem_mem hj);show (dZ ps[j].1||_)=true;rw[this];rfl⟩
  ·rw[if_neg e];exact h.g i (by simpa using hi) (by omega)
 ·rcases List.mem_or_eq_of_mem_set hx with hx|rfl
  ·exact h.z x hx
  ·exact h.z ps[j] (List.getElem_mem hj)
theorem Ic.all (h:Ic sg fs ss ps ps.length):PG sg fs ss ps:=⟨h.k,h.s,fun x hx=>by obtain⟨i,hi,rfl⟩:=List.getElem_of_mem hx;exact h.g i hi hi⟩
theorem PG.set (h:PG sg fs ss ps) (k:Nat) (hk:k<ps.length) (x:Pv × Hd) (hx:Oj x.1 ps[k].1) (hg:ER sg x.1):PG sg fs ss (ps.set k x):=
 ⟨h.k.set k hk x hx,(Ol k hk x hx).trans h.s,fun y hy=>by
   rcases List.mem_or_eq_of_mem_set hy with hy|rfl
   ·exact h.g y hy
   ·exact hg⟩
theorem Ie {p:Pv} (h:Ak p.step p.cap=true) (ht:p.ty=bT):(dZ p||kZ p)=true:=by
 have e:kZ p=(!p.ty.truth&&Ak p.step p.cap):=rfl;rw[e,h,ht,Bool.or_eq_true];exact .inr rfl
theorem PG.sig (hf:ES fs) (hs:KC ss) (h:PG sg fs ss ps) {i:Nat} {nm:ByteArray} (hi:(ps.map fun x=>x.1.name)[i]?=some nm) (hn:nm≠Rl):∃hk:i<ps.length,ps[i].1.ty=bT/\∀op:Int,op=6∨op=8->dP sg ⟨op,zR,nm⟩=some bT:=by
 obtain⟨hk,e⟩:=List.getElem?_eq_some_iff.1 hi;rw[List.length_map] at hk;rw[List.getElem_map] at e;have ht:ps[i].1.ty=bT:=(h.k.ty _ (List.getElem_mem hk)).resolve_right (fun h9=>hn (e.symm.trans h9.2));refine⟨hk,ht,fun op ho=>?_⟩;have h2:=aaB (nmG hf hs h.k) (p:=ps[i].1) (List.mem_map.2 ⟨_,List.getElem_mem hk,rfl⟩) ho;rw[h.s,e,ht] at h2;exact h2
theorem PG.tJ (hf:ES fs) (hs:KC ss) (h:PG sg fs ss ps):dP sg ⟨5,zR,tJ⟩=some bT:=by
 have h2:=aaC (nmG hf hs h.k) hf.w;rw[h.s] at h2;exact h2
theorem aiP:ES [⟨⟨#[97,103,101]⟩,bV⟩,⟨tJ,bT⟩]:=⟨.cons_cons _ (.cons _ (.cons_cons _ .slnil)),by decide,by decide⟩
theorem aiQ:ES [⟨⟨#[97,103,101]⟩,bV⟩,⟨⟨#[114,101,110,116]⟩,bT⟩,⟨tJ,bT⟩]:=⟨List.Sublist.refl _,by decide,by decide⟩
theorem aiR {l:List Bk} (h:EH l) (z:Hd):KC [(⟨⟨#[98,97,115,105,99]⟩,1,0,l⟩,z)]:=⟨.cons_cons _ (.cons _ .slnil),fun x hx=>by rw[List.mem_singleton.1 hx];exact⟨rfl,rfl⟩,fun x hx=>by rw[List.mem_singleton.1 hx];exact h,by simp⟩
theorem aiS {l l2:List Bk} (h:EH l) (h2:EH l2) (z z2:Hd):KC ([(⟨⟨#[98,97,115,105,99]⟩,1,0,l⟩,z)]++[(⟨⟨#[101,120,116,114,97]⟩,1,0,l2⟩,z2)]):=
 ⟨List.Sublist.refl _,fun x hx=>by
   rcases List.mem_append.1 hx with hx|hx<;>(rw[List.mem_singleton.1 hx];exact⟨rfl,rfl⟩),fun x hx=>by
   rcases List.mem_append.1 hx with hx|hx
   ·rw[List.mem_singleton.1 hx];exact h
   ·rw[List.mem_singleton.1 hx];exact h2,by simp⟩
theorem lM {a:Ra} (h:aV a=true):jH a:=by
 obtain⟨_,h1,h2⟩:=qM h;exact⟨by omega,by omega⟩
theorem agf {n:Nd} (h:aQ n=0):Fine n:=by
 have hn:=(jC h).2.2.2.1;unfold gX at hn;have k0:(aS 0).num.size<=1048576/\(aS 0).den.size<=1048576:=by decide+kernel
 have k1:(aS 1).num.size<=1048576/\(aS 1).den.size<=1048576:=by decide+kernel
 have k2:zR.num.size<=1048576/\zR.den.size<=1048576:=by decide+kernel
 unfold Fine;split at hn
 ·simp only[Bool.or_eq_true,decide_eq_true_eq] at hn;rcases hn with hn|hn<;>rw[hn]
  ·exact k0
  ·exact k1
 ·split at hn
  ·exact lM hn
  ·split at hn
   ·simp only[Bool.and_eq_true] at hn;exact lM hn.1
   ·rw[of_decide_eq_true hn];exact k2
theorem aaD {e:List Nd} (h:bQ e=0):∀n∈e,Fine n:=fun n hn=>agf (xO h n hn)
def PkL (x:Pv × Hd):Prop:=PkX x.1/\dZ x.1=true/\x.1.body=[]/\x.2=⟨none,0,0⟩
structure ET (l:Lw):Prop where
 n:pV l
 p:∀p∈l.aH,ER (dW l) p
 b:∀s∈l.aU,EH s.bI
 ne:l.aH≠[]
 fe:l.facts≠[]
 se:l.aU≠[]
theorem PG.md (hf:ES fs) (hs:KC ss) (h:PG sg fs ss ps):ET (zx fs ss ps):=by
 refine⟨nmG hf hs h.k,fun p hp=>?_,fun s hS=>?_,fun h0=>h.k.ne (by omega) (List.map_eq_nil_iff.1 h0),List.ne_nil_of_mem hf.w,fun h0=>hs.e (List.map_eq_nil_iff.1 h0)⟩
 ·obtain⟨x,hx,rfl⟩:=List.mem_map.1 hp;rw[h.s];exact h.g x hx
 ·obtain⟨x,hx,rfl⟩:=List.mem_map.1 hS;exact hs.b x hx
theorem EH.fits {l:List Bk} (h:EH l):∀b∈l,aV b.fr=true/\aV b.rt=true:=fun b hb=>by
 obtain⟨fs,h1,_,_,h4⟩:=h.f;refine⟨?_,h.r b hb⟩;have:b.fr∈l.map Bk.fr:=List.mem_map.2 ⟨b,hb,rfl⟩;rw[h1] at this;obtain⟨n,hn,e⟩:=List.mem_map.1 this;rw[<-e];exact QU ⟨n,by have:=h4 n hn;omega⟩
theorem ET.fine {l:Lw} (h:ET l):nV l:=by
 obtain⟨h1,h2,h3⟩:=h.n.len;refine⟨by omega,by omega,by omega,fun s hs b hb=>?_,fun p hp=>?_⟩
 ·obtain⟨a,c⟩:=(h.b s hs).fits b hb;exact⟨lM a,lM c⟩
 ·have g:=h.p p hp;have hz:jH zR:=⟨by decide+kernel,by decide+kernel⟩
  refine⟨?_,?_,aaD (g.b.chk g.n)⟩
  all_goals
   rcases Bool.or_eq_true _ _ ▸ g.s with hc|hc
   ·unfold dZ at hc;rw[Bool.and_eq_true,decide_eq_true_eq,decide_eq_true_eq] at hc
    first|(rw[hc.1];exact hz)|(rw[hc.2];exact hz)
   ·have e:kZ p=(!p.ty.truth&&(aV p.step&&(aV p.cap&&_))):=rfl;rw[e] at hc;simp only[Bool.and_eq_true] at hc
    first|exact lM hc.2.1|exact lM hc.2.2.1
theorem ET.chk {l:Lw} (h:ET l):bg l=0:=ac7 h.n h.p
end
theorem xA {W W':World} {B s n:Nat} {e:TypeId} {v:Value} {xs:List Value} (h:W.ownsRow B e s v n xs) (hk:∀k,v.ownBlock=some k->B<=k->W'.heap[k]?=W.heap[k]?):W'.ownsRow B e s v n xs:=by
 refine⟨h.1,h.2.imp id ?_⟩;rintro⟨g,cap,cur,h1,h2,h3,h4⟩;exact⟨g,cap,cur,h1,h2,(hk g (by rw[h1];rfl) h2).trans h3,h4⟩
theorem aK {W:World} {L B s n:Nat} {t e:TypeId} {cs:List Value} {v:Value} {xs:List Value} (hb:aj W L t cs) (ho:W.ownsRow B e s v n xs) (he:e≠t) (i:Nat) (u:Value):(W.setCell ⟨L,i,none⟩ u).ownsRow B e s v n xs:=(TF.set (e:=e) hb i u).own ho he
structure MZ (w0 W:World) (D M L N U:Nat) (fs:List Dc) (ss:List (Sc × Hd)) (ps:List (Pv × Hd)) (fv sv pv:Value):Prop where
 ds:DS W D (D+1)
 r:aj W w0.heap.size 28 [.slice none 0 0,.slice none 0 0,.slice none 0 0]
 m:aj W M 34 [.bool false,.int .i64 1,.int .i64 0]
 b:aj W L 28 [fv,sv,pv]
 f:W.ownsRow (M+1) 36 4 fv fs.length (fs.flatMap Dc.cells)
 s:W.ownsRow (M+1) 39 4 sv ss.length (ss.flatMap bK)
 p:W.ownsRow (M+1) 45 12 pv ps.length (ps.flatMap aA)
 qs:∀x∈ss,W.ownsRow (M+1) 93 6 (.slice x.2.a x.2.n x.2.c) x.1.bI.length (x.1.bI.flatMap Bk.cells)
 qp:∀x∈ps,W.ownsRow (M+1) 49 5 (.slice x.2.a x.2.n x.2.c) x.1.body.length (x.1.body.flatMap Nd.cells)
 n:N≠0->aj W N 114 (six.map Value.string)
 on:Below w0.heap.size w0 W
 hD:w0.heap.size<D
 hM:D<M
 hL:M<L
 hN:N≠0->L<N
 hU:L<U
 EU:N<U
 hW:U<=W.heap.size
 u:∀k,fv.ownBlock=some k∨sv.ownBlock=some k∨pv.ownBlock=some k∨(∃x∈ss,(Value.slice x.2.a x.2.n x.2.c).ownBlock=some k)∨(∃x∈ps,(Value.slice x.2.a x.2.n x.2.c).ownBlock=some k)->k<U
section
variable {w0 W W':World} {D M L N U:Nat} {fs:List Dc} {ss:List (Sc × Hd)} {ps:List (Pv × Hd)} {fv sv pv:Value}
theorem MZ.keep (h:MZ w0 W D M L N U fs ss ps fv sv pv) (hd:DS W' D (D+1)) (h1:W'.os=W.os) (h2:W'.tape=W.tape) (h3:W'.output=W.output) (h4:W.heap.size<=W'.heap.size) (hk:∀k,k<U->k≠D->W'.heap[k]?=W.heap[k]?):MZ w0 W' D M L N U fs ss ps fv sv pv:=by
 have q1:=h.hD;have q2:=h.hM;have q3:=h.hL;have q4:=h.hU
 refine⟨hd,h.r.of_block (hk _ (by omega) (by omega)),h.m.of_block (hk _ (by omega) (by omega)),h.b.of_block (hk _ (by omega) (by omega)),
  xA h.f (fun k e he=>hk k (h.u k (.inl e)) (by omega)),xA h.s (fun k e he=>hk k (h.u k (.inr (.inl e))) (by omega)),xA h.p (fun k e he=>hk k (h.u k (.inr (.inr (.inl e)))) (by omega)),
  fun x hx=>xA (h.qs x hx) (fun k e he=>hk k (h.u k (.inr (.inr (.inr (.inl ⟨x,hx,e⟩))))) (by omega)),fun x hx=>xA (h.qp x hx) (fun k e he=>hk k (h.u k (.inr (.inr (.inr (.inr ⟨x,hx,e⟩))))) (by omega)),
  fun hn=>(h.n hn).of_block (hk _ h.EU (by have:=h.hN hn;omega)),⟨h1.trans h.on.os,h2.trans h.on.tape,h3.trans h.on.output,Nat.le_trans h.on.size h4,fun k hk'=>(hk k (by omega) (by omega)).trans (h.on.block k hk')⟩,
  h.hD,h.hM,h.hL,h.hN,h.hU,h.EU,Nat.le_trans h.hW h4,h.u⟩
theorem MZ.dG (h:MZ w0 W D M L N U fs ss ps fv sv pv) (hd:DS W' D (D+1)) (ho:aF D W W'):MZ w0 W' D M L N U fs ss ps fv sv pv:=
 h.keep hd ho.os ho.tape ho.output ho.size (fun k hk hn=>ho.block k (by have:=h.hW;omega) hn)
theorem MZ.low (h:MZ w0 W D M L N U fs ss ps fv sv pv) (hb:Below U W W'):MZ w0 W' D M L N U fs ss ps fv sv pv:=
 h.keep (h.ds.Hq hb (by have:=h.hM;have:=h.hL;have:=h.hU;omega)) hb.os hb.tape hb.output hb.size (fun k hk _=>hb.block k hk)
theorem MZ.below (h:MZ w0 W D M L N U fs ss ps fv sv pv) (hb:Below W.heap.size W W'):MZ w0 W' D M L N U fs ss ps fv sv pv:=h.low (hb.mono h.hW)
theorem MZ.up (h:MZ w0 W D M L N U fs ss ps fv sv pv):MZ w0 W D M L N W.heap.size fs ss ps fv sv pv:=
 {h with hU:=by have:=h.hU;have:=h.hW;omega,EU:=by have:=h.EU;have:=h.hW;omega,hW:=Nat.le_refl _,u:=fun k hk=>Nat.lt_of_lt_of_le (h.u k hk) h.hW}
theorem MZ.dsL (h:MZ w0 W D M L N U fs ss ps fv sv pv) (hb:Below (M+1) W W') (i:Nat) (v:Value):DS (W'.setCell ⟨L,i,none⟩ v) D (D+1):=
 (h.ds.Hq hb (by have:=h.hM;omega)).set (by have:=h.hM;have:=h.hL;omega) i v
theorem MZ.onL (h:MZ w0 W D M L N U fs ss ps fv sv pv) (hb:Below (M+1) W W') (i:Nat) (v:Value):Below w0.heap.size w0 (W'.setCell ⟨L,i,none⟩ v):=
 (h.on.trans (hb.mono (by have:=h.hD;have:=h.hM;omega))).setCell (p:=⟨L,i,none⟩) (by have:=h.hD;have:=h.hM;have:=h.hL;show _<=L;omega) v
theorem MZ.bM (h:MZ w0 W D M L N U fs ss ps fv sv pv) {e:TypeId} {z n:Nat} {v:Value} {xs:List Value} (ho:W.ownsRow (M+1) e z v n xs) (hg:W.grownBy W' v.ownBlock):Below (M+1) W W':=
 (Below.refl _ _).grown hg (by have:=h.hL;have:=h.hU;have:=h.hW;omega) (fun k hk=>(ho.lt k hk).1)
theorem MZ.DU (h:MZ w0 W D M L N U fs ss ps fv sv pv) {v':Value} (d:Dc) (ho:W'.ownsRow (M+1) 36 4 v' (fs.length+1) (fs.flatMap Dc.cells++d.cells)) (hg:W.grownBy W' fv.ownBlock):
  MZ w0 (W'.setCell ⟨L,0,none⟩ v') D M L N W'.heap.size (fs++[d]) ss ps v' sv pv:=by
 have q1:=h.hD;have q2:=h.hM;have q3:=h.hL;have q4:=h.hU;have q5:=h.hW;have q6:=hg.size;have q7:=h.EU;have ht:=TF.grown h.f hg;have hb:=h.bM h.f hg;have hB:=ht.blk h.b (by decide)
 refine⟨h.dsL hb 0 v',(ht.blk h.r (by decide)).other (by show _≠L;omega) _,(ht.blk h.m (by decide)).other (by show _≠L;omega) _,hB.set 0 v',?_,aK hB (ht.own h.s (by decide)) (by decide) 0 _,aK hB (ht.own h.p (by decide)) (by decide) 0 _,fun x hx=>aK hB (ht.own (h.qs x hx) (by decide)) (by decide) 0 _,fun x hx=>aK hB (ht.own (h.qp x hx) (by decide)) (by decide) 0 _,
  fun hn=>(ht.blk (h.n hn) (by decide)).other (by have:=h.hN hn;show _≠L;omega) _,h.onL hb 0 v',q1,q2,q3,h.hN,by omega,by omega,by simp[World.setCell],fun k hk=>?_⟩
 ·have k:=aK hB ho (by decide) 0 v';simpa [List.length_append,List.flatMap_append] using k
 ·rcases hk with hk|hk
  ·exact (ho.lt k hk).2
  ·have:=h.u k (.inr hk);omega
theorem MZ.UU (h:MZ w0 W D M L N U fs ss ps fv sv pv) {v':Value} (x:Sc × Hd) (hx:W.ownsRow (M+1) 93 6 (.slice x.2.a x.2.n x.2.c) x.1.bI.length (x.1.bI.flatMap Bk.cells)) (ho:W'.ownsRow (M+1) 39 4 v' (ss.length+1) (ss.flatMap bK++bK x)) (hg:W.grownBy W' sv.ownBlock):
  MZ w0 (W'.setCell ⟨L,1,none⟩ v') D M L N W'.heap.size fs (ss++[x]) ps fv v' pv:=by
 have q1:=h.hD;have q2:=h.hM;have q3:=h.hL;have q4:=h.hU;have q5:=h.hW;have q6:=hg.size;have q7:=h.EU;have ht:=TF.grown h.s hg;have hb:=h.bM h.s hg;have hB:=ht.blk h.b (by decide)
 refine⟨h.dsL hb 1 v',(ht.blk h.r (by decide)).other (by show _≠L;omega) _,(ht.blk h.m (by decide)).other (by show _≠L;omega) _,hB.set 1 v',aK hB (ht.own h.f (by decide)) (by decide) 1 _,?_,aK hB (ht.own h.p (by decide)) (by decide) 1 _,fun y hy=>aK hB (ht.own ((List.mem_append.1 hy).elim (h.qs y) (fun e=>(List.mem_singleton.1 e) ▸ hx)) (by decide)) (by decide) 1 _,fun x hx=>aK hB (ht.own (h.qp x hx) (by decide)) (by decide) 1 _,
  fun hn=>(ht.blk (h.n hn) (by decide)).other (by have:=h.hN hn;show _≠L;omega) _,h.onL hb 1 v',q1,q2,q3,h.hN,by omega,by omega,by simp[World.setCell],fun k hk=>?_⟩
 ·have k:=aK hB ho (by decide) 1 v';simpa [List.length_append,List.flatMap_append] using k
 ·rcases hk with hk|hk|hk|⟨y,hy,hk⟩|hk
  ·have:=h.u k (.inl hk);omega
  ·exact (ho.lt k hk).2
  ·have:=h.u k (.inr (.inr (.inl hk)));omega
  ·rcases List.mem_append.1 hy with hy|hy
   ·have:=h.u k (.inr (.inr (.inr (.inl ⟨y,hy,hk⟩))));omega
   ·rw[List.mem_singleton.1 hy] at hk;have:=(hx.lt k hk).2;omega
  ·have:=h.u k (.inr (.inr (.inr (.inr hk))));omega
theorem MZ.pushP (h:MZ w0 W D M L N U fs ss ps fv sv pv) {v':Value} (x:Pv × Hd) (hx:x.1.body=[]/\x.2=⟨none,0,0⟩) (ho:W'.ownsRow (M+1) 45 12 v' (ps.length+1) (ps.flatMap aA++aA x)) (hg:W.grownBy W' pv.ownBlock):
  MZ w0 (W'.setCell ⟨L,2,none⟩ v') D M L N W'.heap.size fs ss (ps++[x]) fv sv v':=by
 have q1:=h.hD;have q2:=h.hM;have q3:=h.hL;have q4:=h.hU;have q5:=h.hW;have q6:=hg.size;have q7:=h.EU;have ht:=TF.grown h.p hg;have hb:=h.bM h.p hg;have hB:=ht.blk h.b (by decide)
 refine⟨h.dsL hb 2 v',(ht.blk h.r (by decide)).other (by show _≠L;omega) _,(ht.blk h.m (by decide)).other (by show _≠L;omega) _,hB.set 2 v',aK hB (ht.own h.f (by decide)) (by decide) 2 _,aK hB (ht.own h.s (by decide)) (by decide) 2 _,?_,fun x hx=>aK hB (ht.own (h.qs x hx) (by decide)) (by decide) 2 _,fun y hy=>(List.mem_append.1 hy).elim (fun hy=>aK hB (ht.own (h.qp y hy) (by decide)) (by decide) 2 _) (fun e=>by rw[List.mem_singleton.1 e,hx.1,hx.2];exact World.ownsRow_nil _ _ _ _),
  fun hn=>(ht.blk (h.n hn) (by decide)).other (by have:=h.hN hn;show _≠L;omega) _,h.onL hb 2 v',q1,q2,q3,h.hN,by omega,by omega,by simp[World.setCell],fun k hk=>?_⟩
 ·have k:=aK hB ho (by decide) 2 v';simpa [List.length_append,List.flatMap_append] using k
 ·rcases hk with hk|hk|hk|hk|⟨y,hy,hk⟩
  ·have:=h.u k (.inl hk);omega
  ·have:=h.u k (.inr (.inl hk));omega
  ·exact (ho.lt k hk).2
  ·have:=h.u k (.inr (.inr (.inr (.inl hk))));omega
  ·rcases List.mem_append.1 hy with hy|hy
   ·have:=h.u k (.inr (.inr (.inr (.inr ⟨y,hy,hk⟩))));omega
   ·rw[List.mem_singleton.1 hy,hx.2] at hk;cases hk
theorem MZ.afv (h:MZ w0 W D M L N U fs ss ps fv sv pv) (x:Sc × Hd) (hx:W.ownsRow (M+1) 93 6 (.slice x.2.a x.2.n x.2.c) x.1.bI.length (x.1.bI.flatMap Bk.cells)):
  MZ w0 ((W.alloc (.cells (bK x).toArray 39)).setCell ⟨L,1,none⟩ (.slice (some ⟨W.heap.size,0,none⟩) 1 1)) D M L N (W.heap.size+1) fs [x] ps fv (.slice (some ⟨W.heap.size,0,none⟩) 1 1) pv:=by
 have q1:=h.hD;have q2:=h.hM;have q3:=h.hL;have q4:=h.hU;have q5:=h.hW;have q7:=h.EU;have k:=h.below (zB W (.cells (bK x).toArray 39));have hb:=(Below.refl (M+1) W).alloc (by omega) (.cells (bK x).toArray 39);have ho:=tq W (bK x).toArray 39 4 1 (M+1) rfl (by omega) (by omega)
 refine⟨h.dsL hb 1 _,k.r.other (by show _≠L;omega) _,k.m.other (by show _≠L;omega) _,k.b.set 1 _,aK k.b k.f (by decide) 1 _,?_,aK k.b k.p (by decide) 1 _,fun y hy=>aK k.b (own_below (List.mem_singleton.1 hy ▸ hx) (zB _ _)) (by decide) 1 _,fun x hx=>aK k.b (k.qp x hx) (by decide) 1 _,
  fun hn=>(k.n hn).other (by have:=h.hN hn;show _≠L;omega) _,h.onL hb 1 _,q1,q2,q3,h.hN,by omega,by omega,by simp[World.setCell],fun k hk=>?_⟩
 ·have j:=aK k.b ho (by decide) 1 (.slice (some ⟨W.heap.size,0,none⟩) 1 1);simpa using j
 ·rcases hk with hk|hk|hk|⟨y,hy,hk⟩|hk
  ·have:=h.u k (.inl hk);omega
  ·have hk:some W.heap.size=some k:=hk;injection hk with hk;omega
  ·have:=h.u k (.inr (.inr (.inl hk)));omega
  ·rw[List.mem_singleton.1 hy] at hk;have:=(hx.lt k hk).2;omega
  ·have:=h.u k (.inr (.inr (.inr (.inr hk))));omega
end
def mF (xs:List Value) (o:Nat):List Value->List Value
 |[]=>xs
 |v::vs=>mF (xs.set o v) (o+1) vs
theorem aaE {base:Nat} {e:TypeId} {size g n cap:Nat} (vs:List Value):∀(w:World) (xs:List Value) (o:Nat),w.ownsRow base e size (.slice (some ⟨g,0,none⟩) n cap) n xs->
  (w.setCells g o vs).ownsRow base e size (.slice (some ⟨g,0,none⟩) n cap) n (mF xs o vs):=by
 induction vs with
 |nil=>intro w xs o h;exact h
 |cons v vs ih=>intro w xs o h;exact ih _ _ _ (h.stored o v).1
theorem FH {g:Nat} {w:World} (vs:List Value):∀(w':World) (o:Nat),aF g w w'->aF g w (w'.setCells g o vs):=by
 induction vs with
 |nil=>intro w' o h;exact h
 |cons v vs ih=>intro w' o h;exact ih _ _ (h.set o v)
theorem Yc (vs:List Value):∀(xs ys:List Value) (o:Nat),o+vs.length<=xs.length->mF (xs++ys) o vs=mF xs o vs++ys:=by
 induction vs with
 |nil=>intro xs ys o _;rfl
 |cons v vs ih=>
  intro xs ys o h;simp only[List.length_cons] at h;show mF ((xs++ys).set o v) (o+1) vs=mF (xs.set o v) (o+1) vs++ys;rw[List.set_append_left _ _ (by omega),ih _ _ _ (by rw[List.length_set];omega)]
theorem Yd (vs:List Value):∀(xs ys:List Value) (o:Nat),mF (xs++ys) (xs.length+o) vs=xs++mF ys o vs:=by
 induction vs with
 |nil=>intro xs ys o;rfl
 |cons v vs ih=>
  intro xs ys o;show mF ((xs++ys).set (xs.length+o) v) (xs.length+o+1) vs=xs++mF (ys.set o v) (o+1) vs;rw[List.set_append_right _ _ (by omega),Nat.add_sub_cancel_left,Nat.add_assoc,ih]
theorem aaF {α:Type} {enc:α->List Value} {m:Nat} (hm:∀a,(enc a).length=m) (x':α) (o:Nat) (vs:List Value) (ho:o+vs.length<=m):∀(ps:List α) (k:Nat) (hk:k<ps.length),mF (enc ps[k]) o vs=enc x'->mF (ps.flatMap enc) (k*m+o) vs=(ps.set k x').flatMap enc:=by
 intro ps
 induction ps with
 |nil=>intro k hk;simp at hk
 |cons p ps ih=>
  intro k hk h;cases k with
  |zero=>
   rw[List.flatMap_cons,List.set_cons_zero,List.flatMap_cons,Nat.zero_mul,Nat.zero_add,Yc _ _ _ _ (by rw[hm];omega)];exact congrArg (·++_) h
  |succ k=>
   have e:(k+1)*m+o=(enc p).length+(k*m+o):=by rw[hm,Nat.add_mul];omega
   rw[List.flatMap_cons,List.set_cons_succ,List.flatMap_cons,e,Yd,ih k (by simpa using hk) h]
theorem aF.tf {g:Nat} {T:TypeId} {W X:World} {cur:Array Value} {fr:Nat × Nat} (on:aF g W X) (hc:W.heap[g]?=some (Obj.cells cur T fr)):TF T W X:=⟨on.size,fun k cs t' fr' hk ht=>(on.block k (lt_of_some hk) (fun e=>by
 subst e;rw[hc] at hk;injection hk with hk;injection hk with _ h5 _;exact ht h5.symm)).trans hk⟩
theorem zy {W:World} {α:Type} {enc:α->List Value} {m:Nat} (hm:∀a,(enc a).length=m) {B:Nat} {T:TypeId} {xs:List α} {g n c:Nat} (hp:W.ownsRow B T m (.slice (some ⟨g,0,none⟩) n c) n (xs.flatMap enc)) (k:Nat) (hk:k<xs.length) (x:α) (o:Nat) (vs:List Value) (ho:o+vs.length<=m) (hx:mF (enc xs[k]) o vs=enc x):
  (W.setCells g (k*m+o) vs).ownsRow B T m (.slice (some ⟨g,0,none⟩) n c) n ((xs.set k x).flatMap enc)/\aF g W (W.setCells g (k*m+o) vs)/\TF T W (W.setCells g (k*m+o) vs):=by
 have on:aF g W (W.setCells g (k*m+o) vs):=FH vs W _ (aF.refl _ _);have ow:=aaE vs W _ (k*m+o) hp;rw[aaF hm x o vs ho xs k hk hx] at ow;rcases hp.2 with⟨h1,_⟩|⟨g',cap,cur,h1,_,h3,_⟩
 ·cases h1
 ·injection h1 with h1;injection h1 with h1;injection h1 with h1;subst h1;exact⟨ow,on,on.tf h3⟩
theorem MZ.put {w0 W:World} {D M L N U:Nat} {fs:List Dc} {ss:List (Sc × Hd)} {ps:List (Pv × Hd)} {fv sv:Value} {g c:Nat} (h:MZ w0 W D M L N U fs ss ps fv sv (.slice (some ⟨g,0,none⟩) ps.length c)) (k:Nat) (hk:k<ps.length) (x:Pv × Hd) (hq:W.ownsRow (M+1) 49 5 (.slice x.2.a x.2.n x.2.c) x.1.body.length (x.1.body.flatMap Nd.cells)) (hqu:∀k,(Value.slice x.2.a x.2.n x.2.c).ownBlock=some k->k<U) (o:Nat) (vs:List Value) (ho:o+vs.length<=12) (hx:mF (aA ps[k]) o vs=aA x):
  MZ w0 (W.setCells g (k*12+o) vs) D M L N U fs ss (ps.set k x) fv sv (.slice (some ⟨g,0,none⟩) ps.length c):=by
 have q1:=h.hD;have q2:=h.hM;have q3:=h.hL;have q4:=h.hU;have q5:=h.hW;have q7:=h.EU;have hg:=h.p.lt g rfl;obtain⟨ow,on,tf⟩:=zy (enc:=aA) (m:=12) (fun _=>rfl) h.p k hk x o vs ho hx
 refine⟨h.ds.Hq (on.below hg.1 (by omega)) (by omega),tf.blk h.r (by decide),tf.blk h.m (by decide),tf.blk h.b (by decide),tf.own h.f (by decide),tf.own h.s (by decide),by rw[List.length_set];exact ow,fun y hy=>tf.own (h.qs y hy) (by decide),fun y hy=>tf.own ((List.mem_or_eq_of_mem_set hy).elim (h.qp y) (fun e=>e ▸ hq)) (by decide),
  fun hn=>tf.blk (h.n hn) (by decide),h.on.trans (on.below (by omega) h.on.size),q1,q2,q3,h.hN,q4,q7,Nat.le_trans q5 on.size,fun j hj=>?_⟩
 rcases hj with hj|hj|hj|hj|⟨y,hy,hj⟩
 ·exact h.u j (.inl hj)
 ·exact h.u j (.inr (.inl hj))
 ·exact h.u j (.inr (.inr (.inl hj)))
 ·exact h.u j (.inr (.inr (.inr (.inl hj))))
 ·rcases List.mem_or_eq_of_mem_set hy with hy|rfl
  ·exact h.u j (.inr (.inr (.inr (.inr ⟨y,hy,hj⟩))))
  ·exact hqu j hj
theorem MZ.first {w0 W X:World} {D M:Nat} (hd:DS W D (D+1)) (hr:aj W w0.heap.size 28 [.slice none 0 0,.slice none 0 0,.slice none 0 0]) (hm:aj W M 34 [.bool false,.int .i64 1,.int .i64 0]) (on:Below w0.heap.size w0 W) (hD:w0.heap.size<D) (hM:D<M) (d:Dc)
  (hX:(W.alloc (.cells d.cells.toArray 36)).alloc (.cells #[.slice (some ⟨W.heap.size,0,none⟩) 1 1,.slice none 0 0,.slice none 0 0] 28)=X):
  MZ w0 X D M (W.heap.size+1) 0 (W.heap.size+2) [d] [] [] (.slice (some ⟨W.heap.size,0,none⟩) 1 1) (.slice none 0 0) (.slice none 0 0):=by
 have hM2:=hm.lt;have ho:=(tq W d.cells.toArray 36 4 1 (M+1) rfl (by omega) (by omega)).alloc (.cells #[.slice (some ⟨W.heap.size,0,none⟩) 1 1,.slice none 0 0,.slice none 0 0] 28);obtain⟨_,hb,hbl,hsz⟩:=sU W 36 28 d.cells.toArray #[.slice (some ⟨W.heap.size,0,none⟩) 1 1,.slice none 0 0,.slice none 0 0];rw[hX] at ho hb hbl hsz;refine⟨hd.below hbl,hr.below hbl hr.lt,hm.below hbl hm.lt,hb,?_,World.ownsRow_nil _ _ _ _,World.ownsRow_nil _ _ _ _,fun _ h=>(by cases h),fun _ h=>(by cases h),fun h=>absurd rfl h,ah on hbl,hD,hM,by omega,fun h=>absurd rfl h,by omega,by omega,by omega,fun k hk=>?_⟩
 ·simpa using ho
 ·rcases hk with hk|hk|hk|hk|hk
  ·have hk:some W.heap.size=some k:=hk;injection hk with hk;omega
  ·cases hk
  ·cases hk
  ·obtain⟨_,h,_⟩:=hk;cases h
  ·obtain⟨_,h,_⟩:=hk;cases h
section
variable {w0 W W' X:World} {D M L N U:Nat} {fs:List Dc} {ss:List (Sc × Hd)} {ps:List (Pv × Hd)} {fv sv pv:Value}
theorem MZ.cells (h:MZ w0 W D M L N U fs ss ps fv sv pv):W.cell? ⟨L,0,none⟩=some fv/\W.cell? ⟨L,1,none⟩=some sv/\W.cell? ⟨L,2,none⟩=some pv/\W.cell? ⟨M,0,none⟩=some (.bool false)/\W.cell? ⟨M,1,none⟩=some (.int .i64 1)/\W.cell? ⟨M,2,none⟩=some (.int .i64 0):=
 ⟨h.b.cells 0,h.b.cells 1,h.b.cells 2,h.m.cells 0,h.m.cells 1,h.m.cells 2⟩
theorem MZ.hB (h:MZ w0 W D M L N U fs ss ps fv sv pv):M+1<=W.heap.size:=by have:=h.hL;have:=h.hU;have:=h.hW;omega
theorem MZ.Ye (h:MZ w0 W D M L N U fs ss ps fv sv pv):D+1<=W.heap.size:=h.ds.lt
theorem MZ.next (h:MZ w0 W D M L N U fs ss ps fv sv pv) (q:Int) (h1:1<=q) (h2:q<=1000):Calls Tryz.prog 52 #[.pointer (some ⟨D,0,none⟩),.int .i64 q] W fun e X=>∃r:Nat,(r:Int)<q/\e=.returned (.int .i64 r)/\MZ w0 X D M L N U fs ss ps fv sv pv/\aF D W X:=
 (next_any W D (D+1) q h.ds h1 (by omega)).mono fun _ _ ⟨r,hr,he,hd,ho⟩=>⟨r,hr,he,h.dG hd ho,ho⟩
theorem MZ.agh (h:MZ w0 W D M L N U fs ss ps fv sv pv) (x:Sc × Hd) (hx:W.ownsRow (M+1) 93 6 (.slice x.2.a x.2.n x.2.c) x.1.bI.length (x.1.bI.flatMap Bk.cells)) (hX:W.alloc (.cells (bK x).toArray 39)=X):
  MZ w0 (X.setCell ⟨L,1,none⟩ (.slice (some ⟨W.heap.size,0,none⟩) 1 1)) D M L N (W.heap.size+1) fs [x] ps fv (.slice (some ⟨W.heap.size,0,none⟩) 1 1) pv:=hX ▸ h.afv x hx
theorem MZ.names (h:MZ w0 W D M L 0 U fs ss ps fv sv pv) (hX:W.alloc (.cells (six.map Value.string).toArray 114)=X):MZ w0 X D M L W.heap.size (W.heap.size+1) fs ss ps fv sv pv:=by
 obtain⟨k,hb⟩:=zA hX;have j:=h.below hb;have:=h.hL;have:=h.hU;have:=h.hW;exact {j with n:=fun _=>k,hN:=fun _=>by omega,hU:=by omega,EU:=by omega,hW:=k.lt,u:=fun k hk=>by have:=h.u k hk;omega}
theorem MZ.nm (h:MZ w0 W D M L N U fs ss ps fv sv pv) (hN:N≠0) {i:Nat} (hi:i<six.length):W.cell? ⟨N,i,none⟩=some (.string six[i]):=by
 have:=(h.n hN).cells i;rw[this,List.getElem?_map,List.getElem?_eq_getElem hi];rfl
theorem MZ.at (h:MZ w0 W D M L N U fs ss ps fv sv pv) (ho:aF U W X):MZ w0 X D M L N U fs ss ps fv sv pv:=h.low (ho.below (Nat.le_refl _) h.hW)
theorem DX {s:ByteArray} {l:List UInt8} (h:¬s=⟨l.toArray⟩):(s.toList==l)=false/\¬s.toList=l:=by
 have h1:¬s.toList=l:=fun e=>h (by subst e;rw[ByteArray.toList_eq])
 exact⟨beq_eq_false_iff_ne.2 h1,h1⟩
def SZ (L M:Nat) (fv sv pv:Value) (W:World):Prop:=aj W L 28 [fv,sv,pv]/\aj W M 34 [.bool false,.int .i64 1,.int .i64 0]
theorem MZ.sz (h:MZ w0 W D M L N U fs ss ps fv sv pv):SZ L M fv sv pv W:=⟨h.b,h.m⟩
theorem SZ.tf {t:TypeId} (h:SZ L M fv sv pv W) (ht:TF t W W') (h1:28≠t) (h2:34≠t):SZ L M fv sv pv W':=⟨ht.blk h.1 h1,ht.blk h.2 h2⟩
theorem SZ.cells (h:SZ L M fv sv pv W):W.cell? ⟨L,0,none⟩=some fv/\W.cell? ⟨L,1,none⟩=some sv/\W.cell? ⟨L,2,none⟩=some pv/\W.cell? ⟨M,0,none⟩=some (.bool false)/\W.cell? ⟨M,1,none⟩=some (.int .i64 1)/\W.cell? ⟨M,2,none⟩=some (.int .i64 0):=
 ⟨h.1.cells 0,h.1.cells 1,h.1.cells 2,h.2.cells 0,h.2.cells 1,h.2.cells 2⟩
theorem MZ.rows (h:MZ w0 W D M L N U fs ss ps fv sv pv):∃f s p:Hd,fv=.slice f.a f.n f.c/\sv=.slice s.a s.n s.c/\pv=.slice p.a p.n p.c/\aJ W Dc.cells fs f/\aJ W bK ss s/\aJ W aA ps p:=by
 obtain⟨f,h1,_,h2⟩:=aJ.l7 h.f rfl;obtain⟨s,h3,_,h4⟩:=aJ.l7 h.s rfl;obtain⟨p,h5,_,h6⟩:=aJ.l7 h.p rfl;exact⟨f,s,p,h1,h3,h5,h2,h4,h6⟩
theorem MZ.pnn (h:MZ w0 W D M L N U fs ss ps fv sv pv) (hne:ps≠[]):∃g c,pv=.slice (some ⟨g,0,none⟩) ps.length c:=by
 rcases h.p.2 with⟨_,h2⟩|⟨g,cap,cur,h1,_⟩
 ·exact absurd (List.length_eq_zero_iff.1 h2) hne
 ·exact⟨g,cap,h1⟩
variable {g n c:Nat}
theorem rO {B m:Nat} (h:W.ownsRow B 45 12 (.slice (some ⟨g,0,none⟩) n c) m (ps.flatMap aA)) (hm:m=ps.length) {j:Nat} (hj:j<ps.length):W.cell? ⟨g,j*12,none⟩=some (.string ps[j].1.name)/\W.cell? ⟨g,j*12+1,none⟩=some (.bool ps[j].1.ty.truth)/\W.cell? ⟨g,j*12+2,none⟩=some (.int .i64 ps[j].1.ty.aN)/\W.cell? ⟨g,j*12+3,none⟩=some (.int .i64 ps[j].1.ty.days)/\W.cell? ⟨g,j*12+4,none⟩=some (.slice ps[j].2.a ps[j].2.n ps[j].2.c)/\W.cell? ⟨g,j*12+5,none⟩=some (.bool ps[j].1.dS)/\
  W.cell? ⟨g,j*12+6,none⟩=some (.bool ps[j].1.step.neg)/\W.cell? ⟨g,j*12+7,none⟩=some (.string ps[j].1.step.num)/\W.cell? ⟨g,j*12+8,none⟩=some (.string ps[j].1.step.den)/\W.cell? ⟨g,j*12+9,none⟩=some (.bool ps[j].1.cap.neg)/\W.cell? ⟨g,j*12+10,none⟩=some (.string ps[j].1.cap.num)/\W.cell? ⟨g,j*12+11,none⟩=some (.string ps[j].1.cap.den):=by
 obtain⟨p,h5,_,h6⟩:=aJ.l7 h hm;injection h5 with h1 h2 h3;obtain⟨b,off,p',hA,hb,hx,rfl,hc⟩:=Am (A:=p.a) (n:=p.n) (c:=p.c) h6 (by rw[h6.len];exact hj);rw[<-h1] at hA;injection hA with hA;injection hA with hA1 hA2;subst hA1 hA2;have:=hc W (Below.refl _ _);simpa only[Nat.zero_add] using this
theorem MZ.pc (h:MZ w0 W D M L N U fs ss ps fv sv (.slice (some ⟨g,0,none⟩) n c)) {j:Nat} (hj:j<ps.length):W.cell? ⟨g,j*12,none⟩=some (.string ps[j].1.name)/\W.cell? ⟨g,j*12+1,none⟩=some (.bool ps[j].1.ty.truth)/\W.cell? ⟨g,j*12+2,none⟩=some (.int .i64 ps[j].1.ty.aN)/\W.cell? ⟨g,j*12+3,none⟩=some (.int .i64 ps[j].1.ty.days)/\W.cell? ⟨g,j*12+4,none⟩=some (.slice ps[j].2.a ps[j].2.n ps[j].2.c)/\W.cell? ⟨g,j*12+5,none⟩=some (.bool ps[j].1.dS)/\
  W.cell? ⟨g,j*12+6,none⟩=some (.bool ps[j].1.step.neg)/\W.cell? ⟨g,j*12+7,none⟩=some (.string ps[j].1.step.num)/\W.cell? ⟨g,j*12+8,none⟩=some (.string ps[j].1.step.den)/\W.cell? ⟨g,j*12+9,none⟩=some (.bool ps[j].1.cap.neg)/\W.cell? ⟨g,j*12+10,none⟩=some (.string ps[j].1.cap.num)/\W.cell? ⟨g,j*12+11,none⟩=some (.string ps[j].1.cap.den):=rO h.p rfl hj
theorem kM {B m z:Nat} {t:TypeId} {xs:List Value} (h:W.ownsRow B t z (.slice (some ⟨g,0,none⟩) n c) m xs) (i:Nat):W.frozen? ⟨g,i,none⟩=false:=by
 rcases h.2 with⟨h1,_⟩|⟨g',cap,cur,h1,_,h3,_⟩
 ·cases h1
 ·injection h1 with h1;injection h1 with h1;injection h1 with h1;subst h1;simp[World.frozen?,h3]
theorem MZ.pf (h:MZ w0 W D M L N U fs ss ps fv sv (.slice (some ⟨g,0,none⟩) n c)) (i:Nat):W.frozen? ⟨g,i,none⟩=false:=kM h.p i
theorem MZ.I8 (h:MZ w0 W D M L N U fs ss ps fv sv (.slice (some ⟨g,0,none⟩) n c)) (hn:n=ps.length) (k:Nat) (hk:k<ps.length) (x:Pv × Hd) (hq:W.ownsRow (M+1) 49 5 (.slice x.2.a x.2.n x.2.c) x.1.body.length (x.1.body.flatMap Nd.cells)) (hqu:∀k,(Value.slice x.2.a x.2.n x.2.c).ownBlock=some k->k<U) (o:Nat) (vs:List Value) (ho:o+vs.length<=12) (hx:mF (aA ps[k]) o vs=aA x):
  MZ w0 (W.setCells g (k*12+o) vs) D M L N U fs ss (ps.set k x) fv sv (.slice (some ⟨g,0,none⟩) n c):=by subst hn;exact h.put k hk x hq hqu o vs ho hx
theorem ac9 {v:Value} {m:Nat} {xs:List Value} (ho:W.ownsRow (M+1) 102 5 v m xs) (h:MZ w0 W D M L N U fs ss ps fv sv (.slice (some ⟨g,0,none⟩) n c)) (on:aF g W X):X.ownsRow (M+1) 102 5 v m xs:=by
 refine xA ho (fun j ej _=>on.block j (ho.lt j ej).2 (fun e2=>?_));subst e2;rcases WI ho h.p (by decide) with h1|h1
 ·rw[h1] at ej;cases ej
 ·exact h1 ej
theorem MZ.pr (h:MZ w0 W D M L N U fs ss ps fv sv (.slice (some ⟨g,0,none⟩) n c)):aJ W aA ps ⟨some ⟨g,0,none⟩,n,c⟩:=by
 obtain⟨p,h5,_,h6⟩:=aJ.l7 h.p rfl;injection h5 with h1 h2 h3;obtain⟨a,b,c'⟩:=p;subst h1 h2 h3;exact h6
theorem MZ.qu (h:MZ w0 W D M L N U fs ss ps fv sv pv) {x:Pv × Hd} (hx:x∈ps):∀k,(Value.slice x.2.a x.2.n x.2.c).ownBlock=some k->k<U:=fun k hk=>h.u k (.inr (.inr (.inr (.inr ⟨x,hx,hk⟩))))
structure LO (W:World) (B:Nat) (l:Lw) (ss:List (Sc × Hd)) (ps:List (Pv × Hd)) (f s p:Hd):Prop where
 f:W.ownsRow B 36 4 (.slice f.a f.n f.c) l.facts.length (l.facts.flatMap Dc.cells)
 s:W.ownsRow B 39 4 (.slice s.a s.n s.c) ss.length (ss.flatMap bK)
 p:W.ownsRow B 45 12 (.slice p.a p.n p.c) ps.length (ps.flatMap aA)
 sl:ss.map Prod.fst=l.aU
 pl:ps.map Prod.fst=l.aH
 qs:∀x∈ss,W.ownsRow B 93 6 (.slice x.2.a x.2.n x.2.c) x.1.bI.length (x.1.bI.flatMap Bk.cells)
 qp:∀x∈ps,W.ownsRow B 49 5 (.slice x.2.a x.2.n x.2.c) x.1.body.length (x.1.body.flatMap Nd.cells)
theorem iP {α:Type} {enc:α->List Value} {xs:List α} {h:Hd} {e:TypeId} {B z:Nat} (k:W.ownsRow B e z (.slice h.a h.n h.c) xs.length (xs.flatMap enc)):aJ W enc xs h:=by
 obtain⟨h1,h2,h3,h4⟩:=nG k;exact⟨h1,by omega,h3,h4⟩
variable {l:Lw} {B:Nat} {f s p:Hd}
theorem LO.at (h:LO W B l ss ps f s p):dV W l ss ps f s p:=⟨iP h.f,iP h.s,iP h.p,h.sl,h.pl,fun x hx=>iP (h.qs x hx),fun x hx=>iP (h.qp x hx)⟩
theorem LO.dG (h:LO W B l ss ps f s p) (on:aF D W X) (hD:D<B):LO X B l ss ps f s p:=⟨jI h.f on hD,jI h.s on hD,jI h.p on hD,h.sl,h.pl,fun x hx=>jI (h.qs x hx) on hD,fun x hx=>jI (h.qp x hx) on hD⟩
theorem LO.below (h:LO W B l ss ps f s p) (hb:Below W.heap.size W X):LO X B l ss ps f s p:=⟨own_below h.f hb,own_below h.s hb,own_below h.p hb,h.sl,h.pl,fun x hx=>own_below (h.qs x hx) hb,fun x hx=>own_below (h.qp x hx) hb⟩
theorem LO.low {C:Nat} (h:LO W B l ss ps f s p) (hC:C<=B):LO W C l ss ps f s p:=⟨bW h.f hC,bW h.s hC,bW h.p hC,h.sl,h.pl,fun x hx=>bW (h.qs x hx) hC,fun x hx=>bW (h.qp x hx) hC⟩
theorem MZ.lo (h:MZ w0 W D M L N U fs ss ps (.slice f.a f.n f.c) (.slice s.a s.n s.c) (.slice p.a p.n p.c)):LO W (M+1) (zx fs ss ps) ss ps f s p:=⟨h.f,h.s,h.p,rfl,rfl,h.qs,h.qp⟩
end
def agi (l:Lw) (k:Nat) (p:Pv) (ns:List Nd):Lw:=⟨l.facts,l.aU,l.aH.set k {p with body:=ns}⟩
section
variable {l:Lw} {k:Nat} {ns:List Nd}
end
section
variable {W X:World} {B:Nat} {l:Lw} {ss:List (Sc × Hd)} {ps:List (Pv × Hd)} {f s p:Hd}
theorem LO.hd (h:LO W B l ss ps f s p) (hne:l.aH≠[]):∃g,p.a=some ⟨g,0,none⟩/\p.n=ps.length/\B<=g/\g<W.heap.size:=by
 have h0:ps≠[]:=fun e=>hne (by rw[<-h.pl,e];rfl)
 rcases h.p.2 with⟨_,h2⟩|⟨g,cap,cur,h1,_⟩
 ·exact absurd (List.length_eq_zero_iff.1 h2) h0
 ·injection h1 with h1 h2 h3;have:=h.p.lt g (by rw[h1];rfl);exact⟨g,h1,h2,this.1,this.2⟩
variable {g n c:Nat}
theorem LO.put (h:LO W B l ss ps f s ⟨some ⟨g,0,none⟩,n,c⟩) (k:Nat) (hk:k<ps.length) (z:Hd) (ns:List Nd) (hq:W.ownsRow B 49 5 (.slice z.a z.n z.c) ns.length (ns.flatMap Nd.cells)):
  LO (W.setCell ⟨g,k*12+4,none⟩ (.slice z.a z.n z.c)) B (agi l k ps[k].1 ns) ss (ps.set k ({ps[k].1 with body:=ns},z)) f s ⟨some ⟨g,0,none⟩,n,c⟩/\aF g W (W.setCell ⟨g,k*12+4,none⟩ (.slice z.a z.n z.c))/\
  ∀{b:Nat} {t:TypeId} {cs:List Value},aj W b t cs->t≠45->aj (W.setCell ⟨g,k*12+4,none⟩ (.slice z.a z.n z.c)) b t cs:=by
 have hn:n=ps.length:=(nG h.p).1;have hp:W.ownsRow B 45 12 (.slice (some ⟨g,0,none⟩) n c) n (ps.flatMap aA):=by have:=h.p;simp only at this;rw[hn];rw[hn] at this;exact this
 obtain⟨ow,on,tf⟩:=zy (enc:=aA) (m:=12) (fun _=>rfl) hp k hk ({ps[k].1 with body:=ns},z) 4 [.slice z.a z.n z.c] (by simp) rfl;refine⟨⟨tf.own h.f (by decide),tf.own h.s (by decide),by rw[List.length_set];rw[<-hn];exact ow,h.sl,?_,fun y hy=>tf.own (h.qs y hy) (by decide),fun y hy=>tf.own ((List.mem_or_eq_of_mem_set hy).elim (h.qp y) (fun e=>e ▸ hq)) (by decide)⟩,on,fun hb ht=>?_⟩
 ·show (ps.set k _).map Prod.fst=l.aH.set k _;rw[List.map_set,h.pl]
 ·exact tf.blk hb ht
theorem LO.pc (h:LO W B l ss ps f s ⟨some ⟨g,0,none⟩,n,c⟩) {j:Nat} (hj:j<ps.length):W.cell? ⟨g,j*12,none⟩=some (.string ps[j].1.name)/\W.cell? ⟨g,j*12+1,none⟩=some (.bool ps[j].1.ty.truth)/\W.cell? ⟨g,j*12+2,none⟩=some (.int .i64 ps[j].1.ty.aN)/\W.cell? ⟨g,j*12+3,none⟩=some (.int .i64 ps[j].1.ty.days)/\W.cell? ⟨g,j*12+4,none⟩=some (.slice ps[j].2.a ps[j].2.n ps[j].2.c)/\W.cell? ⟨g,j*12+5,none⟩=some (.bool ps[j].1.dS)/\
  W.cell? ⟨g,j*12+6,none⟩=some (.bool ps[j].1.step.neg)/\W.cell? ⟨g,j*12+7,none⟩=some (.string ps[j].1.step.num)/\W.cell? ⟨g,j*12+8,none⟩=some (.string ps[j].1.step.den)/\W.cell? ⟨g,j*12+9,none⟩=some (.bool ps[j].1.cap.neg)/\W.cell? ⟨g,j*12+10,none⟩=some (.string ps[j].1.cap.num)/\W.cell? ⟨g,j*12+11,none⟩=some (.string ps[j].1.cap.den):=rO h.p rfl hj
theorem LO.len (h:LO W B l ss ps f s p):ps.length=l.aH.length:=by rw[<-h.pl,List.length_map]
structure GS (w W:World) (B C:Nat) (l:Lw) (ss:List (Sc × Hd)) (ps:List (Pv × Hd)) (f s p:Hd):Prop where
 b:aj W C 28 [.slice f.a f.n f.c,.slice s.a s.n s.c,.slice p.a p.n p.c]
 o:LO W B l ss ps f s p
 on:Below w.heap.size w W
 hB:w.heap.size<=B
 hC:B<=C
variable {w:World} {C:Nat}
theorem GS.below (h:GS w W B C l ss ps f s p) (hb:Below W.heap.size W X):GS w X B C l ss ps f s p:=⟨h.b.below hb h.b.lt,h.o.below hb,ah h.on hb,h.hB,h.hC⟩
theorem GS.cells (h:GS w W B C l ss ps f s p):W.cell? ⟨C,0,none⟩=some (.slice f.a f.n f.c)/\W.cell? ⟨C,1,none⟩=some (.slice s.a s.n s.c)/\W.cell? ⟨C,2,none⟩=some (.slice p.a p.n p.c):=⟨h.b.cells 0,h.b.cells 1,h.b.cells 2⟩
theorem GS.at (h:GS w W B C l ss ps f s p):dV W l ss ps f s p:=h.o.at
theorem GS.afx (h:GS w W B C l ss ps f s p) (z:Hd) (xs:List Dc) (ho:W.ownsRow B 36 4 (.slice z.a z.n z.c) xs.length (xs.flatMap Dc.cells)):GS w (W.setCell ⟨C,0,none⟩ (.slice z.a z.n z.c)) B C ⟨xs,l.aU,l.aH⟩ ss ps z s p:=
 ⟨h.b.set 0 _,⟨aK h.b ho (by decide) 0 _,aK h.b h.o.s (by decide) 0 _,aK h.b h.o.p (by decide) 0 _,h.o.sl,h.o.pl,fun x hx=>aK h.b (h.o.qs x hx) (by decide) 0 _,fun x hx=>aK h.b (h.o.qp x hx) (by decide) 0 _⟩,h.on.setCell (p:=⟨C,0,none⟩) (Nat.le_trans h.hB h.hC) _,h.hB,h.hC⟩
theorem GS.afv (h:GS w W B C l ss ps f s p) (z:Hd) (xs:List (Sc × Hd)) (hx:∀x∈xs,x∈ss) (ho:W.ownsRow B 39 4 (.slice z.a z.n z.c) xs.length (xs.flatMap bK)):GS w (W.setCell ⟨C,1,none⟩ (.slice z.a z.n z.c)) B C ⟨l.facts,xs.map Prod.fst,l.aH⟩ xs ps f z p:=
 ⟨h.b.set 1 _,⟨aK h.b h.o.f (by decide) 1 _,aK h.b ho (by decide) 1 _,aK h.b h.o.p (by decide) 1 _,rfl,h.o.pl,fun x hx'=>aK h.b (h.o.qs x (hx x hx')) (by decide) 1 _,fun x hx=>aK h.b (h.o.qp x hx) (by decide) 1 _⟩,h.on.setCell (p:=⟨C,1,none⟩) (Nat.le_trans h.hB h.hC) _,h.hB,h.hC⟩
theorem GS.afy (h:GS w W B C l ss ps f s p) (z:Hd) (xs:List (Pv × Hd)) (hx:∀x∈xs,x∈ps) (ho:W.ownsRow B 45 12 (.slice z.a z.n z.c) xs.length (xs.flatMap aA)):GS w (W.setCell ⟨C,2,none⟩ (.slice z.a z.n z.c)) B C ⟨l.facts,l.aU,xs.map Prod.fst⟩ ss xs f s z:=
 ⟨h.b.set 2 _,⟨aK h.b h.o.f (by decide) 2 _,aK h.b h.o.s (by decide) 2 _,aK h.b ho (by decide) 2 _,h.o.sl,rfl,fun x hx=>aK h.b (h.o.qs x hx) (by decide) 2 _,fun x hx'=>aK h.b (h.o.qp x (hx x hx')) (by decide) 2 _⟩,h.on.setCell (p:=⟨C,2,none⟩) (Nat.le_trans h.hB h.hC) _,h.hB,h.hC⟩
theorem IR.lower {u v:Nat} {r:List Int × Hd} (h:IR W u r) (hv:u<=v):IR W v r:=⟨h.len,h.cap,h.max,h.rd,h.rng,fun hn ad e=>Nat.lt_of_lt_of_le (h.lt hn ad e) hv⟩
theorem IR.cut {u m:Nat} {r:List Int × Hd} (h:IR W u r) (hm:m<=r.2.n):IR W u (r.1.take m,⟨r.2.a,m,r.2.c⟩):=by
 have h1:=h.len;have h2:=h.cap;refine⟨by show m=(r.1.take m).length;rw[List.length_take];omega,by show m<=r.2.c;omega,h.max,?_,fun x hx=>h.rng x (List.mem_of_mem_take hx),fun hn ad e=>h.lt (fun e0=>hn (by show r.1.take m=[];rw[e0,List.take_nil])) ad e⟩;have:=h.rd.take m;unfold Me at this⊢;rw[List.map_take];exact this
end
def Yf:Pv × Hd:=(⟨⟨#[]⟩,⟨false,0,0⟩,false,⟨false,⟨#[]⟩,⟨#[]⟩⟩,⟨false,⟨#[]⟩,⟨#[]⟩⟩,[]⟩,⟨none,0,0⟩)
structure CW (w:World) (D u B:Nat) (y:Pv × Hd) (bs:List (Nat × Nd)) (W:World):Prop where
 d:DW w D u W
 b:aj W B 45 (aA y)
 r:aj W (B+1) 45 (aA Yf)
 hB:w.heap.size<=B
 nb:∀p∈bs,B+2<=p.1/\aj W p.1 49 p.2.cells
section
variable {w W X:World} {D u B:Nat} {y:Pv × Hd} {bs:List (Nat × Nd)}
theorem CW.dG (h:CW w D u B y bs W) (hd:DS X D u) (ho:aF D W X):CW w D u B y bs X:=by
 have h1:=h.d.hD;have h2:=h.hB;exact⟨h.d.dG hd ho,ho.blk h.b (by omega),ho.blk h.r (by omega),h.hB,fun p hp=>⟨(h.nb p hp).1,ho.blk (h.nb p hp).2 (by have:=(h.nb p hp).1;omega)⟩⟩
theorem CW.below (h:CW w D u B y bs W) (hb:Below W.heap.size W X):CW w D u B y bs X:=h.dG (h.d.ds.below hb) (aF.of_below hb)
theorem CW.next (h:CW w D u B y bs W) (q:Int) (h1:1<=q) (h2:q<=1000):Calls Tryz.prog 52 #[.pointer (some ⟨D,0,none⟩),.int .i64 q] W fun e X=>∃r:Nat,(r:Int)<q/\e=.returned (.int .i64 r)/\CW w D u B y bs X/\aF D W X:=
 (next_any W D u q h.d.ds h1 (by omega)).mono fun _ _ ⟨r,hr,he,hd,ho⟩=>⟨r,hr,he,h.dG hd ho,ho⟩
theorem CW.push (h:CW w D u B y bs W) (n:Nd):CW w D u B y ((W.heap.size,n)::bs) (W.alloc (.cells n.cells.toArray 49)):=by
 have k:=h.below (zB W (.cells n.cells.toArray 49))
 exact⟨k.d,k.b,k.r,k.hB,fun p hp=>by
  rcases List.mem_cons.1 hp with rfl|hp
  ·exact⟨h.r.lt,aj.new W _ _⟩
  ·exact k.nb p hp⟩
theorem CW.ab4 (h:CW w D u B y bs W) (n:Nd) (hX:W.alloc (.cells n.cells.toArray 49)=X):CW w D u B y ((W.heap.size,n)::bs) X:=hX ▸ h.push n
theorem CW.low (h:CW w D u B y bs W) (hb:Below (B+2) W X):CW w D u B y [] X:=
 ⟨h.d.low (hb.mono (by have:=h.hB;omega)),h.b.below hb (by omega),h.r.below hb (by omega),h.hB,fun _ hp=>(by cases hp)⟩
theorem CW.put {N:Nat} {n:Nd} (h:CW w D u B y ((N,n)::bs) W) (n':Nd) (hN:∀p∈bs,p.1≠N):CW w D u B y ((N,n')::bs) (((((W.setCell ⟨N,0,none⟩ (.int .i64 n'.op)).setCell ⟨N,1,none⟩ (.bool n'.num.neg)).setCell ⟨N,2,none⟩ (.string n'.num.num)).setCell ⟨N,3,none⟩ (.string n'.num.den)).setCell ⟨N,4,none⟩ (.string n'.name)):=by
 obtain⟨h1,h2⟩:=h.nb _ List.mem_cons_self;have on:aF N W (((((W.setCell ⟨N,0,none⟩ (.int .i64 n'.op)).setCell ⟨N,1,none⟩ (.bool n'.num.neg)).setCell ⟨N,2,none⟩ (.string n'.num.num)).setCell ⟨N,3,none⟩ (.string n'.num.den)).setCell ⟨N,4,none⟩ (.string n'.name)):=(((((aF.refl _ _).set 0 _).set 1 _).set 2 _).set 3 _).set 4 _;have k:=h.low (on.below h1 h.r.lt);refine⟨k.d,k.b,k.r,h.hB,fun p hp=>?_⟩;rcases List.mem_cons.1 hp with rfl|hp
 ·exact⟨h1,((((h2.set 0 _).set 1 _).set 2 _).set 3 _).set 4 _⟩
 ·exact⟨(h.nb p (List.mem_cons_of_mem _ hp)).1,on.blk (h.nb p (List.mem_cons_of_mem _ hp)).2 (hN p hp)⟩
theorem CW.set (h:CW w D u B y bs W) (i:Nat) (v:Value):DW w D u (W.setCell ⟨B,i,none⟩ v)/\aj (W.setCell ⟨B,i,none⟩ v) B 45 ((aA y).set i v)/\aj (W.setCell ⟨B,i,none⟩ v) (B+1) 45 (aA Yf):=by
 have hb:Below w.heap.size W (W.setCell ⟨B,i,none⟩ v):=(Below.refl _ _).setCell (p:=⟨B,i,none⟩) h.hB v;exact⟨h.d.low hb,h.b.set i v,h.r.other (by show B+1≠B;omega) v⟩
theorem CW.turn (h:CW w D u B y bs W) (on:aF B W X) (y':Pv × Hd) (hb:aj X B 45 (aA y')):CW w D u B y' [] X:=
 ⟨h.d.low (on.below h.hB (Nat.le_trans h.hB (Nat.le_of_lt h.b.lt))),hb,on.blk h.r (by omega),h.hB,fun _ hp=>(by cases hp)⟩
theorem CW.body (h:CW w D u B y bs W) (z:Hd) (ns:List Nd):CW w D u B ({y.1 with body:=ns},z) [] (W.setCell ⟨B,4,none⟩ (.slice z.a z.n z.c)):=h.turn ((aF.refl _ _).set 4 _) _ (h.b.set 4 _)
theorem CW.step (h:CW w D u B y bs W) (s:Ra):CW w D u B ({y.1 with step:=s},y.2) [] (((W.setCell ⟨B,6,none⟩ (.bool s.neg)).setCell ⟨B,7,none⟩ (.string s.num)).setCell ⟨B,8,none⟩ (.string s.den)):=h.turn ((((aF.refl _ _).set 6 _).set 7 _).set 8 _) _ (((h.b.set 6 _).set 7 _).set 8 _)
theorem CW.cap (h:CW w D u B y bs W) (s:Ra):CW w D u B ({y.1 with cap:=s},y.2) [] (((W.setCell ⟨B,9,none⟩ (.bool s.neg)).setCell ⟨B,10,none⟩ (.string s.num)).setCell ⟨B,11,none⟩ (.string s.den)):=h.turn ((((aF.refl _ _).set 9 _).set 10 _).set 11 _) _ (((h.b.set 9 _).set 10 _).set 11 _)
theorem CW.start {x:Pv × Hd} (hd:DS w D u) (hu:u<=w.heap.size) (hW:(w.alloc (.cells (aA x).toArray 45)).alloc (.cells (aA Yf).toArray 45)=W):CW w D u w.heap.size x [] W:=by
 obtain⟨k0,k1,k2,_⟩:=sU w 45 45 (aA x).toArray (aA Yf).toArray;rw[hW] at k0 k1 k2;exact⟨(⟨hd,aF.refl _ _,hd.lt,hu⟩:DW w D u w).below k2,k0,k1,Nat.le_refl _,fun _ hp=>(by cases hp)⟩
end
structure CQ (w:World) (D u B:Nat) (y:Pv × Hd) (W:World):Prop where
 c:CW w D u B y [] W
 q:W.ownsRow (B+2) 49 5 (.slice y.2.a y.2.n y.2.c) y.1.body.length (eP y.1.body)
section
variable {w W X:World} {D u B:Nat} {y:Pv × Hd}
theorem CQ.dG (h:CQ w D u B y W) (hd:DS X D u) (ho:aF D W X):CQ w D u B y X:=⟨h.c.dG hd ho,jI h.q ho (by have:=h.c.d.hD;have:=h.c.hB;omega)⟩
theorem CQ.below (h:CQ w D u B y W) (hb:Below W.heap.size W X):CQ w D u B y X:=h.dG (h.c.d.ds.below hb) (aF.of_below hb)
theorem CQ.next (h:CQ w D u B y W) (q:Int) (h1:1<=q) (h2:q<=1000):Calls Tryz.prog 52 #[.pointer (some ⟨D,0,none⟩),.int .i64 q] W fun e X=>∃r:Nat,(r:Int)<q/\e=.returned (.int .i64 r)/\CQ w D u B y X/\aF D W X:=
 (next_any W D u q h.c.d.ds h1 (by omega)).mono fun _ _ ⟨r,hr,he,hd,ho⟩=>⟨r,hr,he,h.dG hd ho,ho⟩
theorem CQ.step (h:CQ w D u B y W) (s:Ra):CQ w D u B ({y.1 with step:=s},y.2) (((W.setCell ⟨B,6,none⟩ (.bool s.neg)).setCell ⟨B,7,none⟩ (.string s.num)).setCell ⟨B,8,none⟩ (.string s.den)):=⟨h.c.step s,jI h.q ((((aF.refl _ _).set 6 _).set 7 _).set 8 _) (by omega)⟩
theorem CQ.cap (h:CQ w D u B y W) (s:Ra):CQ w D u B ({y.1 with cap:=s},y.2) (((W.setCell ⟨B,9,none⟩ (.bool s.neg)).setCell ⟨B,10,none⟩ (.string s.num)).setCell ⟨B,11,none⟩ (.string s.den)):=⟨h.c.cap s,jI h.q ((((aF.refl _ _).set 9 _).set 10 _).set 11 _) (by omega)⟩
end
structure Dl (sg:List Sg) (x y:Pv):Prop where
 n:y.name=x.name
 t:y.ty=x.ty
 c:y.dS=x.dS
 b:TE sg bT y.body
 l:y.body.length<=60
theorem Dl.step {sg:List Sg} {x y:Pv} (h:Dl sg x y) (s:Ra):Dl sg x {y with step:=s}:=⟨h.n,h.t,h.c,h.b,h.l⟩
theorem Dl.cap {sg:List Sg} {x y:Pv} (h:Dl sg x y) (s:Ra):Dl sg x {y with cap:=s}:=⟨h.n,h.t,h.c,h.b,h.l⟩
theorem ada {sg:List Sg} {n2:Nd} {q:Ra} {o:Int} {ot:ByteArray} (h2:TE sg bT [n2]) (hq:aV q=true) (ho:o=6∨o=8) (hot:dI ot=true) (hO:∀op:Int,op=6∨op=8->dP sg ⟨op,zR,ot⟩=some bT):TE sg bT [n2,⟨3,q,nE⟩,⟨o,zR,ot⟩,⟨11,zR,nE⟩,⟨9,zR,nE⟩]:=by
 have h3:TE sg bT ([[(⟨3,q,nE⟩:Nd)],[⟨o,zR,ot⟩]].flatten++[⟨11,zR,nE⟩]):=TE.two (TE.lit (by omega) hq rfl) (TE.dF (by omega) hot (hO o ho)) (vT (by omega)) rfl (lg rfl rfl);have h4:=TE.sum (op:=9) (.inl rfl) rfl h2 h3;exact h4
def agj (sg:List Sg) (D u:Nat) (x:Pv × Hd) (w:World) (e:Ending) (w':World):Prop:=∃y:Pv × Hd,e=.returned (.agg (aA y).toArray)/\Dl sg x.1 y.1/\Ak y.1.step y.1.cap=true/\w'.ownsRow w.heap.size 49 5 (.slice y.2.a y.2.n y.2.c) y.1.body.length (eP y.1.body)/\DS w' D u/\aF D w w'
theorem yK (sg:List Sg) (D u:Nat) (x:Pv × Hd) (ot:ByteArray) (w:World) (hd:DS w D u) (hu:u<=w.heap.size) (hot:dI ot=true) (hO:∀op:Int,op=6∨op=8->dP sg ⟨op,zR,ot⟩=some bT) (hW:dP sg ⟨5,zR,tJ⟩=some bT):
  Calls Tryz.prog 59 #[.pointer (some ⟨D,0,none⟩),.agg (aA x).toArray,.string ot] w (agj sg D u x w):=by
 have HT:Hid (∀(n2:Nd) (q:Ra) (o:Int),TE sg bT [n2]->aV q=true->o=6∨o=8->TE sg bT [n2,⟨3,q,nE⟩,⟨o,zR,ot⟩,⟨11,zR,nE⟩,⟨9,zR,nE⟩]):=fun _ _ _ h2 hq ho=>ada h2 hq ho hot hO
 have HW:Hid (TE sg bT [⟨5,zR,tJ⟩]):=TE.dF (by omega) (by decide) hW;clear hot hO hW;go_enter Tryz.func59,Tryz.ntmps59;unfold aA
 go_upto_region 1 with fail
 generalize hW:(w.alloc _).alloc _=W;have h:=CW.start hd hu hW;clear hW hd hu;generalize w.heap.size=B at h⊢;go_wp2_with fail;refine (h.next 3 (by omega) (by omega)).mono ?_;rintro e w1 ⟨r,hr,rfl,h',_⟩;clear h hr
 go_upto_if 12 with fail
 go_cut [7] from 12 to 12 (fun ov X=>(∃o:Int,ov=.int .i64 o/\Hid (o=6∨o=8))/\CW w D u B x [] X)
 case first=>
  go_wp2
  all_goals
   go_meet
   case rel=>exact⟨⟨_,rfl,by show _∨_;first|exact .inl rfl|exact .inr rfl⟩,h'⟩
 case rest=>
  clear h';obtain⟨⟨o,rfl,HO⟩,h⟩:=hcut;go_wp2_with fail;refine (h.next 4 (by omega) (by omega)).mono ?_;rintro e w1 ⟨r1,hr1,rfl,h',_⟩;clear h;go_wp2_with fail;refine (h'.next 3 (by omega) (by omega)).mono ?_;rintro e w2 ⟨r2,hr2,rfl,h,_⟩;clear h';go_wp2_with fail;refine (wfr _ _ w2 (by omega) (by omega) (by omega) (by omega)).mono ?_;rintro e w3 ⟨an,au,ad,rfl,hf1,hb⟩;replace h:=h.below hb;replace HT:Hid (∀n2:Nd,TE sg bT [n2]->TE sg bT [n2,⟨3,⟨an,au,ad⟩,nE⟩,⟨o,zR,ot⟩,⟨11,zR,nE⟩,⟨9,zR,nE⟩]):=fun n2 h2=>HT.out n2 _ o h2 hf1 HO.out
  clear hb hr1 hr2 hf1 HO
  go_upto_region 5 with fail
  generalize hX:w3.alloc _=X;have h':=h.ab4 ⟨3,⟨an,au,ad⟩,⟨#[]⟩⟩ hX;clear hX h;generalize w3.heap.size=N1 at h'⊢;go_wp2_with fail;refine (h'.next 40 (by omega) (by omega)).mono ?_;rintro e w4 ⟨r3,hr3,rfl,h,_⟩;clear h';go_wp2_with fail;refine (wfr _ _ w4 (by omega) (by omega) (by omega) (by omega)).mono ?_;rintro e w5 ⟨bn,bu,bd,rfl,hf2,hb⟩;replace h:=h.below hb;have HC:Hid (TE sg bT [⟨1,⟨bn,bu,bd⟩,nE⟩]):=TE.lit (by omega) hf2 rfl;clear hb hr3 hf2
  go_upto_region 6 with fail
  generalize hX:w5.alloc _=X2;have h':=h.ab4 ⟨1,⟨bn,bu,bd⟩,⟨#[]⟩⟩ hX;have hne:N1<w5.heap.size:=(h.nb _ List.mem_cons_self).2.lt;clear hX h;generalize w5.heap.size=N2 at h' hne⊢;go_wp2_with fail;refine (h'.next 2 (by omega) (by omega)).mono ?_;rintro e w6 ⟨r4,hr4,rfl,h,_⟩;clear h' hr4
  go_upto_if 27 with fail
  go_cut [] from 27 to 28 (fun X=>∃n2,Hid (TE sg bT [n2])/\CW w D u B x [(N2,n2),(N1,⟨3,⟨an,au,ad⟩,⟨#[]⟩⟩)] X)
  case first=>
   have c2:=(h.nb _ List.mem_cons_self).2.cells;have f2:=(h.nb _ List.mem_cons_self).2.aI;simp only[Nd.cells] at c2 f2;go_wp2
   ·go_meet
    case rel=>exact⟨_,HW,h.put ⟨5,⟨false,⟨#[]⟩,⟨#[]⟩⟩,⟨#[119,97,103,101]⟩⟩ (fun p hp=>by simp at hp;subst hp;show N1≠N2;omega)⟩
   ·go_meet
    case rel=>exact⟨_,HC,h⟩
  case rest=>
   clear h HC HW;obtain⟨⟨p2,⟨pn,pu,pd⟩,pm⟩,HN2,h⟩:=hcut;replace HT:=zH (HT.out _ HN2.out);clear HN2;have c2:=(h.nb _ List.mem_cons_self).2.cells;have c1:=(h.nb _ (List.mem_cons_of_mem _ List.mem_cons_self)).2.cells;have fB:=h.b.aI;have cB:=h.b.cells;have hBz:=h.b.lt;simp only[Nd.cells] at c1 c2;unfold aA at cB;clear hne
   go_upto_region 9 with fail
   have h':=h.body ⟨some ⟨wc.heap.size,0,none⟩,5,5⟩ [⟨p2,⟨pn,pu,pd⟩,pm⟩,⟨3,⟨an,au,ad⟩,nE⟩,⟨o,zR,ot⟩,⟨11,zR,nE⟩,⟨9,zR,nE⟩];have e5:(wc.setCell ⟨B,4,none⟩ (.slice (some ⟨wc.heap.size,0,none⟩) 5 5)).heap.size=wc.heap.size:=by simp[World.setCell]
   simp only at h';generalize wc.setCell ⟨B,4,none⟩ (.slice (some ⟨wc.heap.size,0,none⟩) 5 5)=Y at h' e5⊢;generalize hZ:Y.alloc _=Z;have ho:=aas hZ 5 5 (B+2) rfl (by omega) h'.r.lt;rw[e5] at ho;clear h c1 c2 cB fB hBz e5;have h:=h'.below (zA hZ).2;clear hZ h';generalize wc.heap.size=N at h ho⊢;obtain⟨ns,hns⟩:=zE ([⟨p2,⟨pn,pu,pd⟩,pm⟩,⟨3,⟨an,au,ad⟩,nE⟩,⟨o,zR,ot⟩,⟨11,zR,nE⟩,⟨9,zR,nE⟩]:List Nd);rw[<-hns] at h HT;have HQ:CQ w D u B ({x.1 with body:=ns},⟨some ⟨N,0,none⟩,5,5⟩) Z:=⟨h,by show World.ownsRow _ _ _ _ _ ns.length (eP ns);rw[hns];exact ho⟩
   have hl5:ns.length=5:=by rw[hns];rfl
   clear h ho hns;replace h:=HQ;clear HQ;go_wp2_with fail;refine (h.next 2 (by omega) (by omega)).mono ?_;rintro e w7 ⟨r5,hr5,rfl,h',_⟩;clear h hr5
   go_upto_if 40 with fail
   go_cut [] from 40 to 47 (fun X=>∃z ns,CQ w D u B ({x.1 with body:=ns},z) X/\Hid (TE sg bT ns/\ns.length<=60))
   case first=>
    go_wp2
    ·have ho:World.ownsRow _ (B+2) 49 5 (.slice (some ⟨N,0,none⟩) 5 5) 5 (eP ns):=hl5 ▸ h'.q;have h:=h'.c;clear h';have hc:=fun X (h:CW w D u B ({x.1 with body:=ns},⟨some ⟨N,0,none⟩,5,5⟩) [] X)=>show X.cell? ⟨B,4,none⟩=some (.slice (some ⟨N,0,none⟩) 5 5) from h.b.cells 4
     refine dN (CW w D u B ({x.1 with body:=ns},⟨some ⟨N,0,none⟩,5,5⟩) []) 7 (h.below (ak _ _ 1)) (fun w8 h8 h=>?_);replace ho:=own_below ho h8;refine aW ?_;refine aW ?_;refine cO 2 (lJ 1 4 w8 (by omega) (by omega) (by omega) (by omega)) ?_;rintro e w9 ⟨rfl,hb⟩;replace ho:=own_below ho hb;refine⟨_,rfl,h.below hb,fun h=>?_⟩
     have HD:Hid (TE sg bT (ns++[⟨21,iw 1 4,nE⟩])):=by
      have h9:=TE.dJ (op:=21) (by omega) (sW (by omega) (by omega) (by omega) (by omega)) (show 0<eH (iw 1 4) by decide+kernel) rfl HT.out;rw[List.flatten_cons,List.flatten_nil,List.append_nil] at h9;exact h9
     obtain⟨⟨cn,cu,cd⟩,hs⟩:=zF (iw 1 4);rw[hs] at HD⊢;clear hs;unfold Ra.v;refine aG 3 ?_;refine iy 4 (fun _=>h.below (zB _ _)) (fun _=>?_);refine y9 5 jZ Tryz.underlying40 ho (by omega) h.r.lt (fun v' w10 ho _ _ hb=>⟨h.low hb,fun h=>?_⟩);obtain⟨A1,c1,rfl,_⟩:=bY ho;have c:=h.b.cells 4;have f:=h.b.aI;refine aG 6 ?_;refine iL 7 (fun h=>absurd rfl h) (fun _=>?_);refine dH ?_;go_wp2
     go_meet
     case rel=>exact⟨⟨A1,6,c1⟩,ns++[⟨21,⟨cn,cu,cd⟩,nE⟩],⟨h.body ⟨A1,6,c1⟩ _,by show World.ownsRow _ _ _ _ _ (ns++_).length (eP (ns++_));rw[mQ,List.length_append,hl5];exact jI ho ((aF.refl _ _).set 4 _) (by omega)⟩,HD.out,by rw[List.length_append,hl5];show 5+1<=60;omega⟩
    ·go_meet
     case rel=>exact⟨_,_,h',HT.out,by omega⟩
   case rest=>
    clear h' HT hl5 ns;obtain⟨z,ns,h,HN⟩:=hcut;go_wp2_with fail;refine (lJ 1 1 wc (by omega) (by omega) (by omega) (by omega)).mono ?_;rintro e w1 ⟨rfl,hb⟩;obtain⟨⟨an,au,ad⟩,hs⟩:=zF (iw 1 1);rw[hs];have Sa:Hid ((⟨an,au,ad⟩:Ra)∈[iw 1 1,iw 1 2,iw 5 1]):=by show _∈_;rw[<-hs];simp
    have h':=h.below hb;clear hb h hs;go_wp2_with fail;refine (lJ 1 2 w1 (by omega) (by omega) (by omega) (by omega)).mono ?_;rintro e w2 ⟨rfl,hb⟩;obtain⟨⟨bn,bu,bd⟩,hs⟩:=zF (iw 1 2);rw[hs];have Sb:Hid ((⟨bn,bu,bd⟩:Ra)∈[iw 1 1,iw 1 2,iw 5 1]):=by show _∈_;rw[<-hs];simp
    have h:=h'.below hb;clear hb h' hs;go_wp2_with fail;refine (lJ 5 1 w2 (by omega) (by omega) (by omega) (by omega)).mono ?_;rintro e w3 ⟨rfl,hb⟩;obtain⟨⟨cn,cu,cd⟩,hs⟩:=zF (iw 5 1);rw[hs];have Sc:Hid ((⟨cn,cu,cd⟩:Ra)∈[iw 1 1,iw 1 2,iw 5 1]):=by show _∈_;rw[<-hs];simp
    have h':=h.below hb;clear hb h hs;unfold Ra.v;go_wp2_with fail;refine (h'.next 3 (by omega) (by omega)).mono ?_;rintro e w4 ⟨r,hr,rfl,h,_⟩;clear h'
    obtain⟨q,hsz,hq⟩:∃q:Ra,Hid (q∈[iw 1 1,iw 1 2,iw 5 1])/\∀W,Sem.run Tryz.prog (Instr.index 172 (.agg #[.bool an,.string au,.string ad,.bool bn,.string bu,.string bd,.bool cn,.string cu,.string cd]) (.int .i64 (r:Int))) W=Result.ok (.agg #[.bool q.neg,.string q.num,.string q.den]) W:=by
     rcases (by omega:r=0∨r=1∨r=2) with rfl|rfl|rfl
     ·exact⟨⟨an,au,ad⟩,Sa,fun _=>by kernel_rfl⟩
     ·exact⟨⟨bn,bu,bd⟩,Sb,fun _=>by kernel_rfl⟩
     ·exact⟨⟨cn,cu,cd⟩,Sc,fun _=>by kernel_rfl⟩
    have cB:=h.c.b.cells;have fB:=h.c.b.aI;unfold aA at cB;clear hr Sa Sb Sc
    go_upto_region 12 with fail
    obtain⟨y,hy⟩:=zE (({x.1 with body:=ns,step:=q},z):Pv × Hd);have h':CQ w D u B y _:=hy ▸ h.step q;have HG:Hid (Dl sg x.1 y.1):=by show Dl _ _ _;rw[hy];exact⟨rfl,rfl,rfl,HN.out.1,HN.out.2⟩
    replace hsz:Hid (y.1.step∈[iw 1 1,iw 1 2,iw 5 1]):=by show _∈_;rw[hy];exact hsz.out
    clear hy HN;generalize World.setCell _ ⟨B,8,none⟩ _=Y at h'⊢;clear h cB fB hq;have hc:=fun X (h:CQ w D u B y X)=>show X.cell? ⟨B,6,none⟩=some (.bool y.1.step.neg)/\X.cell? ⟨B,7,none⟩=some (.string y.1.step.num)/\X.cell? ⟨B,8,none⟩=some (.string y.1.step.den) from⟨h.c.b.cells 6,h.c.b.cells 7,h.c.b.cells 8⟩
    refine dN (CQ w D u B y) 8 (h'.below (ak _ _ 1)) (fun w5 _ h=>?_)
    iterate 3 refine aW ?_
    refine cO 3 (h.next 30 (by omega) (by omega)) ?_;rintro e w6 ⟨r,hr,rfl,h,_⟩;refine⟨_,rfl,h,fun h=>?_⟩;have hw:IntKind.i64.wrap (1+(r:Int))=1+(r:Int):=IntWalk.i64_in _ (by omega);refine aG 4 ?_;refine cO 5 (lZ (1+(r:Int)) w6 (by omega) (by omega)) ?_;rintro e w7 ⟨rfl,hb⟩;refine⟨_,rfl,h.below hb,fun h=>?_⟩;have Om:r<30:=by omega
    clear hw hb;refine cO 6 (aiy y.1.step hsz.out r Om w7) ?_;rintro e w8 ⟨p,rfl,hcap,hb⟩;have Yg:=zH hcap;clear hcap;refine⟨.agg #[.bool p.neg,.string p.num,.string p.den],rfl,h.below hb,fun h=>?_⟩;have cB:=h.c.b.cells;have fB:=h.c.b.aI;unfold aA at cB;clear hb Om hr hc;refine aG 7 ?_;refine iL 8 (fun h=>absurd rfl h) (fun _=>?_);refine dH ?_;obtain⟨y',hy⟩:=zE (({y.1 with cap:=p},y.2):Pv × Hd);have h':CQ w D u B y' _:=hy ▸ h.cap p;replace HG:Hid (Dl sg x.1 y'.1):=by show Dl _ _ _;rw[hy];exact HG.out.cap p
    replace Yg:Hid (Ak y'.1.step y'.1.cap=true):=by show _=_;rw[hy];exact Yg.out
    clear hy;generalize World.setCell _ ⟨B,11,none⟩ _=Y at h'⊢;clear h cB fB;have cB:=h'.c.b.cells;have cR:=h'.c.r.cells;have fR:=h'.c.r.aI;unfold aA at cB cR;unfold Yf at cR;have on:aF (B+1) Y ((((((((((((Y.setCell ⟨B+1,0,none⟩ (.string y'.1.name)).setCell ⟨B+1,1,none⟩ (.bool y'.1.ty.truth)).setCell ⟨B+1,2,none⟩ (.int .i64 y'.1.ty.aN)).setCell ⟨B+1,3,none⟩ (.int .i64 y'.1.ty.days)).setCell ⟨B+1,4,none⟩ (.slice y'.2.a y'.2.n y'.2.c)).setCell ⟨B+1,5,none⟩ (.bool y'.1.dS)).setCell ⟨B+1,6,none⟩ (.bool y'.1.step.neg)).setCell ⟨B+1,7,none⟩ (.string y'.1.step.num)).setCell ⟨B+1,8,none⟩ (.string y'.1.step.den)).setCell ⟨B+1,9,none⟩ (.bool y'.1.cap.neg)).setCell ⟨B+1,10,none⟩ (.string y'.1.cap.num)).setCell ⟨B+1,11,none⟩ (.string y'.1.cap.den)):=((((((((((((aF.refl _ _).set 0 _).set 1 _).set 2 _).set 3 _).set 4 _).set 5 _).set 6 _).set 7 _).set 8 _).set 9 _).set 10 _).set 11 _;have hl:=h'.c.d.low (on.below (Nat.le_succ_of_le h'.c.hB) (Nat.le_trans h'.c.hB (Nat.le_of_lt h'.c.b.lt)));have hq:=bW (jI h'.q on (by omega)) (Nat.le_succ_of_le (Nat.le_succ_of_le h'.c.hB));clear on;go_wp2;exact bodyPost_ret (v:=.agg (aA y').toArray) (by simp[results,Tryz.results59,go_sem,aA,cR]) rfl ⟨y',rfl,HG.out,Yg.out,hq,hl.ds,hl.on⟩
theorem Dh:(Tryz.prog.info? 36).map (fun i=>(i.zero,i.size,i.bytes))=some (some (.agg #[.string ⟨#[]⟩,.bool false,.int .i64 0,.int .i64 0]),4,40):=by kernel_rfl
theorem XY (w0 w:World) (R g c:Nat) (l:Lw) (ss:List (Sc × Hd)) (ps:List (Pv × Hd)) (fv sv pv:Value) (nm s rest:ByteArray) (t:Ty) (h:PT w0 w R l ss ps fv sv pv) (hL:cZ w) (ht:mD t=true) (hs:s=bU t) (hn:l.facts.length<=1000) (hg:∃cs,aj w g 9 cs/\cs[1]?=some (.string nm)/\cs[2]?=some (.string s)):
  Calls Tryz.prog 132 #[.pointer (some ⟨R,0,none⟩),.slice (some ⟨g,1,none⟩) 2 c,.string rest] w fun e w'=>e=.returned (.tuple #[])/\(∃v',PT w0 w' R ⟨l.facts++[⟨nm,t⟩],l.aU,l.aH⟩ ss ps v' sv pv)/\FR R w w':=by
 obtain⟨cs,hg0,hg1,hg2⟩:=hg;have HT:=zH (fun W (hb:Below w.heap.size w W)=>hs ▸ yJ t W (hL.below hb) ht);have vG:=zH h;have lI:Hid (∀W,Below w.heap.size w W->W.cell? ⟨g,1,none⟩=some (.string nm)/\W.cell? ⟨g,2,none⟩=some (.string s)):=fun W hb=>⟨((hg0.below hb hg0.lt).cells 1).trans hg1,((hg0.below hb hg0.lt).cells 2).trans hg2⟩
 have Hu:Hid (∀W W',Below w.heap.size w W->TF 36 W W'->W'.cell? ⟨g,1,none⟩=some (.string nm)/\W'.cell? ⟨g,2,none⟩=some (.string s)):=fun W W' hb ht=>⟨((ht.blk (hg0.below hb hg0.lt) (by decide)).cells 1).trans hg1,((ht.blk (hg0.below hb hg0.lt) (by decide)).cells 2).trans hg2⟩
 have HM:=zH (tu w)
 have Rf:Hid (R≠g):=by
  rintro rfl;have e1:(Obj.cells _ _ _:Obj)=Obj.cells _ _ _:=Option.some.inj (h.blk.symm.trans hg0);injection e1 with _ e2 _;exact absurd e2 (by decide)
 obtain⟨tt,tm,td⟩:=t;unfold Ty.v at HT;simp only at HT;clear h hL ht hs hg0 hg1 hg2;go_enter Tryz.func132,Tryz.ntmps132;go_wp2_with fail;refine HM.out.mono ?_;rintro e w1 ⟨rfl,hw1⟩;have hw2:=hw1.symm;clear hw1;subst hw2
 go_upto_region 1 with fail
 refine wp_region_noPanic ?_;refine wp_region_held_drew (S:=(fun w'=>w'.cell? ⟨g,1,none⟩=some (.string nm)/\w'.cell? ⟨g,2,none⟩=some (.string s))) (by kernel_rfl) (lI.out _ (Below.drew (Below.refl _ w))) (fun hHeld=>?_);refine aP 0 ?_;refine aP 1 ?_;refine aP 2 ?_;refine aP 3 ?_;refine aP 5 ?_;refine aP 6 ?_;refine aP 8 ?_;refine aP 9 ?_;refine aP 10 ?_;refine aP 7 ?_;refine RJ 4 11 (fun K hK=>?_) fun K hK=>?_
 ·have hc4:(w).cell? ⟨R,0,none⟩=some fv:=(vG.out.blk.cells 0)
  go_simp;go_wp2_with fail;refine gI hK (lI.out _ (ak w.heap.size w 1)) fun hHeld=>?_
  clear hK K;refine iV 11 fun K hK=>?_
  go_simp;refine (HT.out _ (ak w.heap.size w 1)).mono ?_;rintro e w10 ⟨rfl,jO⟩;have jW:=zH (ah (ak w.heap.size w 1) jO);go_wp2_with fail;refine gI hK (lI.out _ jW.out) fun hHeld=>?_
  clear hK K;refine aP 12 ?_;refine iV 13 fun K hK=>?_
  go_simp;go_wp2_with fail;refine gI hK (lI.out _ (jW.out.alloc jW.out.size _)) fun hHeld=>?_
  clear hK K;refine iV 14 fun K hK=>?_
  have HP:=zH (vG.out.below jW.out);refine rE w10 #[.string nm,.bool tt,.int .i64 tm,.int .i64 td] (by rfl) _ _ 24 (by rfl) (R+1) 36 (.agg #[.string ⟨#[]⟩,.bool false,.int .i64 0,.int .i64 0]) 4 40 1 Tryz.underlying24 Dh rfl (by decide) fv l.facts.length (l.facts.flatMap Dc.cells) (by rfl) HP.out.f (by rfl) rfl ?_ ?_ ?_ ?_ ?_
  any_goals first|(unfold maxLen;omega)|omega
  ·intro u hu;simp only[List.mem_cons,List.not_mem_nil,or_false] at hu;rcases hu with rfl|rfl|rfl|rfl<;>rfl
  ·have h1:=HP.out.bl.size;have h2:=HP.out.blk.lt;omega
  intro v' Kz hown hgr _;obtain⟨Av,cv,rfl,_⟩:=bY hown;have HQ:=zH (HP.out.DU ⟨nm,⟨tt,tm,td⟩⟩ hown hgr);have HK:=zH ((TF.grown HP.out.f hgr).blk HP.out.blk (by decide));have HG2:Hid (Kz.cell? ⟨g,1,none⟩=some (.string nm)/\Kz.cell? ⟨g,2,none⟩=some (.string s)):=Hu.out _ _ jW.out (TF.grown HP.out.f hgr);have rG:Hid (FR R w _):=FR.grown (i:=0) (u:=.slice Av (l.facts.length+1) cv) jW.out HP.out.f (.inl rfl) hgr;clear hown hgr;refine gI hK (HG2.out) fun hHeld=>?_
  clear hK K;refine aP 15 ?_;refine aP 16 ?_;refine iV 17 fun K hK=>?_
  have hkc:=HK.out.cells;have pq:=HK.out.aI;go_simp;go_wp2_with fail;refine gI hK (⟨by rw[World.cell?_setCell_other _ _ _ _ (by simp[Rf.out])];exact HG2.out.1,by rw[World.cell?_setCell_other _ _ _ _ (by simp[Rf.out])];exact HG2.out.2⟩) fun hHeld=>?_
  clear hK K;refine wpAnyH_done (by kernel_rfl) ?_ _;refine NoPanic.normal ?_;go_wp2;go_end0;exact⟨rfl,⟨_,HQ.out⟩,rG.out⟩
 ·go_simp;refine (HT.out _ (ak w.heap.size w 1)).mono ?_;rintro e w10 ⟨rfl,jO⟩;have jW:=zH (ah (ak w.heap.size w 1) jO);go_wp2_with fail;refine gI hK (lI.out _ jW.out) fun hHeld=>?_
  clear hK K;refine aP 12 ?_;refine RJ 4 13 (fun K hK=>?_) fun K hK=>?_
  ·have hc4:(w10).cell? ⟨R,0,none⟩=some fv:=((vG.out.below jW.out).blk.cells 0)
   go_simp;go_wp2_with fail;refine gI hK (lI.out _ jW.out) fun hHeld=>?_
   clear hK K;refine iV 13 fun K hK=>?_
   go_simp;go_wp2_with fail;refine gI hK (lI.out _ (jW.out.alloc jW.out.size _)) fun hHeld=>?_
   clear hK K;refine iV 14 fun K hK=>?_
   have HP:=zH (vG.out.below jW.out);refine rE w10 #[.string nm,.bool tt,.int .i64 tm,.int .i64 td] (by rfl) _ _ 24 (by rfl) (R+1) 36 (.agg #[.string ⟨#[]⟩,.bool false,.int .i64 0,.int .i64 0]) 4 40 1 Tryz.underlying24 Dh rfl (by decide) fv l.facts.length (l.facts.flatMap Dc.cells) (by rfl) HP.out.f (by rfl) rfl ?_ ?_ ?_ ?_ ?_
   any_goals first|(unfold maxLen;omega)|omega
   ·intro u hu;simp only[List.mem_cons,List.not_mem_nil,or_false] at hu;rcases hu with rfl|rfl|rfl|rfl<;>rfl
   ·have h1:=HP.out.bl.size;have h2:=HP.out.blk.lt;omega
   intro v' Kz hown hgr _;obtain⟨Av,cv,rfl,_⟩:=bY hown;have HQ:=zH (HP.out.DU ⟨nm,⟨tt,tm,td⟩⟩ hown hgr);have HK:=zH ((TF.grown HP.out.f hgr).blk HP.out.blk (by decide));have HG2:Hid (Kz.cell? ⟨g,1,none⟩=some (.string nm)/\Kz.cell? ⟨g,2,none⟩=some (.string s)):=Hu.out _ _ jW.out (TF.grown HP.out.f hgr);have rG:Hid (FR R w _):=FR.grown (i:=0) (u:=.slice Av (l.facts.length+1) cv) jW.out HP.out.f (.inl rfl) hgr;clear hown hgr;refine gI hK (HG2.out) fun hHeld=>?_
   clear hK K;refine aP 15 ?_;refine aP 16 ?_;refine iV 17 fun K hK=>?_
   have hkc:=HK.out.cells;have pq:=HK.out.aI;go_simp;go_wp2_with fail;refine gI hK (⟨by rw[World.cell?_setCell_other _ _ _ _ (by simp[Rf.out])];exact HG2.out.1,by rw[World.cell?_setCell_other _ _ _ _ (by simp[Rf.out])];exact HG2.out.2⟩) fun hHeld=>?_
   clear hK K;refine wpAnyH_done (by kernel_rfl) ?_ _;refine NoPanic.normal ?_;go_wp2;go_end0;exact⟨rfl,⟨_,HQ.out⟩,rG.out⟩
  ·go_simp;go_wp2_with fail;refine gI hK (lI.out _ (jW.out.alloc jW.out.size _)) fun hHeld=>?_
   clear hK K;refine iV 4 fun K hK=>?_
   have hc4:(w10.alloc (.cells #[.string nm,.bool tt,.int .i64 tm,.int .i64 td] 36)).cell? ⟨R,0,none⟩=some fv:=((vG.out.below (jW.out.alloc jW.out.size (.cells #[.string nm,.bool tt,.int .i64 tm,.int .i64 td] 36))).blk.cells 0)
   go_simp;go_wp2_with fail;refine gI hK (lI.out _ (jW.out.alloc jW.out.size _)) fun hHeld=>?_
   clear hK K;refine iV 14 fun K hK=>?_
   have HP:=zH (vG.out.below jW.out);refine rE w10 #[.string nm,.bool tt,.int .i64 tm,.int .i64 td] (by rfl) _ _ 24 (by rfl) (R+1) 36 (.agg #[.string ⟨#[]⟩,.bool false,.int .i64 0,.int .i64 0]) 4 40 1 Tryz.underlying24 Dh rfl (by decide) fv l.facts.length (l.facts.flatMap Dc.cells) (by rfl) HP.out.f (by rfl) rfl ?_ ?_ ?_ ?_ ?_
   any_goals first|(unfold maxLen;omega)|omega
   ·intro u hu;simp only[List.mem_cons,List.not_mem_nil,or_false] at hu;rcases hu with rfl|rfl|rfl|rfl<;>rfl
   ·have h1:=HP.out.bl.size;have h2:=HP.out.blk.lt;omega
   intro v' Kz hown hgr _;obtain⟨Av,cv,rfl,_⟩:=bY hown;have HQ:=zH (HP.out.DU ⟨nm,⟨tt,tm,td⟩⟩ hown hgr);have HK:=zH ((TF.grown HP.out.f hgr).blk HP.out.blk (by decide));have HG2:Hid (Kz.cell? ⟨g,1,none⟩=some (.string nm)/\Kz.cell? ⟨g,2,none⟩=some (.string s)):=Hu.out _ _ jW.out (TF.grown HP.out.f hgr);have rG:Hid (FR R w _):=FR.grown (i:=0) (u:=.slice Av (l.facts.length+1) cv) jW.out HP.out.f (.inl rfl) hgr;clear hown hgr;refine gI hK (HG2.out) fun hHeld=>?_
   clear hK K;refine aP 15 ?_;refine aP 16 ?_;refine iV 17 fun K hK=>?_
   have hkc:=HK.out.cells;have pq:=HK.out.aI;go_simp;go_wp2_with fail;refine gI hK (⟨by rw[World.cell?_setCell_other _ _ _ _ (by simp[Rf.out])];exact HG2.out.1,by rw[World.cell?_setCell_other _ _ _ _ (by simp[Rf.out])];exact HG2.out.2⟩) fun hHeld=>?_
   clear hK K;refine wpAnyH_done (by kernel_rfl) ?_ _;refine NoPanic.normal ?_;go_wp2;go_end0;exact⟨rfl,⟨_,HQ.out⟩,rG.out⟩
def SV (w0:World) (R:Nat) (fv sv pv:Value) (X:World):Prop:=aj X R 28 [fv,sv,pv]/\Below w0.heap.size w0 X
section
variable {w0 X X':World} {R:Nat} {l:Lw} {ss:List (Sc × Hd)} {ps:List (Pv × Hd)} {fv sv pv v:Value} {e:TypeId} {s n:Nat} {xs:List Value}
theorem PT.svd (h:PT w0 X R l ss ps fv sv pv):SV w0 R fv sv pv X.drew:=⟨h.blk.drew,h.bl.drew⟩
theorem PT.hR (h:PT w0 X R l ss ps fv sv pv):R+1<=X.heap.size:=h.blk.lt
theorem PT.grow (h:PT w0 X R l ss ps fv sv pv) (ho:X.ownsRow (R+1) e s v n xs) (he:28≠e) (hg:X.grownBy X' v.ownBlock):SV w0 R fv sv pv X':=
 ⟨(TF.grown ho hg).blk h.blk he,h.bl.grown hg h.bl.size (fun k hk=>by have h1:=(ho.lt k hk).1;have h2:=h.r;omega)⟩
end
theorem SV.alloc {w0 X:World} {R:Nat} {fv sv pv:Value} (h:SV w0 R fv sv pv X) (o:Obj):SV w0 R fv sv pv (X.alloc o):=⟨h.1.alloc o,h.2.alloc h.2.size o⟩
structure IS (W X:World) (t:TypeId) (cs:List Value) (e:TypeId) (s:Nat) (v:Value) (n:Nat) (xs:List Value):Prop where
 bl:Below W.heap.size W X
 b:aj X W.heap.size t cs
 o:X.ownsRow (W.heap.size+1) e s v n xs
section
variable {W X X':World} {t:TypeId} {cs:List Value} {e:TypeId} {s n:Nat} {v v':Value} {xs ys:List Value}
theorem IS.below (h:IS W X t cs e s v n xs) (hb:Below X.heap.size X X'):IS W X' t cs e s v n xs:=⟨ah h.bl hb,h.b.below hb h.b.lt,own_below h.o hb⟩
theorem IS.hW (h:IS W X t cs e s v n xs):W.heap.size+1<=X.heap.size:=h.b.lt
theorem IS.blk (h:IS W X t cs e s v n xs) (he:t≠e) (hg:X.grownBy X' v.ownBlock):aj X' W.heap.size t cs:=(TF.grown h.o hg).blk h.b he
theorem IS.blg (h:IS W X t cs e s v n xs) (hg:X.grownBy X' v.ownBlock):Below W.heap.size W X':=h.bl.grown hg h.bl.size (fun k hk=>by have h1:=(h.o.lt k hk).1;omega)
theorem IS.push (h:IS W X t cs e s v n xs) (he:t≠e) (hg:X.grownBy X' v.ownBlock) (ho:X'.ownsRow (W.heap.size+1) e s v' (n+1) ys) (i:Nat):IS W (X'.setCell ⟨W.heap.size,i,none⟩ v') t (cs.set i v') e s v' (n+1) ys:=
 ⟨(h.blg hg).setCell (p:=⟨W.heap.size,i,none⟩) (Nat.le_refl _) _,(h.blk he hg).set i v',eX ho i v'⟩
theorem IS.put (h:IS W X t cs e s v n xs) (i:Nat) (u:Value):IS W (X.setCell ⟨W.heap.size,i,none⟩ u) t (cs.set i u) e s v n xs:=
 ⟨h.bl.setCell (p:=⟨W.heap.size,i,none⟩) (Nat.le_refl _) _,h.b.set i u,eX h.o i u⟩
end
theorem X8 {w w':World} {b:Nat} {t:TypeId} {cs:List Value} {v:Option Nat} (hb:aj w b t cs) (hg:w.grownBy w' v) (hl:∀k,v=some k->k<b):aj w' b t cs:=hb.of_block (hg.block b hb.lt (fun e=>Nat.lt_irrefl _ (hl b e.symm)))
end Go.Proofs.YtimokmplkpbmdaaGreatDoor
