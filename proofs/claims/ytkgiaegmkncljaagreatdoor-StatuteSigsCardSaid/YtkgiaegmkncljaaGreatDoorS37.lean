/- A part of the proof: Qe Qf Qg We Qh Wb. -/
import Derived.Test.YtkgiaegmkncljaaGreatDoorS01
import Derived.Test.YtkgiaegmkncljaaGreatDoorS30
import Derived.Test.YtkgiaegmkncljaaGreatDoorS32
import Derived.Test.YtkgiaegmkncljaaGreatDoorS33
import Derived.Test.YtkgiaegmkncljaaGreatDoorS34
import Derived.Test.YtkgiaegmkncljaaGreatDoorS35
import Derived.Test.YtkgiaegmkncljaaGreatDoorS36
set_option linter.unusedVariables false
set_option linter.unusedSimpArgs false
set_option maxRecDepth 100000
set_option maxHeartbeats 40000000
namespace Go.Proofs.YtkgiaegmkncljaaGreatDoor
open Go.RowKit
def nF:List ByteArray:=[⟨#[97,103,101]⟩,⟨#[114,101,110,116]⟩,⟨#[119,97,103,101]⟩]
def nS:List ByteArray:=[⟨#[98,97,115,105,99]⟩,⟨#[101,120,116,114,97]⟩]
def six:List ByteArray:=[⟨#[98,97,115,101]⟩,⟨#[99,114,101,100,105,116]⟩,⟨#[114,101,108,105,101,102]⟩,⟨#[116,97,120]⟩,⟨#[116,104,114,101,115,104,111,108,100]⟩,⟨#[116,111,116,97,108]⟩]
theorem six_nodup:six.Nodup:=by decide
theorem all_nodup:(nF++(nS++six)).Nodup:=by decide
theorem all_ok:∀s∈nF++(nS++six),nameOk s=true:=by decide
theorem all_sort:nF.Pairwise (fun a b=>Op.bytesLess a.toList b.toList=true)∧nS.Pairwise (fun a b=>Op.bytesLess a.toList b.toList=true)∧six.Pairwise (fun a b=>Op.bytesLess a.toList b.toList=true):=by decide+kernel
theorem sorted_of {l:List ByteArray} (h:l.Pairwise (fun a b=>Op.bytesLess a.toList b.toList=true)):sortedB l=true:=
 (sortedB_iff l).2 fun k hk=>List.pairwise_iff_getElem.1 h k (k+1) (by omega) hk (by omega)
theorem cnt_nodup {l:List ByteArray} (h:l.Nodup) (s:ByteArray):cntN s l≤1:=by
 induction l with
 |nil=>exact Nat.zero_le _
 |cons a l ih=>
  obtain⟨h1,h2⟩:=List.nodup_cons.1 h;show cntN s ([a]++l)≤1;rw[cntN_append,cntN_one];by_cases e:a=s
  ·have h0:cntN s l=0:=by
    rcases Nat.eq_zero_or_pos (cntN s l) with h0|h0
    ·exact h0
    ·exact absurd (e ▸ cntN_mem h0) h1
   rw[if_pos e,h0];decide
  ·rw[if_neg e];have:=ih h2;omega
structure NmG (l:Lw):Prop where
 f:(l.facts.map Dc.name).Sublist nF
 s:(l.schs.map Sc.name).Sublist nS
 p:(l.provs.map Pv.name).Sublist six
 tf:∀d∈l.facts,rightB d.ty=true
 ts:∀s∈l.schs,s.money=1∧s.days=0
 tp:∀p∈l.provs,p.ty=tCash∨p.ty=tTruth
 b:∀s∈l.schs,rateE s.brs=0
section
variable {l:Lw}
theorem NmG.all (h:NmG l):((nmsL l).flatten).Sublist (nF++(nS++six)):=by
 unfold nmsL;simp only[List.flatten_cons,List.flatten_nil,List.append_nil]
 exact h.f.append (h.s.append h.p)
theorem NmG.named (h:NmG l):namedL l=0:=by
 unfold namedL namedE;have hn:=all_nodup.sublist h.all;rw[if_pos (List.all_eq_true.2 fun s hs=>all_ok s (h.all.mem hs)),if_pos,if_neg]
 ·unfold dupB;simp only[List.any_eq_true,decide_eq_true_eq,not_exists,not_and]
  intro s _;have:=cnt_nodup hn s;omega
 ·unfold nmsL;simp only[List.all_cons,List.all_nil,Bool.and_true,Bool.and_eq_true]
  exact⟨sorted_of (all_sort.1.sublist h.f),sorted_of (all_sort.2.1.sublist h.s),sorted_of (all_sort.2.2.sublist h.p)⟩
theorem NmG.typed (h:NmG l):typedL l=true:=by
 unfold typedL;simp only[Bool.and_eq_true,List.all_eq_true]
 refine⟨h.tf,fun p hp=>?_,fun s hs=>?_⟩
 ·rcases h.tp p hp with e|e<;>rw[e]<;>decide
 ·rw[(h.ts s hs).1,(h.ts s hs).2];decide
theorem NmG.len (h:NmG l):l.facts.length≤3∧l.schs.length≤2∧l.provs.length≤6:=by
 have a:=h.f.length_le;have b:=h.s.length_le;have c:=h.p.length_le;simp only[List.length_map] at a b c;exact⟨a,b,c⟩
theorem first_zero:∀{l:List Int},(∀x∈l,x=0)→firstE l=0
 |[],_=>rfl
 |z::r,h=>by rw[firstE_cons,if_pos (h z (by simp))];exact first_zero fun x hx=>h x (by simp[hx])
theorem NmG.chk (h:NmG l):checkL l=firstE (l.provs.map (provE (sigsL l))):=by
 have hl:=h.len;unfold checkL;rw[if_neg (by omega),if_neg (by rw[h.named];simp),if_neg (by rw[h.typed];decide),if_neg];rw[first_zero]
 ·simp
 ·intro x hx;obtain⟨s,hs,rfl⟩:=List.mem_map.1 hx;exact h.b s hs
end
structure PvG (sg:List Sg) (p:Pv):Prop where
 b:TE sg p.ty p.body
 n:p.body.length≤60
 c:p.charge=true→p.ty=tCash
 s:(plainP p||cappedP p)=true
theorem PvG.zero {sg:List Sg} {p:Pv} (h:PvG sg p):provE sg p=0:=by
 have k:=h.b.type h.n;unfold provE;rw[k];simp only[ne_eq,not_true_eq_false,if_false]
 rw[if_neg];have hs:=h.s;intro hc;rcases Bool.or_eq_true _ _ ▸ hc with hc|hc
 ·rw[Bool.and_eq_true,decide_eq_true_eq] at hc;exact hc.2 (h.c hc.1)
 ·rw[Bool.and_eq_true,Bool.not_eq_true',Bool.not_eq_true'] at hc;rw[hc.1,hc.2] at hs;cases hs
theorem made_ok {l:Lw} (h:NmG l) (hp:∀p∈l.provs,PvG (sigsL l) p):checkL l=0:=by
 rw[h.chk];refine first_zero fun x hx=>?_
 obtain⟨p,hp',rfl⟩:=List.mem_map.1 hx;exact (hp p hp').zero
theorem ofN_mono {sg sg':List Sg} (h:∀n t,sigOf sg' n=some t→sigOf sg n=some t) {n:Nd} {l:List Ty} {t:Ty} (hn:ofN sg' n l=(t,0)):ofN sg n l=(t,0):=by
 unfold ofN ownT at hn⊢;by_cases hb:sigB n.op=true
 ·rw[if_pos hb] at hn⊢;cases hs:sigOf sg' n with
  |none=>rw[hs] at hn;simp at hn
  |some u=>rw[hs] at hn;rw[h n u hs];exact hn
 ·rw[if_neg hb] at hn⊢;exact hn
theorem tyS_mono {sg sg':List Sg} (h:∀n t,sigOf sg' n=some t→sigOf sg n=some t):∀(e:List Nd) (st st':List Ty),tyS sg' e st=some st'→tyS sg e st=some st'
 |[],st,st',hs=>hs
 |n::r,st,st',hs=>by
  rw[tyS] at hs⊢;split at hs
  ·next h0=>
   have k:=ofN_mono h (n:=n) (l:=(st.take (shp n.op).ops).reverse) (t:=(ofN sg' n (st.take (shp n.op).ops).reverse).1) (Prod.ext rfl h0);rw[k];exact tyS_mono h r _ _ hs
  ·cases hs
theorem TE.mono {sg sg':List Sg} (h:∀n t,sigOf sg' n=some t→sigOf sg n=some t) {t:Ty} {e:List Nd} (he:TE sg' t e):TE sg t e:=⟨he.c,fun st=>tyS_mono h e st _ (he.s st)⟩
def KeyD (sg:List Sg):Prop:=sg.Pairwise fun a b=>¬(a.op=b.op∧a.name=b.name)
theorem key_eq:∀{sg:List Sg},KeyD sg→∀{a b:Sg},a∈sg→b∈sg→a.op=b.op→a.name=b.name→a=b
 |[],_,a,_,h,_,_,_=>by cases h
 |x::r,hk,a,b,ha,hb,h1,h2=>by
  obtain⟨k1,k2⟩:=List.pairwise_cons.1 hk;rcases List.mem_cons.1 ha with ea|ha'
  ·rcases List.mem_cons.1 hb with eb|hb'
   ·rw[ea,eb]
   ·rw[ea] at h1 h2;exact absurd ⟨h1,h2⟩ (k1 b hb')
  ·rcases List.mem_cons.1 hb with eb|hb'
   ·rw[eb] at h1 h2;exact absurd ⟨h1.symm,h2.symm⟩ (k1 a ha')
   ·exact key_eq k2 ha' hb' h1 h2
theorem fit_key {n:Nd} {s:Sg} (h:sigFit n s=true):s.op=n.op∧s.name=n.name:=by
 unfold sigFit at h;simp only[Bool.and_eq_true,decide_eq_true_eq] at h;exact⟨h.1,h.2.1⟩
theorem sig_mem {sg:List Sg} (hk:KeyD sg) {n:Nd} {s:Sg} (hs:s∈sg) (hf:sigFit n s=true):sigOf sg n=some s.ty:=by
 unfold sigOf;cases hq:sg.find? (sigFit n) with
 |none=>exact absurd hf (by simpa using List.find?_eq_none.1 hq s hs)
 |some x=>
  have k1:=fit_key (List.find?_some hq);have k2:=fit_key hf;rw[key_eq hk (List.mem_of_find?_eq_some hq) hs (k1.1.trans k2.1.symm) (k1.2.trans k2.2.symm)];rfl
theorem sig_some {sg:List Sg} {n:Nd} {t:Ty} (h:sigOf sg n=some t):∃s∈sg,sigFit n s=true∧s.ty=t:=by
 unfold sigOf at h;cases hq:sg.find? (sigFit n) with
 |none=>rw[hq] at h;cases h
 |some x=>rw[hq] at h;exact⟨x,List.mem_of_find?_eq_some hq,List.find?_some hq,Option.some.inj h⟩
theorem sig_sub {sg sg':List Sg} (hk:KeyD sg) (hs:sg'.Sublist sg) (n:Nd) (t:Ty) (h:sigOf sg' n=some t):sigOf sg n=some t:=by
 obtain⟨s,h1,h2,rfl⟩:=sig_some h;exact sig_mem hk (hs.mem h1) h2
theorem key_app {a b:List Sg} (ha:KeyD a) (hb:KeyD b) (h:∀x∈a,∀y∈b,x.op≠y.op):KeyD (a++b):=
 List.pairwise_append.2 ⟨ha,hb,fun x hx y hy e=>h x hx y hy e.1⟩
theorem key_map {α:Type} (f:α→Sg) (g:α→ByteArray) (hg:∀a,(f a).name=g a) {xs:List α} (h:(xs.map g).Nodup):KeyD (xs.map f):=by
 unfold KeyD;rw[List.pairwise_map];refine (List.pairwise_map.1 h).imp ?_;intro a b hab e;rw[hg,hg] at e;exact hab e.2
theorem NmG.key {l:Lw} (h:NmG l):KeyD (sigsL l):=by
 have hn:=all_nodup;have n1:(l.facts.map Dc.name).Nodup:=(hn.sublist (List.sublist_append_left _ _)).sublist h.f;have n2:(l.schs.map Sc.name).Nodup:=(hn.sublist ((List.sublist_append_left _ _).trans (List.sublist_append_right _ _))).sublist h.s;have n3:(l.provs.map Pv.name).Nodup:=six_nodup.sublist h.p;unfold sigsL;refine key_app (key_map fSig Dc.name (fun _=>rfl) n1) (key_app (key_map (pSig 6) Pv.name (fun _=>rfl) n3) (key_app (key_map (pSig 7) Pv.name (fun _=>rfl) n3) (key_app (key_map (pSig 8) Pv.name (fun _=>rfl) n3) (key_map sSig Sc.name (fun _=>rfl) n2) ?_) ?_) ?_) ?_
 all_goals
  intro x hx y hy;obtain⟨a,_,rfl⟩:=List.mem_map.1 hx;simp only[List.mem_append,List.mem_map] at hy
 ·obtain⟨b,_,rfl⟩:=hy;show (8:Int)≠24;decide
 ·rcases hy with⟨b,_,rfl⟩|⟨b,_,rfl⟩
  ·show (7:Int)≠8;decide
  ·show (7:Int)≠24;decide
 ·rcases hy with⟨b,_,rfl⟩|⟨b,_,rfl⟩|⟨b,_,rfl⟩
  ·show (6:Int)≠7;decide
  ·show (6:Int)≠8;decide
  ·show (6:Int)≠24;decide
 ·rcases hy with⟨b,_,rfl⟩|⟨b,_,rfl⟩|⟨b,_,rfl⟩|⟨b,_,rfl⟩
  ·show (5:Int)≠6;decide
  ·show (5:Int)≠7;decide
  ·show (5:Int)≠8;decide
  ·show (5:Int)≠24;decide
theorem first_one:∀{l:List Int} {c:Int},c≠0→(∀x∈l,x=0∨x=c)→c∈l→firstE l=c
 |[],_,_,_,h=>by cases h
 |z::r,c,h0,h,hm=>by
  rw[firstE_cons];by_cases hz:z=0
  ·rw[if_pos hz];rcases List.mem_cons.1 hm with e|hm
   ·exact absurd (e.trans hz) h0
   ·exact first_one h0 (fun x hx=>h x (by simp[hx])) hm
  ·rw[if_neg hz];exact (h z (by simp)).resolve_left hz
theorem prov_type {sg:List Sg} {p:Pv} {t:Ty} (h:TE sg t p.body) (hn:p.body.length≤60) (ht:t≠p.ty):provE sg p=13:=by
 unfold provE;rw[h.type hn];simp[ht]
def lwP (fs:List Dc) (ss:List (Sc × Hd)) (ps:List (Pv × Hd)):Lw:=⟨fs,ss.map Prod.fst,ps.map Prod.fst⟩
def wage:ByteArray:=⟨#[119,97,103,101]⟩
def thr:ByteArray:=⟨#[116,104,114,101,115,104,111,108,100]⟩
structure FsG (fs:List Dc):Prop where
 n:(fs.map Dc.name).Sublist nF
 t:∀d∈fs,rightB d.ty=true
 w:(⟨wage,tCash⟩:Dc)∈fs
structure ScG (ss:List (Sc × Hd)):Prop where
 n:(ss.map fun x=>x.1.name).Sublist nS
 t:∀x∈ss,x.1.money=1∧x.1.days=0
 b:∀x∈ss,BrG x.1.brs
structure Pk (i:Nat) (ps:List (Pv × Hd)):Prop where
 nm:(ps.map fun x=>x.1.name).Sublist (six.take i)
 ty:∀x∈ps,x.1.ty=tCash∨(x.1.ty=tTruth∧x.1.name=thr)
 ch:∀x∈ps,x.1.charge=true→x.1.ty=tCash
 ne:4≤i→ps≠[]
section
variable {i:Nat} {fs:List Dc} {ss:List (Sc × Hd)} {ps:List (Pv × Hd)} {sg:List Sg}
theorem Pk.zero:Pk 0 []:=⟨List.nil_sublist _,fun _ h=>(by cases h),fun _ h=>(by cases h),fun h=>(by omega)⟩
theorem Pk.len (h:Pk i ps):ps.length≤6:=by
 have h1:=h.nm.length_le;rw[List.length_map,List.length_take] at h1;have:six.length=6:=rfl;omega
def PkX (x:Pv):Prop:=(x.ty=tCash∨(x.ty=tTruth∧x.name=thr))∧(x.charge=true→x.ty=tCash)
theorem Pk.push (h:Pk i ps) (hi:i<six.length) (x:Pv × Hd) (hn:x.1.name=six[i]) (ht:PkX x.1):Pk (i+1) (ps++[x]):=by
 refine⟨?_,fun y hy=>?_,fun y hy=>?_,fun _=>by simp⟩
 ·rw[List.map_append,List.take_succ_eq_append_getElem hi,List.map_cons,List.map_nil,hn];exact h.nm.append (List.Sublist.refl _)
 ·rcases List.mem_append.1 hy with hy|hy
  ·exact h.ty y hy
  ·rw[List.mem_singleton.1 hy];exact ht.1
 ·rcases List.mem_append.1 hy with hy|hy
  ·exact h.ch y hy
  ·rw[List.mem_singleton.1 hy];exact ht.2
theorem Pk.skip (h:Pk i ps) (hi:i<six.length) (h3:¬i=3):Pk (i+1) ps:=by
 refine⟨?_,h.ty,h.ch,fun h4=>h.ne (by omega)⟩;rw[List.take_succ_eq_append_getElem hi];exact h.nm.trans (List.sublist_append_left _ _)
theorem map_set_same {α β:Type} (f:α→β) (xs:List α) (k:Nat) (hk:k<xs.length) (x:α) (h:f x=f xs[k]):(xs.set k x).map f=xs.map f:=by
 apply List.ext_getElem?;intro j;rw[List.getElem?_map,List.getElem?_map,List.getElem?_set];by_cases hj:k=j
 ·subst hj;rw[if_pos rfl,if_pos hk,List.getElem?_eq_getElem hk,Option.map_some,Option.map_some,h]
 ·rw[if_neg hj]
def PvS (x y:Pv):Prop:=x.name=y.name∧x.ty=y.ty∧x.charge=y.charge
theorem Pk.set (h:Pk i ps) (k:Nat) (hk:k<ps.length) (x:Pv × Hd) (hx:PvS x.1 ps[k].1):Pk i (ps.set k x):=by
 refine⟨?_,fun y hy=>?_,fun y hy=>?_,fun h4 h0=>h.ne h4 (by simpa using congrArg List.length h0)⟩
 ·rw[map_set_same (fun x:Pv × Hd=>x.1.name) ps k hk x hx.1];exact h.nm
 ·rcases List.mem_or_eq_of_mem_set hy with hy|rfl
  ·exact h.ty y hy
  ·rw[hx.1,hx.2.1];exact h.ty _ (List.getElem_mem hk)
 ·rcases List.mem_or_eq_of_mem_set hy with hy|rfl
  ·exact h.ch y hy
  ·rw[hx.2.1,hx.2.2];exact h.ch _ (List.getElem_mem hk)
theorem sigs_set (k:Nat) (hk:k<ps.length) (x:Pv × Hd) (hx:PvS x.1 ps[k].1):sigsL (lwP fs ss (ps.set k x))=sigsL (lwP fs ss ps):=by
 have e:∀op,((ps.set k x).map Prod.fst).map (pSig op)=(ps.map Prod.fst).map (pSig op):=fun op=>by
  rw[List.map_map,List.map_map];exact map_set_same _ ps k hk x (by show pSig op x.1=pSig op ps[k].1;unfold pSig;rw[hx.1,hx.2.1])
 unfold sigsL lwP;rw[e,e,e]
theorem nmG (hf:FsG fs) (hs:ScG ss) (hp:Pk 6 ps):NmG (lwP fs ss ps):=by
 refine⟨hf.n,by show ((ss.map Prod.fst).map Sc.name).Sublist nS;rw[List.map_map];exact hs.n,by show ((ps.map Prod.fst).map Pv.name).Sublist six;rw[List.map_map];exact hp.nm,hf.t,fun s h=>?_,fun p h=>?_,fun s h=>?_⟩
 ·obtain⟨x,hx,rfl⟩:=List.mem_map.1 h;exact hs.t x hx
 ·obtain⟨x,hx,rfl⟩:=List.mem_map.1 h;exact (hp.ty x hx).imp id And.left
 ·obtain⟨x,hx,rfl⟩:=List.mem_map.1 h;exact (hs.b x hx).rate
theorem NmG.nok {l:Lw} (h:NmG l):∀s∈sigsL l,nameOk s.name=true:=by
 intro s hs;refine all_ok _ ?_;unfold sigsL at hs;simp only[List.mem_append,List.mem_map] at hs;rw[List.mem_append,List.mem_append];rcases hs with⟨d,hd,rfl⟩|⟨d,hd,rfl⟩|⟨d,hd,rfl⟩|⟨d,hd,rfl⟩|⟨d,hd,rfl⟩
 ·exact .inl (h.f.mem (List.mem_map.2 ⟨d,hd,rfl⟩))
 ·exact .inr (.inr (h.p.mem (List.mem_map.2 ⟨d,hd,rfl⟩)))
 ·exact .inr (.inr (h.p.mem (List.mem_map.2 ⟨d,hd,rfl⟩)))
 ·exact .inr (.inr (h.p.mem (List.mem_map.2 ⟨d,hd,rfl⟩)))
 ·exact .inr (.inl (h.s.mem (List.mem_map.2 ⟨d,hd,rfl⟩)))
theorem sig_prov {l:Lw} (h:NmG l) {p:Pv} (hp:p∈l.provs) {op:Int} (ho:op=6∨op=8):sigOf (sigsL l) ⟨op,zR,p.name⟩=some p.ty:=by
 refine sig_mem h.key (s:=pSig op p) ?_ ?_
 ·unfold sigsL;simp only[List.mem_append,List.mem_map]
  rcases ho with rfl|rfl
  ·exact .inr (.inl ⟨p,hp,rfl⟩)
  ·exact .inr (.inr (.inr (.inl ⟨p,hp,rfl⟩)))
 ·have hr:rightB p.ty=true:=by rcases h.tp p hp with e|e<;>rw[e]<;>decide
  unfold sigFit pSig;rw[hr];rcases ho with rfl|rfl<;>simp
theorem sig_fact {l:Lw} (h:NmG l) {d:Dc} (hd:d∈l.facts):sigOf (sigsL l) ⟨5,zR,d.name⟩=some d.ty:=by
 refine sig_mem h.key (s:=fSig d) ?_ ?_
 ·unfold sigsL;simp only[List.mem_append,List.mem_map]
  exact .inl ⟨d,hd,rfl⟩
 ·unfold sigFit fSig;rw[h.tf d hd];simp
structure PkJ (sg:List Sg) (fs:List Dc) (ss:List (Sc × Hd)) (ps:List (Pv × Hd)) (j:Nat):Prop where
 k:Pk 6 ps
 s:sigsL (lwP fs ss ps)=sg
 g:∀i (h:i<ps.length),i<j→PvG sg ps[i].1
 z:∀x∈ps,plainP x.1=true
structure PG (sg:List Sg) (fs:List Dc) (ss:List (Sc × Hd)) (ps:List (Pv × Hd)):Prop where
 k:Pk 6 ps
 s:sigsL (lwP fs ss ps)=sg
 g:∀x∈ps,PvG sg x.1
theorem PkJ.body {j:Nat} (h:PkJ sg fs ss ps j) (hj:j<ps.length) {ns:List Nd} (ht:TE sg ps[j].1.ty ns) (hl:ns.length≤60) (z:Hd):PkJ sg fs ss (ps.set j ({ps[j].1 with body:=ns},z)) (j+1):=by
 have hs:PvS ({ps[j].1 with body:=ns}:Pv) ps[j].1:=⟨rfl,rfl,rfl⟩
 refine⟨h.k.set j hj _ hs,(sigs_set j hj ({ps[j].1 with body:=ns},z) hs).trans h.s,fun i hi hij=>?_,fun x hx=>?_⟩
 ·rw[List.getElem_set];by_cases e:j=i
  ·rw[if_pos e];exact⟨ht,hl,h.k.ch ps[j] (List.getElem_mem hj),by have:=h.z _ (List.getElem_mem hj);show (plainP ps[j].1||_)=true;rw[this];rfl⟩
  ·rw[if_neg e];exact h.g i (by simpa using hi) (by omega)
 ·rcases List.mem_or_eq_of_mem_set hx with hx|rfl
  ·exact h.z x hx
  ·exact h.z ps[j] (List.getElem_mem hj)
theorem PkJ.all (h:PkJ sg fs ss ps ps.length):PG sg fs ss ps:=⟨h.k,h.s,fun x hx=>by obtain⟨i,hi,rfl⟩:=List.getElem_of_mem hx;exact h.g i hi hi⟩
theorem PG.set (h:PG sg fs ss ps) (k:Nat) (hk:k<ps.length) (x:Pv × Hd) (hx:PvS x.1 ps[k].1) (hg:PvG sg x.1):PG sg fs ss (ps.set k x):=
 ⟨h.k.set k hk x hx,(sigs_set k hk x hx).trans h.s,fun y hy=>by
   rcases List.mem_or_eq_of_mem_set hy with hy|rfl
   ·exact h.g y hy
   ·exact hg⟩
theorem cap_of {p:Pv} (h:capB p.step p.cap=true) (ht:p.ty=tCash):(plainP p||cappedP p)=true:=by
 have e:cappedP p=(!p.ty.truth&&capB p.step p.cap):=rfl;rw[e,h,ht,Bool.or_eq_true];exact .inr rfl
theorem PG.sig (hf:FsG fs) (hs:ScG ss) (h:PG sg fs ss ps) {i:Nat} {nm:ByteArray} (hi:(ps.map fun x=>x.1.name)[i]?=some nm) (hn:nm≠thr):∃hk:i<ps.length,ps[i].1.ty=tCash∧∀op:Int,op=6∨op=8→sigOf sg ⟨op,zR,nm⟩=some tCash:=by
 obtain⟨hk,e⟩:=List.getElem?_eq_some_iff.1 hi;rw[List.length_map] at hk;rw[List.getElem_map] at e;have ht:ps[i].1.ty=tCash:=(h.k.ty _ (List.getElem_mem hk)).resolve_right (fun h9=>hn (e.symm.trans h9.2));refine⟨hk,ht,fun op ho=>?_⟩;have h2:=sig_prov (nmG hf hs h.k) (p:=ps[i].1) (List.mem_map.2 ⟨_,List.getElem_mem hk,rfl⟩) ho;rw[h.s,e,ht] at h2;exact h2
theorem PG.wage (hf:FsG fs) (hs:ScG ss) (h:PG sg fs ss ps):sigOf sg ⟨5,zR,wage⟩=some tCash:=by
 have h2:=sig_fact (nmG hf hs h.k) hf.w;rw[h.s] at h2;exact h2
theorem fsG1:FsG [⟨⟨#[97,103,101]⟩,tPlain⟩,⟨wage,tCash⟩]:=⟨.cons_cons _ (.cons _ (.cons_cons _ .slnil)),by decide,by decide⟩
theorem fsG2:FsG [⟨⟨#[97,103,101]⟩,tPlain⟩,⟨⟨#[114,101,110,116]⟩,tCash⟩,⟨wage,tCash⟩]:=⟨List.Sublist.refl _,by decide,by decide⟩
theorem scG1 {l:List Bk} (h:BrG l) (z:Hd):ScG [(⟨⟨#[98,97,115,105,99]⟩,1,0,l⟩,z)]:=⟨.cons_cons _ (.cons _ .slnil),fun x hx=>by rw[List.mem_singleton.1 hx];exact⟨rfl,rfl⟩,fun x hx=>by rw[List.mem_singleton.1 hx];exact h⟩
theorem scG2 {l l2:List Bk} (h:BrG l) (h2:BrG l2) (z z2:Hd):ScG ([(⟨⟨#[98,97,115,105,99]⟩,1,0,l⟩,z)]++[(⟨⟨#[101,120,116,114,97]⟩,1,0,l2⟩,z2)]):=
 ⟨List.Sublist.refl _,fun x hx=>by
   rcases List.mem_append.1 hx with hx|hx<;>(rw[List.mem_singleton.1 hx];exact⟨rfl,rfl⟩),fun x hx=>by
   rcases List.mem_append.1 hx with hx|hx
   ·rw[List.mem_singleton.1 hx];exact h
   ·rw[List.mem_singleton.1 hx];exact h2⟩
theorem fits_fine {a:Ra} (h:fitsR a=true):FineR a:=by
 obtain⟨_,h1,h2⟩:=fits_size h;exact⟨by omega,by omega⟩
theorem fineW {n:Nd} (h:wrongN n=0):Fine n:=by
 have hn:=(wrongN_parts h).2.2.2.1;unfold numOk at hn;have k0:(ofI 0).num.size≤1048576∧(ofI 0).den.size≤1048576:=by decide+kernel
 have k1:(ofI 1).num.size≤1048576∧(ofI 1).den.size≤1048576:=by decide+kernel
 have k2:zR.num.size≤1048576∧zR.den.size≤1048576:=by decide+kernel
 unfold Fine;split at hn
 ·simp only[Bool.or_eq_true,decide_eq_true_eq] at hn;rcases hn with hn|hn<;>rw[hn]
  ·exact k0
  ·exact k1
 ·split at hn
  ·exact fits_fine hn
  ·split at hn
   ·simp only[Bool.and_eq_true] at hn;exact fits_fine hn.1
   ·rw[of_decide_eq_true hn];exact k2
theorem chk_fine {e:List Nd} (h:checkE e=0):∀n∈e,Fine n:=fun n hn=>fineW (checkE_wr h n hn)
def PkL (x:Pv × Hd):Prop:=PkX x.1∧plainP x.1=true∧x.1.body=[]∧x.2=⟨none,0,0⟩
structure MdG (l:Lw):Prop where
 n:NmG l
 p:∀p∈l.provs,PvG (sigsL l) p
 b:∀s∈l.schs,BrG s.brs
 ne:l.provs≠[]
theorem PG.md (hf:FsG fs) (hs:ScG ss) (h:PG sg fs ss ps):MdG (lwP fs ss ps):=by
 refine⟨nmG hf hs h.k,fun p hp=>?_,fun s hS=>?_,fun h0=>h.k.ne (by omega) (List.map_eq_nil_iff.1 h0)⟩
 ·obtain⟨x,hx,rfl⟩:=List.mem_map.1 hp;rw[h.s];exact h.g x hx
 ·obtain⟨x,hx,rfl⟩:=List.mem_map.1 hS;exact hs.b x hx
theorem BrG.fits {l:List Bk} (h:BrG l):∀b∈l,fitsR b.fr=true∧fitsR b.rt=true:=fun b hb=>by
 obtain⟨fs,h1,_,_,h4⟩:=h.f;refine⟨?_,h.r b hb⟩;have:b.fr∈l.map Bk.fr:=List.mem_map.2 ⟨b,hb,rfl⟩;rw[h1] at this;obtain⟨n,hn,e⟩:=List.mem_map.1 this;rw[←e];exact fits_of ⟨n,by have:=h4 n hn;omega⟩
theorem MdG.fine {l:Lw} (h:MdG l):FineL l:=by
 obtain⟨h1,h2,h3⟩:=h.n.len;refine⟨by omega,by omega,by omega,fun s hs b hb=>?_,fun p hp=>?_⟩
 ·obtain⟨a,c⟩:=(h.b s hs).fits b hb;exact⟨fits_fine a,fits_fine c⟩
 ·have g:=h.p p hp;have hz:FineR zR:=⟨by decide+kernel,by decide+kernel⟩
  refine⟨?_,?_,chk_fine (g.b.chk g.n)⟩
  all_goals
   rcases Bool.or_eq_true _ _ ▸ g.s with hc|hc
   ·unfold plainP at hc;rw[Bool.and_eq_true,decide_eq_true_eq,decide_eq_true_eq] at hc
    first|(rw[hc.1];exact hz)|(rw[hc.2];exact hz)
   ·have e:cappedP p=(!p.ty.truth&&(fitsR p.step&&(fitsR p.cap&&_))):=rfl;rw[e] at hc;simp only[Bool.and_eq_true] at hc
    first|exact fits_fine hc.2.1|exact fits_fine hc.2.2.1
theorem MdG.chk {l:Lw} (h:MdG l):checkL l=0:=made_ok h.n h.p
end
theorem own_kp {W W':World} {B s n:Nat} {e:TypeId} {v:Value} {xs:List Value} (h:W.ownsRow B e s v n xs) (hk:∀k,v.ownBlock=some k→B≤k→W'.heap[k]?=W.heap[k]?):W'.ownsRow B e s v n xs:=by
 refine⟨h.1,h.2.imp id ?_⟩;rintro⟨g,cap,cur,h1,h2,h3,h4⟩;exact⟨g,cap,cur,h1,h2,(hk g (by rw[h1];rfl) h2).trans h3,h4⟩
theorem own_setT {W:World} {L B s n:Nat} {t e:TypeId} {cs:List Value} {v:Value} {xs:List Value} (hb:Blk W L t cs) (ho:W.ownsRow B e s v n xs) (he:e≠t) (i:Nat) (u:Value):(W.setCell ⟨L,i,none⟩ u).ownsRow B e s v n xs:=(TF.set (e:=e) hb i u).own ho he
structure MZ (w0 W:World) (D M L N U:Nat) (fs:List Dc) (ss:List (Sc × Hd)) (ps:List (Pv × Hd)) (fv sv pv:Value):Prop where
 ds:DS W D (D+1)
 r:Blk W w0.heap.size 30 [.slice none 0 0,.slice none 0 0,.slice none 0 0]
 m:Blk W M 37 [.bool false,.int .i64 1,.int .i64 0]
 b:Blk W L 30 [fv,sv,pv]
 f:W.ownsRow (M+1) 53 4 fv fs.length (fs.flatMap Dc.cells)
 s:W.ownsRow (M+1) 56 4 sv ss.length (ss.flatMap scCells)
 p:W.ownsRow (M+1) 46 12 pv ps.length (ps.flatMap pvCells)
 qs:∀x∈ss,W.ownsRow (M+1) 118 6 (.slice x.2.a x.2.n x.2.c) x.1.brs.length (x.1.brs.flatMap Bk.cells)
 qp:∀x∈ps,W.ownsRow (M+1) 59 5 (.slice x.2.a x.2.n x.2.c) x.1.body.length (x.1.body.flatMap Nd.cells)
 n:N≠0→Blk W N 137 (six.map Value.string)
 on:Below w0.heap.size w0 W
 hD:w0.heap.size<D
 hM:D<M
 hL:M<L
 hN:N≠0→L<N
 hU:L<U
 hNU:N<U
 hW:U≤W.heap.size
 u:∀k,fv.ownBlock=some k∨sv.ownBlock=some k∨pv.ownBlock=some k∨(∃x∈ss,(Value.slice x.2.a x.2.n x.2.c).ownBlock=some k)∨(∃x∈ps,(Value.slice x.2.a x.2.n x.2.c).ownBlock=some k)→k<U
section
variable {w0 W W':World} {D M L N U:Nat} {fs:List Dc} {ss:List (Sc × Hd)} {ps:List (Pv × Hd)} {fv sv pv:Value}
theorem MZ.keep (h:MZ w0 W D M L N U fs ss ps fv sv pv) (hd:DS W' D (D+1)) (h1:W'.os=W.os) (h2:W'.tape=W.tape) (h3:W'.output=W.output) (h4:W.heap.size≤W'.heap.size) (hk:∀k,k<U→k≠D→W'.heap[k]?=W.heap[k]?):MZ w0 W' D M L N U fs ss ps fv sv pv:=by
 have q1:=h.hD;have q2:=h.hM;have q3:=h.hL;have q4:=h.hU
 refine⟨hd,h.r.of_block (hk _ (by omega) (by omega)),h.m.of_block (hk _ (by omega) (by omega)),h.b.of_block (hk _ (by omega) (by omega)),
  own_kp h.f (fun k e he=>hk k (h.u k (.inl e)) (by omega)),own_kp h.s (fun k e he=>hk k (h.u k (.inr (.inl e))) (by omega)),own_kp h.p (fun k e he=>hk k (h.u k (.inr (.inr (.inl e)))) (by omega)),
  fun x hx=>own_kp (h.qs x hx) (fun k e he=>hk k (h.u k (.inr (.inr (.inr (.inl ⟨x,hx,e⟩))))) (by omega)),fun x hx=>own_kp (h.qp x hx) (fun k e he=>hk k (h.u k (.inr (.inr (.inr (.inr ⟨x,hx,e⟩))))) (by omega)),
  fun hn=>(h.n hn).of_block (hk _ h.hNU (by have:=h.hN hn;omega)),⟨h1.trans h.on.os,h2.trans h.on.tape,h3.trans h.on.output,Nat.le_trans h.on.size h4,fun k hk'=>(hk k (by omega) (by omega)).trans (h.on.block k hk')⟩,
  h.hD,h.hM,h.hL,h.hN,h.hU,h.hNU,Nat.le_trans h.hW h4,h.u⟩
theorem MZ.onl (h:MZ w0 W D M L N U fs ss ps fv sv pv) (hd:DS W' D (D+1)) (ho:Onl D W W'):MZ w0 W' D M L N U fs ss ps fv sv pv:=
 h.keep hd ho.os ho.tape ho.output ho.size (fun k hk hn=>ho.block k (by have:=h.hW;omega) hn)
theorem MZ.low (h:MZ w0 W D M L N U fs ss ps fv sv pv) (hb:Below U W W'):MZ w0 W' D M L N U fs ss ps fv sv pv:=
 h.keep (h.ds.belowU hb (by have:=h.hM;have:=h.hL;have:=h.hU;omega)) hb.os hb.tape hb.output hb.size (fun k hk _=>hb.block k hk)
theorem MZ.below (h:MZ w0 W D M L N U fs ss ps fv sv pv) (hb:Below W.heap.size W W'):MZ w0 W' D M L N U fs ss ps fv sv pv:=h.low (hb.mono h.hW)
theorem MZ.up (h:MZ w0 W D M L N U fs ss ps fv sv pv):MZ w0 W D M L N W.heap.size fs ss ps fv sv pv:=
 {h with hU:=by have:=h.hU;have:=h.hW;omega,hNU:=by have:=h.hNU;have:=h.hW;omega,hW:=Nat.le_refl _,u:=fun k hk=>Nat.lt_of_lt_of_le (h.u k hk) h.hW}
theorem MZ.dsL (h:MZ w0 W D M L N U fs ss ps fv sv pv) (hb:Below (M+1) W W') (i:Nat) (v:Value):DS (W'.setCell ⟨L,i,none⟩ v) D (D+1):=
 (h.ds.belowU hb (by have:=h.hM;omega)).set (by have:=h.hM;have:=h.hL;omega) i v
theorem MZ.onL (h:MZ w0 W D M L N U fs ss ps fv sv pv) (hb:Below (M+1) W W') (i:Nat) (v:Value):Below w0.heap.size w0 (W'.setCell ⟨L,i,none⟩ v):=
 (h.on.trans (hb.mono (by have:=h.hD;have:=h.hM;omega))).setCell (p:=⟨L,i,none⟩) (by have:=h.hD;have:=h.hM;have:=h.hL;show _≤L;omega) v
theorem MZ.bM (h:MZ w0 W D M L N U fs ss ps fv sv pv) {e:TypeId} {z n:Nat} {v:Value} {xs:List Value} (ho:W.ownsRow (M+1) e z v n xs) (hg:W.grownBy W' v.ownBlock):Below (M+1) W W':=
 (Below.refl _ _).grown hg (by have:=h.hL;have:=h.hU;have:=h.hW;omega) (fun k hk=>(ho.lt k hk).1)
theorem MZ.pushF (h:MZ w0 W D M L N U fs ss ps fv sv pv) {v':Value} (d:Dc) (ho:W'.ownsRow (M+1) 53 4 v' (fs.length+1) (fs.flatMap Dc.cells++d.cells)) (hg:W.grownBy W' fv.ownBlock):
  MZ w0 (W'.setCell ⟨L,0,none⟩ v') D M L N W'.heap.size (fs++[d]) ss ps v' sv pv:=by
 have q1:=h.hD;have q2:=h.hM;have q3:=h.hL;have q4:=h.hU;have q5:=h.hW;have q6:=hg.size;have q7:=h.hNU;have ht:=TF.grown h.f hg;have hb:=h.bM h.f hg;have hB:=ht.blk h.b (by decide)
 refine⟨h.dsL hb 0 v',(ht.blk h.r (by decide)).other (by show _≠L;omega) _,(ht.blk h.m (by decide)).other (by show _≠L;omega) _,hB.set 0 v',?_,own_setT hB (ht.own h.s (by decide)) (by decide) 0 _,own_setT hB (ht.own h.p (by decide)) (by decide) 0 _,fun x hx=>own_setT hB (ht.own (h.qs x hx) (by decide)) (by decide) 0 _,fun x hx=>own_setT hB (ht.own (h.qp x hx) (by decide)) (by decide) 0 _,
  fun hn=>(ht.blk (h.n hn) (by decide)).other (by have:=h.hN hn;show _≠L;omega) _,h.onL hb 0 v',q1,q2,q3,h.hN,by omega,by omega,by simp[World.setCell],fun k hk=>?_⟩
 ·have k:=own_setT hB ho (by decide) 0 v';simpa [List.length_append,List.flatMap_append] using k
 ·rcases hk with hk|hk
  ·exact (ho.lt k hk).2
  ·have:=h.u k (.inr hk);omega
theorem MZ.pushS (h:MZ w0 W D M L N U fs ss ps fv sv pv) {v':Value} (x:Sc × Hd) (hx:W.ownsRow (M+1) 118 6 (.slice x.2.a x.2.n x.2.c) x.1.brs.length (x.1.brs.flatMap Bk.cells)) (ho:W'.ownsRow (M+1) 56 4 v' (ss.length+1) (ss.flatMap scCells++scCells x)) (hg:W.grownBy W' sv.ownBlock):
  MZ w0 (W'.setCell ⟨L,1,none⟩ v') D M L N W'.heap.size fs (ss++[x]) ps fv v' pv:=by
 have q1:=h.hD;have q2:=h.hM;have q3:=h.hL;have q4:=h.hU;have q5:=h.hW;have q6:=hg.size;have q7:=h.hNU;have ht:=TF.grown h.s hg;have hb:=h.bM h.s hg;have hB:=ht.blk h.b (by decide)
 refine⟨h.dsL hb 1 v',(ht.blk h.r (by decide)).other (by show _≠L;omega) _,(ht.blk h.m (by decide)).other (by show _≠L;omega) _,hB.set 1 v',own_setT hB (ht.own h.f (by decide)) (by decide) 1 _,?_,own_setT hB (ht.own h.p (by decide)) (by decide) 1 _,fun y hy=>own_setT hB (ht.own ((List.mem_append.1 hy).elim (h.qs y) (fun e=>(List.mem_singleton.1 e) ▸ hx)) (by decide)) (by decide) 1 _,fun x hx=>own_setT hB (ht.own (h.qp x hx) (by decide)) (by decide) 1 _,
  fun hn=>(ht.blk (h.n hn) (by decide)).other (by have:=h.hN hn;show _≠L;omega) _,h.onL hb 1 v',q1,q2,q3,h.hN,by omega,by omega,by simp[World.setCell],fun k hk=>?_⟩
 ·have k:=own_setT hB ho (by decide) 1 v';simpa [List.length_append,List.flatMap_append] using k
 ·rcases hk with hk|hk|hk|⟨y,hy,hk⟩|hk
  ·have:=h.u k (.inl hk);omega
  ·exact (ho.lt k hk).2
  ·have:=h.u k (.inr (.inr (.inl hk)));omega
  ·rcases List.mem_append.1 hy with hy|hy
   ·have:=h.u k (.inr (.inr (.inr (.inl ⟨y,hy,hk⟩))));omega
   ·rw[List.mem_singleton.1 hy] at hk;have:=(hx.lt k hk).2;omega
  ·have:=h.u k (.inr (.inr (.inr (.inr hk))));omega
theorem MZ.pushP (h:MZ w0 W D M L N U fs ss ps fv sv pv) {v':Value} (x:Pv × Hd) (hx:x.1.body=[]∧x.2=⟨none,0,0⟩) (ho:W'.ownsRow (M+1) 46 12 v' (ps.length+1) (ps.flatMap pvCells++pvCells x)) (hg:W.grownBy W' pv.ownBlock):
  MZ w0 (W'.setCell ⟨L,2,none⟩ v') D M L N W'.heap.size fs ss (ps++[x]) fv sv v':=by
 have q1:=h.hD;have q2:=h.hM;have q3:=h.hL;have q4:=h.hU;have q5:=h.hW;have q6:=hg.size;have q7:=h.hNU;have ht:=TF.grown h.p hg;have hb:=h.bM h.p hg;have hB:=ht.blk h.b (by decide)
 refine⟨h.dsL hb 2 v',(ht.blk h.r (by decide)).other (by show _≠L;omega) _,(ht.blk h.m (by decide)).other (by show _≠L;omega) _,hB.set 2 v',own_setT hB (ht.own h.f (by decide)) (by decide) 2 _,own_setT hB (ht.own h.s (by decide)) (by decide) 2 _,?_,fun x hx=>own_setT hB (ht.own (h.qs x hx) (by decide)) (by decide) 2 _,fun y hy=>(List.mem_append.1 hy).elim (fun hy=>own_setT hB (ht.own (h.qp y hy) (by decide)) (by decide) 2 _) (fun e=>by rw[List.mem_singleton.1 e,hx.1,hx.2];exact World.ownsRow_nil _ _ _ _),
  fun hn=>(ht.blk (h.n hn) (by decide)).other (by have:=h.hN hn;show _≠L;omega) _,h.onL hb 2 v',q1,q2,q3,h.hN,by omega,by omega,by simp[World.setCell],fun k hk=>?_⟩
 ·have k:=own_setT hB ho (by decide) 2 v';simpa [List.length_append,List.flatMap_append] using k
 ·rcases hk with hk|hk|hk|hk|⟨y,hy,hk⟩
  ·have:=h.u k (.inl hk);omega
  ·have:=h.u k (.inr (.inl hk));omega
  ·exact (ho.lt k hk).2
  ·have:=h.u k (.inr (.inr (.inr (.inl hk))));omega
  ·rcases List.mem_append.1 hy with hy|hy
   ·have:=h.u k (.inr (.inr (.inr (.inr ⟨y,hy,hk⟩))));omega
   ·rw[List.mem_singleton.1 hy,hx.2] at hk;cases hk
theorem MZ.setS (h:MZ w0 W D M L N U fs ss ps fv sv pv) (x:Sc × Hd) (hx:W.ownsRow (M+1) 118 6 (.slice x.2.a x.2.n x.2.c) x.1.brs.length (x.1.brs.flatMap Bk.cells)):
  MZ w0 ((W.alloc (.cells (scCells x).toArray 56)).setCell ⟨L,1,none⟩ (.slice (some ⟨W.heap.size,0,none⟩) 1 1)) D M L N (W.heap.size+1) fs [x] ps fv (.slice (some ⟨W.heap.size,0,none⟩) 1 1) pv:=by
 have q1:=h.hD;have q2:=h.hM;have q3:=h.hL;have q4:=h.hU;have q5:=h.hW;have q7:=h.hNU;have k:=h.below (zB W (.cells (scCells x).toArray 56));have hb:=(Below.refl (M+1) W).alloc (by omega) (.cells (scCells x).toArray 56);have ho:=own_new W (scCells x).toArray 56 4 1 (M+1) rfl (by omega) (by omega)
 refine⟨h.dsL hb 1 _,k.r.other (by show _≠L;omega) _,k.m.other (by show _≠L;omega) _,k.b.set 1 _,own_setT k.b k.f (by decide) 1 _,?_,own_setT k.b k.p (by decide) 1 _,fun y hy=>own_setT k.b (own_below (List.mem_singleton.1 hy ▸ hx) (zB _ _)) (by decide) 1 _,fun x hx=>own_setT k.b (k.qp x hx) (by decide) 1 _,
  fun hn=>(k.n hn).other (by have:=h.hN hn;show _≠L;omega) _,h.onL hb 1 _,q1,q2,q3,h.hN,by omega,by omega,by simp[World.setCell],fun k hk=>?_⟩
 ·have j:=own_setT k.b ho (by decide) 1 (.slice (some ⟨W.heap.size,0,none⟩) 1 1);simpa using j
 ·rcases hk with hk|hk|hk|⟨y,hy,hk⟩|hk
  ·have:=h.u k (.inl hk);omega
  ·have hk:some W.heap.size=some k:=hk;injection hk with hk;omega
  ·have:=h.u k (.inr (.inr (.inl hk)));omega
  ·rw[List.mem_singleton.1 hy] at hk;have:=(hx.lt k hk).2;omega
  ·have:=h.u k (.inr (.inr (.inr (.inr hk))));omega
end
def putW (xs:List Value) (o:Nat):List Value→List Value
 |[]=>xs
 |v::vs=>putW (xs.set o v) (o+1) vs
theorem putW_own {base:Nat} {e:TypeId} {size g n cap:Nat} (vs:List Value):∀(w:World) (xs:List Value) (o:Nat),w.ownsRow base e size (.slice (some ⟨g,0,none⟩) n cap) n xs→
  (w.setCells g o vs).ownsRow base e size (.slice (some ⟨g,0,none⟩) n cap) n (putW xs o vs):=by
 induction vs with
 |nil=>intro w xs o h;exact h
 |cons v vs ih=>intro w xs o h;exact ih _ _ _ (h.stored o v).1
theorem putW_onl {g:Nat} {w:World} (vs:List Value):∀(w':World) (o:Nat),Onl g w w'→Onl g w (w'.setCells g o vs):=by
 induction vs with
 |nil=>intro w' o h;exact h
 |cons v vs ih=>intro w' o h;exact ih _ _ (h.set o v)
theorem putW_head (vs:List Value):∀(xs ys:List Value) (o:Nat),o+vs.length≤xs.length→putW (xs++ys) o vs=putW xs o vs++ys:=by
 induction vs with
 |nil=>intro xs ys o _;rfl
 |cons v vs ih=>
  intro xs ys o h;simp only[List.length_cons] at h;show putW ((xs++ys).set o v) (o+1) vs=putW (xs.set o v) (o+1) vs++ys;rw[List.set_append_left _ _ (by omega),ih _ _ _ (by rw[List.length_set];omega)]
theorem putW_tail (vs:List Value):∀(xs ys:List Value) (o:Nat),putW (xs++ys) (xs.length+o) vs=xs++putW ys o vs:=by
 induction vs with
 |nil=>intro xs ys o;rfl
 |cons v vs ih=>
  intro xs ys o;show putW ((xs++ys).set (xs.length+o) v) (xs.length+o+1) vs=xs++putW (ys.set o v) (o+1) vs;rw[List.set_append_right _ _ (by omega),Nat.add_sub_cancel_left,Nat.add_assoc,ih]
theorem putW_row (x':Pv × Hd) (o:Nat) (vs:List Value) (ho:o+vs.length≤12):∀(ps:List (Pv × Hd)) (k:Nat) (hk:k<ps.length),putW (pvCells ps[k]) o vs=pvCells x'→putW (ps.flatMap pvCells) (k*12+o) vs=(ps.set k x').flatMap pvCells:=by
 intro ps
 induction ps with
 |nil=>intro k hk;simp at hk
 |cons p ps ih=>
  intro k hk h;cases k with
  |zero=>
   rw[List.flatMap_cons,List.set_cons_zero,List.flatMap_cons,Nat.zero_mul,Nat.zero_add,putW_head _ _ _ _ (by show _≤12;omega)];exact congrArg (·++_) h
  |succ k=>
   have e:(k+1)*12+o=(pvCells p).length+(k*12+o):=by show _=12+_;omega
   rw[List.flatMap_cons,List.set_cons_succ,List.flatMap_cons,e,putW_tail,ih k (by simpa using hk) h]
theorem MZ.put {w0 W:World} {D M L N U:Nat} {fs:List Dc} {ss:List (Sc × Hd)} {ps:List (Pv × Hd)} {fv sv:Value} {g c:Nat} (h:MZ w0 W D M L N U fs ss ps fv sv (.slice (some ⟨g,0,none⟩) ps.length c)) (k:Nat) (hk:k<ps.length) (x:Pv × Hd) (hq:W.ownsRow (M+1) 59 5 (.slice x.2.a x.2.n x.2.c) x.1.body.length (x.1.body.flatMap Nd.cells)) (hqu:∀k,(Value.slice x.2.a x.2.n x.2.c).ownBlock=some k→k<U) (o:Nat) (vs:List Value) (ho:o+vs.length≤12) (hx:putW (pvCells ps[k]) o vs=pvCells x):
  MZ w0 (W.setCells g (k*12+o) vs) D M L N U fs ss (ps.set k x) fv sv (.slice (some ⟨g,0,none⟩) ps.length c):=by
 have q1:=h.hD;have q2:=h.hM;have q3:=h.hL;have q4:=h.hU;have q5:=h.hW;have q7:=h.hNU;have hg:=h.p.lt g rfl
 obtain⟨cur,hcur⟩:∃cur,W.heap[g]?=some (Obj.cells cur 46):=by
  rcases h.p.2 with⟨h1,_⟩|⟨g',cap,cur,h1,_,h3,_⟩
  ·cases h1
  ·injection h1 with h1;injection h1 with h1;injection h1 with h1;subst h1;exact⟨cur,h3⟩
 have hne:∀{b:Nat} {t:TypeId} {cs:List Value},Blk W b t cs→t≠46→b≠g:=by
  intro b t cs hb ht e;subst e;have hb:W.heap[b]?=_:=hb;rw[hcur] at hb;injection hb with hb;injection hb with _ hb _;exact ht hb.symm
 have on:Onl g W (W.setCells g (k*12+o) vs):=putW_onl vs W _ (Onl.refl _ _);have ow:=putW_own vs W _ (k*12+o) h.p;rw[putW_row x o vs ho ps k hk hx] at ow
 have ap:∀{e:TypeId} {z n:Nat} {v:Value} {xs:List Value},W.ownsRow (M+1) e z v n xs→e≠46→(W.setCells g (k*12+o) vs).ownsRow (M+1) e z v n xs:=by
  intro e z n v xs hv he;refine own_kp hv (fun j ej hj=>on.block j (hv.lt j ej).2 (fun e2=>?_));subst e2;rcases own_apart hv h.p he with h1|h1
  ·rw[h1] at ej;cases ej
  ·exact h1 ej
 refine⟨h.ds.belowU (on.below hg.1 (by omega)) (by omega),on.blk h.r (hne h.r (by decide)),on.blk h.m (hne h.m (by decide)),on.blk h.b (hne h.b (by decide)),ap h.f (by decide),ap h.s (by decide),by rw[List.length_set];exact ow,fun y hy=>ap (h.qs y hy) (by decide),fun y hy=>ap ((List.mem_or_eq_of_mem_set hy).elim (h.qp y) (fun e=>e ▸ hq)) (by decide),
  fun hn=>on.blk (h.n hn) (hne (h.n hn) (by decide)),h.on.trans (on.below (by omega) h.on.size),q1,q2,q3,h.hN,q4,q7,Nat.le_trans q5 on.size,fun j hj=>?_⟩
 rcases hj with hj|hj|hj|hj|⟨y,hy,hj⟩
 ·exact h.u j (.inl hj)
 ·exact h.u j (.inr (.inl hj))
 ·exact h.u j (.inr (.inr (.inl hj)))
 ·exact h.u j (.inr (.inr (.inr (.inl hj))))
 ·rcases List.mem_or_eq_of_mem_set hy with hy|rfl
  ·exact h.u j (.inr (.inr (.inr (.inr ⟨y,hy,hj⟩))))
  ·exact hqu j hj
theorem MZ.first {w0 W X:World} {D M:Nat} (hd:DS W D (D+1)) (hr:Blk W w0.heap.size 30 [.slice none 0 0,.slice none 0 0,.slice none 0 0]) (hm:Blk W M 37 [.bool false,.int .i64 1,.int .i64 0]) (on:Below w0.heap.size w0 W) (hD:w0.heap.size<D) (hM:D<M) (d:Dc)
  (hX:(W.alloc (.cells d.cells.toArray 53)).alloc (.cells #[.slice (some ⟨W.heap.size,0,none⟩) 1 1,.slice none 0 0,.slice none 0 0] 30)=X):
  MZ w0 X D M (W.heap.size+1) 0 (W.heap.size+2) [d] [] [] (.slice (some ⟨W.heap.size,0,none⟩) 1 1) (.slice none 0 0) (.slice none 0 0):=by
 have hM2:=hm.lt;have ho:=(own_new W d.cells.toArray 53 4 1 (M+1) rfl (by omega) (by omega)).alloc (.cells #[.slice (some ⟨W.heap.size,0,none⟩) 1 1,.slice none 0 0,.slice none 0 0] 30);obtain⟨_,hb,hbl,hsz⟩:=kTwo_new W 53 30 d.cells.toArray #[.slice (some ⟨W.heap.size,0,none⟩) 1 1,.slice none 0 0,.slice none 0 0];rw[hX] at ho hb hbl hsz;refine⟨hd.below hbl,hr.below hbl hr.lt,hm.below hbl hm.lt,hb,?_,World.ownsRow_nil _ _ _ _,World.ownsRow_nil _ _ _ _,fun _ h=>(by cases h),fun _ h=>(by cases h),fun h=>absurd rfl h,bstep on hbl,hD,hM,by omega,fun h=>absurd rfl h,by omega,by omega,by omega,fun k hk=>?_⟩
 ·simpa using ho
 ·rcases hk with hk|hk|hk|hk|hk
  ·have hk:some W.heap.size=some k:=hk;injection hk with hk;omega
  ·cases hk
  ·cases hk
  ·obtain⟨_,h,_⟩:=hk;cases h
  ·obtain⟨_,h,_⟩:=hk;cases h
section
variable {w0 W W' X:World} {D M L N U:Nat} {fs:List Dc} {ss:List (Sc × Hd)} {ps:List (Pv × Hd)} {fv sv pv:Value}
theorem MZ.cells (h:MZ w0 W D M L N U fs ss ps fv sv pv):W.cell? ⟨L,0,none⟩=some fv∧W.cell? ⟨L,1,none⟩=some sv∧W.cell? ⟨L,2,none⟩=some pv∧W.cell? ⟨M,0,none⟩=some (.bool false)∧W.cell? ⟨M,1,none⟩=some (.int .i64 1)∧W.cell? ⟨M,2,none⟩=some (.int .i64 0):=
 ⟨h.b.cells 0,h.b.cells 1,h.b.cells 2,h.m.cells 0,h.m.cells 1,h.m.cells 2⟩
theorem MZ.hB (h:MZ w0 W D M L N U fs ss ps fv sv pv):M+1≤W.heap.size:=by have:=h.hL;have:=h.hU;have:=h.hW;omega
theorem MZ.hDu (h:MZ w0 W D M L N U fs ss ps fv sv pv):D+1≤W.heap.size:=h.ds.lt
theorem MZ.next (h:MZ w0 W D M L N U fs ss ps fv sv pv) (q:Int) (h1:1≤q) (h2:q≤1000):Calls Tryz.prog 71 #[.pointer (some ⟨D,0,none⟩),.int .i64 q] W fun e X=>∃r:Nat,(r:Int)<q∧e=.returned (.int .i64 r)∧MZ w0 X D M L N U fs ss ps fv sv pv∧Onl D W X:=
 (next_any W D (D+1) q h.ds h1 (by omega)).mono fun _ _ ⟨r,hr,he,hd,ho⟩=>⟨r,hr,he,h.onl hd ho,ho⟩
theorem MZ.setSX (h:MZ w0 W D M L N U fs ss ps fv sv pv) (x:Sc × Hd) (hx:W.ownsRow (M+1) 118 6 (.slice x.2.a x.2.n x.2.c) x.1.brs.length (x.1.brs.flatMap Bk.cells)) (hX:W.alloc (.cells (scCells x).toArray 56)=X):
  MZ w0 (X.setCell ⟨L,1,none⟩ (.slice (some ⟨W.heap.size,0,none⟩) 1 1)) D M L N (W.heap.size+1) fs [x] ps fv (.slice (some ⟨W.heap.size,0,none⟩) 1 1) pv:=hX ▸ h.setS x hx
theorem MZ.names (h:MZ w0 W D M L 0 U fs ss ps fv sv pv) (hX:W.alloc (.cells (six.map Value.string).toArray 137)=X):MZ w0 X D M L W.heap.size (W.heap.size+1) fs ss ps fv sv pv:=by
 obtain⟨k,hb⟩:=zA hX;have j:=h.below hb;have:=h.hL;have:=h.hU;have:=h.hW;exact {j with n:=fun _=>k,hN:=fun _=>by omega,hU:=by omega,hNU:=by omega,hW:=k.lt,u:=fun k hk=>by have:=h.u k hk;omega}
theorem MZ.nm (h:MZ w0 W D M L N U fs ss ps fv sv pv) (hN:N≠0) {i:Nat} (hi:i<six.length):W.cell? ⟨N,i,none⟩=some (.string six[i]):=by
 have:=(h.n hN).cells i;rw[this,List.getElem?_map,List.getElem?_eq_getElem hi];rfl
theorem MZ.at (h:MZ w0 W D M L N U fs ss ps fv sv pv) (ho:Onl U W X):MZ w0 X D M L N U fs ss ps fv sv pv:=h.low (ho.below (Nat.le_refl _) h.hW)
theorem st_ne {s:ByteArray} {l:List UInt8} (h:¬s=⟨l.toArray⟩):(s.toList==l)=false∧¬s.toList=l:=by
 have h1:¬s.toList=l:=fun e=>h (by subst e;rw[ByteArray.toList_eq])
 exact⟨beq_eq_false_iff_ne.2 h1,h1⟩
def SZ (L M:Nat) (fv sv pv:Value) (W:World):Prop:=Blk W L 30 [fv,sv,pv]∧Blk W M 37 [.bool false,.int .i64 1,.int .i64 0]
theorem MZ.sz (h:MZ w0 W D M L N U fs ss ps fv sv pv):SZ L M fv sv pv W:=⟨h.b,h.m⟩
theorem SZ.tf {t:TypeId} (h:SZ L M fv sv pv W) (ht:TF t W W') (h1:30≠t) (h2:37≠t):SZ L M fv sv pv W':=⟨ht.blk h.1 h1,ht.blk h.2 h2⟩
theorem SZ.cells (h:SZ L M fv sv pv W):W.cell? ⟨L,0,none⟩=some fv∧W.cell? ⟨L,1,none⟩=some sv∧W.cell? ⟨L,2,none⟩=some pv∧W.cell? ⟨M,0,none⟩=some (.bool false)∧W.cell? ⟨M,1,none⟩=some (.int .i64 1)∧W.cell? ⟨M,2,none⟩=some (.int .i64 0):=
 ⟨h.1.cells 0,h.1.cells 1,h.1.cells 2,h.2.cells 0,h.2.cells 1,h.2.cells 2⟩
theorem MZ.rows (h:MZ w0 W D M L N U fs ss ps fv sv pv):∃f s p:Hd,fv=.slice f.a f.n f.c∧sv=.slice s.a s.n s.c∧pv=.slice p.a p.n p.c∧RowAt W Dc.cells fs f∧RowAt W scCells ss s∧RowAt W pvCells ps p:=by
 obtain⟨f,h1,_,h2⟩:=RowAt.of_own h.f rfl;obtain⟨s,h3,_,h4⟩:=RowAt.of_own h.s rfl;obtain⟨p,h5,_,h6⟩:=RowAt.of_own h.p rfl;exact⟨f,s,p,h1,h3,h5,h2,h4,h6⟩
theorem MZ.pnn (h:MZ w0 W D M L N U fs ss ps fv sv pv) (hne:ps≠[]):∃g c,pv=.slice (some ⟨g,0,none⟩) ps.length c:=by
 rcases h.p.2 with⟨_,h2⟩|⟨g,cap,cur,h1,_⟩
 ·exact absurd (List.length_eq_zero_iff.1 h2) hne
 ·exact⟨g,cap,h1⟩
variable {g n c:Nat}
theorem pc_of {B m:Nat} (h:W.ownsRow B 46 12 (.slice (some ⟨g,0,none⟩) n c) m (ps.flatMap pvCells)) (hm:m=ps.length) {j:Nat} (hj:j<ps.length):W.cell? ⟨g,j*12,none⟩=some (.string ps[j].1.name)∧W.cell? ⟨g,j*12+1,none⟩=some (.bool ps[j].1.ty.truth)∧W.cell? ⟨g,j*12+2,none⟩=some (.int .i64 ps[j].1.ty.money)∧W.cell? ⟨g,j*12+3,none⟩=some (.int .i64 ps[j].1.ty.days)∧W.cell? ⟨g,j*12+4,none⟩=some (.slice ps[j].2.a ps[j].2.n ps[j].2.c)∧W.cell? ⟨g,j*12+5,none⟩=some (.bool ps[j].1.charge)∧
  W.cell? ⟨g,j*12+6,none⟩=some (.bool ps[j].1.step.neg)∧W.cell? ⟨g,j*12+7,none⟩=some (.string ps[j].1.step.num)∧W.cell? ⟨g,j*12+8,none⟩=some (.string ps[j].1.step.den)∧W.cell? ⟨g,j*12+9,none⟩=some (.bool ps[j].1.cap.neg)∧W.cell? ⟨g,j*12+10,none⟩=some (.string ps[j].1.cap.num)∧W.cell? ⟨g,j*12+11,none⟩=some (.string ps[j].1.cap.den):=by
 obtain⟨p,h5,_,h6⟩:=RowAt.of_own h hm;injection h5 with h1 h2 h3;obtain⟨b,off,p',hA,hb,hx,rfl,hc⟩:=pv_at (A:=p.a) (n:=p.n) (c:=p.c) h6 (by rw[h6.len];exact hj);rw[←h1] at hA;injection hA with hA;injection hA with hA1 hA2;subst hA1 hA2;have:=hc W (Below.refl _ _);simpa only[Nat.zero_add] using this
theorem MZ.pc (h:MZ w0 W D M L N U fs ss ps fv sv (.slice (some ⟨g,0,none⟩) n c)) {j:Nat} (hj:j<ps.length):W.cell? ⟨g,j*12,none⟩=some (.string ps[j].1.name)∧W.cell? ⟨g,j*12+1,none⟩=some (.bool ps[j].1.ty.truth)∧W.cell? ⟨g,j*12+2,none⟩=some (.int .i64 ps[j].1.ty.money)∧W.cell? ⟨g,j*12+3,none⟩=some (.int .i64 ps[j].1.ty.days)∧W.cell? ⟨g,j*12+4,none⟩=some (.slice ps[j].2.a ps[j].2.n ps[j].2.c)∧W.cell? ⟨g,j*12+5,none⟩=some (.bool ps[j].1.charge)∧
  W.cell? ⟨g,j*12+6,none⟩=some (.bool ps[j].1.step.neg)∧W.cell? ⟨g,j*12+7,none⟩=some (.string ps[j].1.step.num)∧W.cell? ⟨g,j*12+8,none⟩=some (.string ps[j].1.step.den)∧W.cell? ⟨g,j*12+9,none⟩=some (.bool ps[j].1.cap.neg)∧W.cell? ⟨g,j*12+10,none⟩=some (.string ps[j].1.cap.num)∧W.cell? ⟨g,j*12+11,none⟩=some (.string ps[j].1.cap.den):=pc_of h.p rfl hj
theorem own_froz {B m z:Nat} {t:TypeId} {xs:List Value} (h:W.ownsRow B t z (.slice (some ⟨g,0,none⟩) n c) m xs) (i:Nat):W.frozen? ⟨g,i,none⟩=false:=by
 rcases h.2 with⟨h1,_⟩|⟨g',cap,cur,h1,_,h3,_⟩
 ·cases h1
 ·injection h1 with h1;injection h1 with h1;injection h1 with h1;subst h1;simp[World.frozen?,h3]
theorem MZ.pf (h:MZ w0 W D M L N U fs ss ps fv sv (.slice (some ⟨g,0,none⟩) n c)) (i:Nat):W.frozen? ⟨g,i,none⟩=false:=own_froz h.p i
theorem MZ.putN (h:MZ w0 W D M L N U fs ss ps fv sv (.slice (some ⟨g,0,none⟩) n c)) (hn:n=ps.length) (k:Nat) (hk:k<ps.length) (x:Pv × Hd) (hq:W.ownsRow (M+1) 59 5 (.slice x.2.a x.2.n x.2.c) x.1.body.length (x.1.body.flatMap Nd.cells)) (hqu:∀k,(Value.slice x.2.a x.2.n x.2.c).ownBlock=some k→k<U) (o:Nat) (vs:List Value) (ho:o+vs.length≤12) (hx:putW (pvCells ps[k]) o vs=pvCells x):
  MZ w0 (W.setCells g (k*12+o) vs) D M L N U fs ss (ps.set k x) fv sv (.slice (some ⟨g,0,none⟩) n c):=by subst hn;exact h.put k hk x hq hqu o vs ho hx
theorem own_put {v:Value} {m:Nat} {xs:List Value} (ho:W.ownsRow (M+1) 83 5 v m xs) (h:MZ w0 W D M L N U fs ss ps fv sv (.slice (some ⟨g,0,none⟩) n c)) (on:Onl g W X):X.ownsRow (M+1) 83 5 v m xs:=by
 refine own_kp ho (fun j ej _=>on.block j (ho.lt j ej).2 (fun e2=>?_));subst e2;rcases own_apart ho h.p (by decide) with h1|h1
 ·rw[h1] at ej;cases ej
 ·exact h1 ej
theorem MZ.pr (h:MZ w0 W D M L N U fs ss ps fv sv (.slice (some ⟨g,0,none⟩) n c)):RowAt W pvCells ps ⟨some ⟨g,0,none⟩,n,c⟩:=by
 obtain⟨p,h5,_,h6⟩:=RowAt.of_own h.p rfl;injection h5 with h1 h2 h3;obtain⟨a,b,c'⟩:=p;subst h1 h2 h3;exact h6
theorem MZ.qu (h:MZ w0 W D M L N U fs ss ps fv sv pv) {x:Pv × Hd} (hx:x∈ps):∀k,(Value.slice x.2.a x.2.n x.2.c).ownBlock=some k→k<U:=fun k hk=>h.u k (.inr (.inr (.inr (.inr ⟨x,hx,hk⟩))))
structure LO (W:World) (B:Nat) (l:Lw) (ss:List (Sc × Hd)) (ps:List (Pv × Hd)) (f s p:Hd):Prop where
 f:W.ownsRow B 53 4 (.slice f.a f.n f.c) l.facts.length (l.facts.flatMap Dc.cells)
 s:W.ownsRow B 56 4 (.slice s.a s.n s.c) ss.length (ss.flatMap scCells)
 p:W.ownsRow B 46 12 (.slice p.a p.n p.c) ps.length (ps.flatMap pvCells)
 sl:ss.map Prod.fst=l.schs
 pl:ps.map Prod.fst=l.provs
 qs:∀x∈ss,W.ownsRow B 118 6 (.slice x.2.a x.2.n x.2.c) x.1.brs.length (x.1.brs.flatMap Bk.cells)
 qp:∀x∈ps,W.ownsRow B 59 5 (.slice x.2.a x.2.n x.2.c) x.1.body.length (x.1.body.flatMap Nd.cells)
theorem row_own {α:Type} {enc:α→List Value} {xs:List α} {h:Hd} {e:TypeId} {B z:Nat} (k:W.ownsRow B e z (.slice h.a h.n h.c) xs.length (xs.flatMap enc)):RowAt W enc xs h:=by
 obtain⟨h1,h2,h3,h4⟩:=own_hd k;exact⟨h1,by omega,h3,h4⟩
variable {l:Lw} {B:Nat} {f s p:Hd}
theorem LO.at (h:LO W B l ss ps f s p):LawAt W l ss ps f s p:=⟨row_own h.f,row_own h.s,row_own h.p,h.sl,h.pl,fun x hx=>row_own (h.qs x hx),fun x hx=>row_own (h.qp x hx)⟩
theorem LO.onl (h:LO W B l ss ps f s p) (on:Onl D W X) (hD:D<B):LO X B l ss ps f s p:=⟨onl_row h.f on hD,onl_row h.s on hD,onl_row h.p on hD,h.sl,h.pl,fun x hx=>onl_row (h.qs x hx) on hD,fun x hx=>onl_row (h.qp x hx) on hD⟩
theorem LO.below (h:LO W B l ss ps f s p) (hb:Below W.heap.size W X):LO X B l ss ps f s p:=⟨own_below h.f hb,own_below h.s hb,own_below h.p hb,h.sl,h.pl,fun x hx=>own_below (h.qs x hx) hb,fun x hx=>own_below (h.qp x hx) hb⟩
theorem LO.low {C:Nat} (h:LO W B l ss ps f s p) (hC:C≤B):LO W C l ss ps f s p:=⟨own_lower h.f hC,own_lower h.s hC,own_lower h.p hC,h.sl,h.pl,fun x hx=>own_lower (h.qs x hx) hC,fun x hx=>own_lower (h.qp x hx) hC⟩
theorem MZ.lo (h:MZ w0 W D M L N U fs ss ps (.slice f.a f.n f.c) (.slice s.a s.n s.c) (.slice p.a p.n p.c)):LO W (M+1) (lwP fs ss ps) ss ps f s p:=⟨h.f,h.s,h.p,rfl,rfl,h.qs,h.qp⟩
end
def swapL (l:Lw) (k:Nat) (p:Pv) (ns:List Nd):Lw:=⟨l.facts,l.schs,l.provs.set k {p with body:=ns}⟩
section
variable {l:Lw} {k:Nat} {ns:List Nd}
theorem swap_sigs (hk:k<l.provs.length):sigsL (swapL l k l.provs[k] ns)=sigsL l:=by
 have e:∀op,(l.provs.set k {l.provs[k] with body:=ns}).map (pSig op)=l.provs.map (pSig op):=fun op=>map_set_same _ l.provs k hk _ rfl
 unfold sigsL swapL;simp only[e]
theorem swap_nm (h:NmG l) (hk:k<l.provs.length):NmG (swapL l k l.provs[k] ns):=by
 refine⟨h.f,h.s,?_,h.tf,h.ts,fun p hp=>?_,h.b⟩
 ·show ((l.provs.set k _).map Pv.name).Sublist six;rw[map_set_same Pv.name l.provs k hk {l.provs[k] with body:=ns} rfl];exact h.p
 ·rcases List.mem_or_eq_of_mem_set hp with hp|rfl
  ·exact h.tp p hp
  ·exact h.tp l.provs[k] (List.getElem_mem hk)
theorem swap_fine (h:MdG l) (hk:k<l.provs.length) {t:Ty} (ht:TE (sigsL l) t ns) (hn:ns.length≤60):FineL (swapL l k l.provs[k] ns):=by
 have hf:=h.fine;refine⟨hf.fn,hf.sn,by show (l.provs.set k _).length≤1000;rw[List.length_set];exact hf.pn,hf.sb,fun p hp=>?_⟩;rcases List.mem_or_eq_of_mem_set hp with hp|rfl
 ·exact hf.pb p hp
 ·have g:=hf.pb l.provs[k] (List.getElem_mem hk);exact⟨g.1,g.2.1,chk_fine (ht.chk hn)⟩
theorem swap_chk (h:MdG l) (hk:k<l.provs.length) {t:Ty} (ht:TE (sigsL l) t ns) (hn:ns.length≤60):checkL (swapL l k l.provs[k] ns)=if t=l.provs[k].ty then 0 else 13:=by
 rw[(swap_nm h.n hk).chk,swap_sigs hk];have g:=h.p l.provs[k] (List.getElem_mem hk);by_cases e:t=l.provs[k].ty
 ·rw[if_pos e];refine first_zero fun x hx=>?_
  obtain⟨p,hp,rfl⟩:=List.mem_map.1 hx;rcases List.mem_or_eq_of_mem_set hp with hp|rfl
  ·exact (h.p p hp).zero
  ·exact PvG.zero ⟨e ▸ ht,hn,g.c,g.s⟩
 ·rw[if_neg e];refine first_one (by decide) (fun x hx=>?_) ?_
  ·obtain⟨p,hp,rfl⟩:=List.mem_map.1 hx;rcases List.mem_or_eq_of_mem_set hp with hp|rfl
   ·exact .inl (h.p p hp).zero
   ·exact .inr (prov_type ht hn e)
  ·refine List.mem_map.2 ⟨{l.provs[k] with body:=ns},List.mem_set hk _,prov_type ht hn e⟩
end
structure IR (w:World) (u:Nat) (r:List Int × Hd):Prop where
 len:r.2.n=r.1.length
 cap:r.2.n≤r.2.c
 max:r.2.c≤maxLen
 rd:Rd w r.2.a (zvs r.1)
 rng:∀x∈r.1,-9223372036854775808≤x∧x≤9223372036854775807
 lt:r.1≠[]→∀ad,r.2.a=some ad→ad.block<u
def rowV (r:List Int × Hd):List Value:=[.slice r.2.a r.2.n r.2.c]
theorem IR.below {w w':World} {u:Nat} {r:List Int × Hd} (h:IR w u r) (hb:Below w.heap.size w w'):IR w' u r:=⟨h.len,h.cap,h.max,h.rd.below hb,h.rng,h.lt⟩
theorem wlist_any (xs:List (List Int × Hd)) (h:Hd) (i u:Nat) (w:World) (hr:RowAt w rowV xs h) (hi:∀r∈xs,IR w u r):
  Calls Tryz.prog 70 #[.slice h.a h.n h.c,.int .i64 (i:Int)] w fun e w'=>∃r,e=.returned (.slice r.2.a r.2.n r.2.c)∧IR w u r∧w=w':=by
 obtain⟨a,n,c⟩:=h;have hlen:=hr.len;simp only at hlen⊢;by_cases hlt:i<xs.length
 ·obtain⟨b,off,hA,hb,hc⟩:=Rd.row rowV 1 (fun _=>rfl) (by omega) hr.rd hlt;simp only at hA;subst hA;have HX:=zH (hi _ (List.getElem_mem hlt));have hc0:=hc 0 _ rfl;rw[Nat.mul_one,Nat.add_zero] at hc0;have h0:(0:Int)≤(i:Int):=by omega
  have h1:(i:Int)<(n:Int):=by omega
  clear hc hr hi;generalize xs[i]=r at*;obtain⟨l,⟨ra,rn,rc⟩⟩:=r;simp only at hc0;go_enter Tryz.func70,Tryz.ntmps70;go_wp2;go_ret;exact⟨(l,⟨ra,rn,rc⟩),rfl,HX.out,rfl⟩
 ·have h1:¬(i:Int)<(n:Int):=by omega
  clear hr hi;go_enter Tryz.func70,Tryz.ntmps70;go_wp2;go_ret;exact⟨[],⟨none,0,0⟩,rfl,⟨rfl,Nat.le_refl _,Nat.zero_le _,.inl rfl,fun _ h=>(by cases h),fun h=>absurd rfl h⟩,rfl⟩
def six2:List ByteArray:=[⟨#[98,97,115,101]⟩,⟨#[114,101,108,105,101,102]⟩,⟨#[99,114,101,100,105,116]⟩,⟨#[116,104,114,101,115,104,111,108,100]⟩,⟨#[116,97,120]⟩,⟨#[116,111,116,97,108]⟩]
theorem wrank_any (nm:ByteArray) (w:World):Calls Tryz.prog 137 #[.string nm] w fun e w'=>∃r:Int,e=.returned (.int .i64 r)∧Below w.heap.size w w':=by
 go_enter Tryz.func137,Tryz.ntmps137
 go_upto_region 1 with fail
 go_cut [3] from 5 to 6 (fun av wc=>∃X,av=.pointer (some ⟨X,0,none⟩)∧Hid (Blk wc X 137 (six2.map Value.string))∧Hid (Below w.heap.size w wc))
 case first=>
  go_wp2
  go_meet
  case rel=>exact⟨_,rfl,Blk.new w 137 (six2.map Value.string).toArray,zB w _⟩
 case rest=>
  obtain⟨X,rfl,HX,HBC⟩:=hcut;go_wp2
  go_loopg [4] 6 (fun g iv wr=>∃j:Nat,j+g=6∧iv=.int .i64 j∧wr=wc)
  case atStart=>exact⟨0,by omega,rfl,rfl⟩
  case round=>
   obtain⟨j,hj,rfl,rfl⟩:=hrel;by_cases hlt:j<6
   ·have hc:=HX.out.cells j;rw[List.getElem?_map,List.getElem?_eq_getElem (show j<six2.length from hlt),Option.map_some] at hc;generalize six2[j]'(show j<six2.length from hlt)=s at*;have h0:(0:Int)≤(j:Int):=by omega
    have h1:(j:Int)<6:=by omega
    by_cases h2:s=nm
    ·subst h2;go_wp2;go_ret;exact⟨_,rfl,HBC.out⟩
    ·have h2b:¬(s.toList=nm.toList):=fun h=>h2 (by rw[ByteArray.toList_eq,ByteArray.toList_eq] at h;exact ByteArray.ext (Array.toList_inj.1 h))
     have h2c:(s.toList==nm.toList)=false:=beq_eq_false_iff_ne.2 h2b;go_wp2
     go_roundg (6-(j+1))
     case measure=>omega
     case rel=>exact⟨j+1,by omega,by go_num,rfl⟩
   ·obtain rfl:j=6:=by omega
    go_wp2;go_ret;exact⟨_,rfl,HBC.out⟩
theorem wFind11_any (xs:List (Pv × Hd)) (f s p:Hd) (nm:ByteArray) (w:World) (hr:RowAt w pvCells xs p):
  Calls Tryz.prog 74 #[lawV f s p,.string nm] w fun e w'=>∃(i:Nat) (o:Bool),e=.returned (.tuple #[.int .i64 i,.bool o])∧(o=true→∃h:i<xs.length,xs[i].1.name=nm)∧Below w.heap.size w w':=by
 obtain⟨fa,fn,fc⟩:=f;obtain⟨sa,sn,sc⟩:=s;obtain⟨pa,pn,pc⟩:=p;unfold lawV;simp only
 have hn:pn=xs.length:=hr.len;have hm:pn≤maxLen:=Nat.le_trans hr.cap hr.max;unfold maxLen at hm;obtain⟨W,hW⟩:=zE (w.alloc (.cells #[.slice fa fn fc,.slice sa sn sc,.slice pa pn pc] 30));obtain⟨B,hB⟩:=zE w.heap.size;have HK:Hid (Blk W B 30 [.slice fa fn fc,.slice sa sn sc,.slice pa pn pc]):=by show Blk _ _ _ _;rw[hW,hB];exact Blk.new w _ _
 have HBW:Hid (Below w.heap.size w W):=by show Below _ _ _;rw[hW];exact zB _ _
 have HR:=zH (hr.below HBW.out).rd;have hkc:=HK.out.cells;have HN:=zH hn;clear hr hn;go_enter Tryz.func74,Tryz.ntmps74
 go_upto_region 1 with fail
 simp only[←hW,←hB]
 clear hW hB;go_wp2
 go_loopg [6] pn (fun g iv wr=>∃j:Nat,j+g=pn∧iv=.int .i64 j∧wr=W)
 case atStart=>exact⟨0,by omega,rfl,rfl⟩
 case round=>
  obtain⟨j,hj,rfl,rfl⟩:=hrel;by_cases hlt:j<pn
  ·obtain⟨b,off,hA,hb,hc⟩:=Rd.row pvCells 12 (fun _=>rfl) (by omega) HR.out (show j<xs.length by rw[←HN.out];exact hlt);subst hA;have hc0:=hc 0 _ rfl;rw[Nat.add_zero] at hc0;have HX:Hid (∃h:j<xs.length,xs[j].1.name=(xs[j]'(show j<xs.length by rw[←HN.out];exact hlt)).1.name):=⟨by rw[←HN.out];exact hlt,rfl⟩
   generalize (xs[j]'(show j<xs.length by rw[←HN.out];exact hlt)).1.name=s at hc0 HX⊢;clear hc;have h0:(0:Int)≤(j:Int):=by omega
   have h1:(j:Int)<(pn:Int):=by omega
   by_cases h2:s=nm
   ·subst h2;go_wp2;go_ret2;exact⟨j,true,rfl,fun _=>HX.out,HBW.out⟩
   ·have h2b:¬(s.toList=nm.toList):=fun h=>h2 (by rw[ByteArray.toList_eq,ByteArray.toList_eq] at h;exact ByteArray.ext (Array.toList_inj.1 h))
    have h2c:(s.toList==nm.toList)=false:=beq_eq_false_iff_ne.2 h2b;go_wp2
    go_roundg (pn-(j+1))
    case measure=>omega
    case rel=>exact⟨j+1,by omega,by go_num,rfl⟩
  ·obtain rfl:j=pn:=by omega
   go_wp2;go_ret2;exact⟨0,false,rfl,fun h=>(by cases h),HBW.out⟩
theorem wbefore_any (l:List Sg) (A:Option Addr) (k c:Nat) (nm:ByteArray) (fr:Bool) (w:World) (hk:k=l.length) (hm:k≤1000) (hr:Rd w A (sgs l)):
  Calls Tryz.prog 73 #[.slice A k c,.string nm,.bool fr] w fun e w'=>∃v sg,e=.returned v∧sg.length≤1000∧sg.Sublist l∧w'.ownsRow w.heap.size 83 5 v sg.length (sgs sg)∧Below w.heap.size w w':=by
 have HR:=zH hr;have HKL:=zH hk;have HRN:=zH (fun s W=>wrank_any s W);clear hr hk;go_enter Tryz.func73,Tryz.ntmps73;go_wp2
 go_loopg [7,8] k (fun g ov iv wr=>∃(j:Nat) (ns:List Sg),j+g=k∧iv=.int .i64 j∧Hid (wr.ownsRow w.heap.size 83 5 ov ns.length (sgs ns))∧ns.length≤j∧Hid (ns.Sublist (l.take j))∧Hid (Below w.heap.size w wr))
 case atStart=>exact⟨0,[],by omega,rfl,World.ownsRow_nil _ _ _ _,Nat.le_refl _,List.nil_sublist _,Below.refl _ _⟩
 case round=>
  obtain⟨j,ns,hj,rfl,hown,hol,hsb,hbr⟩:=hrel;by_cases hlt:j<k
  ·obtain⟨b,off,hA,hb,hc⟩:=Rd.row Sg.cells 5 (fun _=>rfl) (by omega) HR.out (show j<l.length by rw[←HKL.out];exact hlt);subst hA;have HTK:=zH (List.take_succ_eq_append_getElem (show j<l.length by rw[←HKL.out];exact hlt));generalize l[j]'(show j<l.length by rw[←HKL.out];exact hlt)=s at*;obtain⟨sop,snm,⟨st,sm,sd⟩⟩:=s;have HC:Hid (∀X,Below w.heap.size w X→∀i v,(Sg.cells ⟨sop,snm,⟨st,sm,sd⟩⟩)[i]?=some v→X.cell? ⟨b,off+j*5+i,none⟩=some v):=fun X hX i v hv=>(hX.cell (p:=⟨b,off+j*5+i,none⟩) hb).trans (hc i v hv)
   have hj0:(0:Int)≤(j:Int):=by omega
   have hj1:(j:Int)<(k:Int):=by omega
   clear hb hc;have d0:=HC.out _ hbr.out 0 _ rfl;have d1:=HC.out _ hbr.out 1 _ rfl;rw[Nat.add_zero] at d0
   go_upto_region 5 with fail
   go_cut [9] from 16 to 41 (fun lv wc=>∃q,lv=.bool q∧Hid (Below wr.heap.size wr wc))
   case first=>
    by_cases h6:sop=6
    ·subst h6;go_wp2_with fail;refine (HRN.out snm wr).mono ?_;rintro e w1 ⟨r1,rfl,hb1⟩;go_wp2_with fail;refine (HRN.out nm w1).mono ?_;rintro e w2 ⟨r2,rfl,hb2⟩;have HB2:=zH (bstep hb1 hb2);clear hb1 hb2;by_cases hrr:r1≥r2
     all_goals
      go_wp2
      go_meet
     all_goals (case rel=>exact⟨_,rfl,HB2⟩)
    ·have h6b:(sop==6)=false:=beq_eq_false_iff_ne.2 h6;by_cases h8:sop=8
     ·subst h8;go_wp2_with fail;refine (HRN.out snm wr).mono ?_;rintro e w1 ⟨r1,rfl,hb1⟩;go_wp2_with fail;refine (HRN.out nm w1).mono ?_;rintro e w2 ⟨r2,rfl,hb2⟩;have HB2:=zH (bstep hb1 hb2);clear hb1 hb2;by_cases hrr:r1≥r2
      all_goals
       go_wp2
       go_meet
      all_goals (case rel=>exact⟨_,rfl,HB2⟩)
     ·have h8b:(sop==8)=false:=beq_eq_false_iff_ne.2 h8;go_wp2
      go_meet
      case rel=>exact⟨_,rfl,Below.refl _ _⟩
   case rest=>
    obtain⟨q,rfl,hbc⟩:=hcut;have HBC:=zH (hbr.out.trans (hbc.out.mono hbr.out.size));have HOWN:=zH (own_below hown.out hbc.out);clear d0 d1 hown hbr hbc;have d0:=HC.out _ HBC.out 0 _ rfl;have d1:=HC.out _ HBC.out 1 _ rfl;have d2:=HC.out _ HBC.out 2 _ rfl;have d3:=HC.out _ HBC.out 3 _ rfl;have d4:=HC.out _ HBC.out 4 _ rfl;rw[Nat.add_zero] at d0;have hcz:=HBC.out.size;by_cases hall:fr=true∨q=false
    ·have hqq:(fr|| !q)=true:=by rcases hall with rfl|rfl<;>simp
     cases fr<;>cases q
     all_goals try exact absurd hqq (by decide)
     all_goals
      clear hqq hall;go_wp2_with (at_builtin;go_must (refine wpList_push wc #[.int .i64 sop,.string snm,.bool st,.int .i64 sm,.int .i64 sd] rfl _ _ 32 rfl w.heap.size 83 _ 5 48 1 Tryz.underlying32 info_sig rfl (by decide) u7 ns.length (sgs ns) rfl HOWN.out (by rfl) rfl ?_ ?_ ?_ ?_ ?_))
      any_goals first|(unfold maxLen;omega)|omega
      ·exact⟨rfl,rfl,rfl,rfl,rfl⟩
      intro v' w' hown' hb';have HO9:=zH hown';have HB9:=zH (HBC.out.trans hb');clear hown' hb' d0 d1 d2 d3 d4;go_wp2
      go_roundg (k-(j+1))
     all_goals first|(case measure=>omega)|(case rel=>
      refine⟨j+1,ns++[(⟨sop,snm,⟨st,sm,sd⟩⟩:Sg)],by omega,by go_num,?_,by simp;omega,by show List.Sublist _ _;rw[HTK.out];exact hsb.out.append (List.Sublist.refl _),HB9⟩;show World.ownsRow _ _ _ _ _ _ _;rw[sgs_append,List.length_append];exact HO9.out)
    ·obtain⟨rfl,rfl⟩:fr=false∧q=true:=by cases fr<;>cases q<;>simp at hall⊢
     clear hall;go_wp2
     go_roundg (k-(j+1))
     case measure=>omega
     case rel=>exact⟨j+1,ns,by omega,by go_num,HOWN,by omega,by show List.Sublist _ _;rw[HTK.out];exact hsb.out.trans (List.sublist_append_left _ _),HBC⟩
  ·obtain rfl:j=k:=by omega
   go_wp2;go_ret;exact⟨_,ns,rfl,by omega,by have h:=hsb.out;rw[HKL.out,List.take_length] at h;exact h,hown.out,hbr.out⟩
end Go.Proofs.YtkgiaegmkncljaaGreatDoor
