/- A part of the proof: P1 P2 P3 Ej Ek El Gp. -/
import Derived.Test.YtimokmplkpbmdaaGreatDoorQ24
import Derived.Test.YtimokmplkpbmdaaGreatDoorQ25
set_option linter.all false
set_option maxRecDepth 100000
set_option maxHeartbeats 0
namespace Go.Proofs.YtimokmplkpbmdaaGreatDoor
open Go.RowKit
theorem ofNat_toNat (n:Nat) (h:n<256):(UInt8.ofNat n).toNat=n:=by simp;omega
theorem mV (n:Nat):(Lib.decDigits n).all fM=true:=by
 induction n using Nat.strongRecOn with
 |_ n ih=>
  rw[Lib.decDigits];split
  ·next h=>
   simp only[List.all_cons,List.all_nil,Bool.and_true,fM,Bool.and_eq_true,decide_eq_true_eq,ofNat_toNat (48+n) (by omega)]
   omega
  ·next h=>
   rw[List.all_append,ih (n / 10) (by omega)];simp only[List.all_cons,List.all_nil,Bool.and_true,Bool.true_and,fM,Bool.and_eq_true,decide_eq_true_eq,ofNat_toNat (48+n % 10) (by omega)]
   omega
theorem Uh (n:Nat):dY (Lib.decDigits n)=n:=by
 induction n using Nat.strongRecOn with
 |_ n ih=>
  rw[Lib.decDigits];split
  ·next h=>
   simp only[dY,List.foldl_cons,List.foldl_nil,ofNat_toNat (48+n) (by omega)]
   omega
  ·next h=>
   rw[AY,ih (n / 10) (by omega)];simp only[dY,List.foldl_cons,List.foldl_nil,ofNat_toNat (48+n % 10) (by omega),List.length_cons,List.length_nil]
   omega
theorem ZG (n:Nat) (h0:n≠0):(Lib.decDigits n).head?≠some 48:=by
 induction n using Nat.strongRecOn with
 |_ n ih=>
  rw[Lib.decDigits];split
  ·next h=>
   intro he;have he':=congrArg UInt8.toNat (Option.some.inj he);rw[ofNat_toNat (48+n) (by omega)] at he';have:(48:UInt8).toNat=48:=rfl;omega
  ·next h=>
   rw[List.head?_append,Option.or_of_isSome (by rw[List.isSome_head?];simp[qY])];exact ih (n / 10) (by omega) (by omega)
theorem PK (n:Nat):oO (Lib.decDigits n)=true:=by
 unfold oO;rw[mV];have h1:(Lib.decDigits n).isEmpty=false:=by simp[qY]
 rw[h1];by_cases h0:n=0
 ·subst h0;decide+kernel
 ·have:=ZG n h0;have h2:((Lib.decDigits n).head?==some 48)=false:=by rw[beq_eq_false_iff_ne];exact this
  rw[h2];simp
theorem Nl (n:Nat):eF (Lib.decDigits n)=(aC n,true):=by
 unfold eF;rw[if_pos (PK n),Uh]
theorem ZH (l:List UInt8) (h:∀c∈l,c≠47):Lib.cut l [47]=(l,[],false):=QI fun hc=>h _ hc rfl
theorem aew (l m:List UInt8) (h:∀c∈l,c≠47):Lib.cut (l++([47]++m)) [47]=(l,m,true):=IW m fun hc=>h _ hc rfl
theorem oZ (c:UInt8) (l:List UInt8):Lib.hasPrefix l [c]=(l.head?==some c):=by
 cases l with
 |nil=>rfl
 |cons d l=>
  unfold Lib.hasPrefix;simp[List.isPrefixOf];exact Bool.eq_iff_iff.2 (by simp;exact eq_comm)
theorem xQ {a:Ra} (h:okR a=true):a.num=aC (ay a.num)/\a.den=aC (ay a.den)/\0<ay a.den/\low a.neg (ay a.num) (ay a.den)=a/\fD a=a:=by
 have hv:fD a=a:=by unfold fD;rw[if_pos h]
 unfold okR at h;simp only[Bool.and_eq_true,decide_eq_true_eq] at h;exact⟨(gq _).1 h.1.2,(gq _).1 h.1.1.1,h.1.1.2,h.2,hv⟩
theorem Ah {a:Ra} (h:okR a=true):(aO a).data.toList=(if a.neg then [45] else [])++(Lib.decDigits (ay a.num)++(if a.den=aC 1 then [] else [47]++Lib.decDigits (ay a.den))):=by
 obtain⟨_,_,_,_,hv⟩:=xQ h;have hx:∀x y:ByteArray,(x++y).data.toList=x.data.toList++y.data.toList:=fun x y=>by rw[ByteArray.data_append,Array.toList_append]
 unfold aO;rw[hv];simp only
 split<;>split<;>simp[hx,kF]
theorem Np {n:Nat} (x:UInt8) (hx:fM x=false):∀c∈Lib.decDigits n,c≠x:=by
 intro c hc h;have:=List.all_eq_true.1 (mV n) c hc;rw[h,hx] at this;cases this
theorem WT {a:Ra} (h:okR a=true):wK (aO a).data.toList=(a.neg,Lib.decDigits (ay a.num),Lib.decDigits (ay a.den)):=by
 obtain⟨_,hd,_,_,_⟩:=xQ h;rw[Ah h];obtain⟨c,m,hcm⟩:∃c m,Lib.decDigits (ay a.num)=c::m:=List.exists_cons_of_ne_nil (qY _);have hc:c≠45:=Np 45 (by decide) c (by rw[hcm];exact List.mem_cons_self ..)
 have hp:Lib.hasPrefix ((if a.neg then [45] else [])++(Lib.decDigits (ay a.num)++(if a.den=aC 1 then [] else [47]++Lib.decDigits (ay a.den)))) [45]=a.neg:=by
  rw[oZ,hcm];cases a.neg
  ·simp[hc]
  ·simp
 have ht:Lib.trimPrefix ((if a.neg then [45] else [])++(Lib.decDigits (ay a.num)++(if a.den=aC 1 then [] else [47]++Lib.decDigits (ay a.den)))) [45]=Lib.decDigits (ay a.num)++(if a.den=aC 1 then [] else [47]++Lib.decDigits (ay a.den)):=by
  unfold Lib.trimPrefix;rw[hp];cases a.neg<;>simp
 unfold wK;rw[hp,ht];by_cases h1:a.den=aC 1
 ·rw[if_pos h1,List.append_nil,ZH _ (Np 47 (by decide))];have:ay a.den=1:=by rw[h1,bJ]
  rw[this];simp[show Lib.decDigits 1=[49] from by decide+kernel]
 ·rw[if_neg h1,aew _ _ (Np 47 (by decide))];simp
theorem nD (a:Ra) (h:okR a=true):dU (aO a)=(a,true):=by
 obtain⟨hn,hd,h0,hl,_⟩:=xQ h
 have hm:BQ a.neg (aC (ay a.num)) (aC (ay a.den))=(a,true):=by
  unfold BQ;rw[if_pos (by rw[<-hn,<-hd];unfold okR at h;simp only[Bool.and_eq_true,decide_eq_true_eq] at h⊢;exact⟨⟨h.1.1.1,h0⟩,h.1.2⟩),bJ,bJ,hl]
 unfold dU;simp only[WT h,Nl,hm]
 simp
def oG:List UInt8:=[45,47,48,49,50,51,52,53,54,55,56,57]
theorem acP (c:UInt8):oG.contains c=(fM c||decide (c=45)||decide (c=47)):=qH (oG.contains ·) (fun c=>fM c||decide (c=45)||decide (c=47)) (by decide+kernel) c
theorem JW {a:Ra} (h:okR a=true):∀c∈(aO a).data.toList,oG.contains c=true:=by
 rw[Ah h]
 have hd:∀(n:Nat),∀c∈Lib.decDigits n,oG.contains c=true:=fun n c hc=>by
  rw[acP,List.all_eq_true.1 (mV n) c hc];rfl
 intro c hc;rcases List.mem_append.1 hc with hc|hc
 ·split at hc
  ·obtain rfl:c=45:=by simpa using hc
   rfl
  ·cases hc
 ·rcases List.mem_append.1 hc with hc|hc
  ·exact hd _ c hc
  ·split at hc
   ·cases hc
   ·rcases List.mem_append.1 hc with hc|hc
    ·obtain rfl:c=47:=by simpa using hc
     rfl
    ·exact hd _ c hc
theorem G6 {a:Ra} (h:okR a=true):∃c l,(aO a).data.toList=c::l/\(fM c=true∨c=45):=by
 rw[Ah h];obtain⟨c,m,hcm⟩:∃c m,Lib.decDigits (ay a.num)=c::m:=List.exists_cons_of_ne_nil (qY _);have hc:=List.all_eq_true.1 (mV (ay a.num)) c (by rw[hcm];exact List.mem_cons_self ..);cases a.neg
 ·exact⟨c,_,by rw[hcm];rfl,.inl hc⟩
 ·exact⟨45,_,rfl,.inr rfl⟩
def dX (cs s:List UInt8):List UInt8:=s.takeWhile (cs.contains ·)
def gB (cs s:List UInt8):List UInt8:=s.dropWhile (cs.contains ·)
theorem acQ (cs s:List UInt8):dX cs s++gB cs s=s:=List.takeWhile_append_dropWhile
theorem wV (cs x r:List UInt8) (hx:∀c∈x,cs.contains c=true) (hr:∀c,r.head?=some c->cs.contains c=false):dX cs (x++r)=x/\gB cs (x++r)=r:=by
 have hp:∀r:List UInt8,(∀c,r.head?=some c->cs.contains c=false)->dX cs r=[]/\gB cs r=r:=by
  intro r hr;cases r with
  |nil=>exact⟨rfl,rfl⟩
  |cons c r=>
   have hcc:¬(cs.contains c=true):=by rw[hr c rfl];simp
   exact⟨List.takeWhile_cons_of_neg hcc,List.dropWhile_cons_of_neg hcc⟩
 induction x with
 |nil=>exact hp r hr
 |cons c x ih=>
  have hc:=hx c (List.mem_cons_self ..);obtain⟨h1,h2⟩:=ih (fun d hd=>hx d (List.mem_cons_of_mem _ hd));unfold dX gB at*;rw[List.cons_append,List.takeWhile_cons_of_pos (by exact hc),List.dropWhile_cons_of_pos (by exact hc),h1,h2];exact⟨rfl,rfl⟩
def wW:List UInt8:=[45,48,49,50,51,52,53,54,55,56,57]
theorem IX (c:UInt8):wW.contains c=(fM c||decide (c=45)):=qH (wW.contains ·) (fun c=>fM c||decide (c=45)) (by decide+kernel) c
def nd (op:Int) (a:Ra) (nm:List UInt8):Nd:=⟨op,a,⟨nm.toArray⟩⟩
def iT (s:List UInt8):Option (Ra × List UInt8):=
 if (dU ⟨(dX oG s).toArray⟩).2 then some ((dU ⟨(dX oG s).toArray⟩).1,gB oG s) else none
def qo (s:List UInt8):Option (Option (Nd × List UInt8)):=
 if Lib.hasPrefix s [36] then (iT (s.drop 1)).map fun q=>some (nd 1 q.1 [],q.2)
 else if s.isEmpty|| !(wW.contains (s.headD 0)) then some none
 else (iT s).map fun q=>if Lib.hasPrefix q.2 [100] then some (nd 2 q.1 [],q.2.drop 1) else some (nd 3 q.1 [],q.2)
abbrev PS:=List UInt8 × List Nd × Nat
def kG (k:Nat):List UInt8:=if k=0 then [40] else [44,32]
def o9 (p:List UInt8->List Nd->Nat->Option PS):Nat->Nat->List UInt8->List Nd->Nat->Option PS
 |0,_,s,ns,b=>some (s,ns,b)
 |m+1,k,s,ns,b=>if Lib.hasPrefix s (kG k) then (p (s.drop (kG k).length) ns b).bind fun q=>o9 p m (k+1) q.1 q.2.1 q.2.2 else none
def yF:List UInt8:=[121,101,115]
def Ez:List UInt8:=[110,111]
def wX (y:Bool) (s:List UInt8):Option (Ra × List UInt8):=
 if y then (if Lib.hasPrefix s [91] then (iT (s.drop 1)).bind fun q=>if Lib.hasPrefix q.2 [93] then some (q.1,q.2.drop 1) else none else none) else some (zR,s)
def jM (s:List UInt8):List UInt8 × List UInt8:=
 if Lib.hasPrefix (gB bD s) [46] then (dX bD s++[46],(gB bD s).drop 1) else (dX bD s,gB bD s)
def tailA (p:List UInt8->List Nd->Nat->Option PS) (k:Int) (s:List UInt8) (ns:List Nd) (b:Nat):Option PS:=
 (wX (aB k).dJ (if (aB k).dF then gB fG s else s)).bind fun q=>
 (o9 p (aB k).ops 0 q.2 ns b).bind fun t=>
 if 0<(aB k).ops then (if Lib.hasPrefix t.1 [41] then some (t.1.drop 1,t.2.1++[nd k q.1 (if (aB k).dF then dX fG s else [])],t.2.2) else none)
 else some (t.1,t.2.1++[nd k q.1 (if (aB k).dF then dX fG s else [])],t.2.2)
def kX:Nat->List UInt8->List Nd->Nat->Option PS
 |0,_,_,_=>none
 |f+1,s,ns,b=>
  if 60<b+1 then none else
  (qo s).bind fun
    |some q=>some (q.2,ns++[q.1],b+1)
    |none=>
     if dX bD s=yF then some (gB bD s,ns++[nd 4 (aS 1) []],b+1)
     else if dX bD s=Ez then some (gB bD s,ns++[nd 4 (aS 0) []],b+1)
     else if placeOf ⟨(jM s).1.toArray⟩<0 then none
     else tailA (kX f) (placeOf ⟨(jM s).1.toArray⟩) (jM s).2 ns (b+1)
def G7 (s:List UInt8):Option (List Nd):=
 (kX 61 s [] 0).bind fun q=>if bQ q.2.1=0/\textE q.2.1=s then some q.2.1 else none
def Stp (r:List UInt8):Prop:=∀c,r.head?=some c->c=44∨c=41
def dL:Nat->List (List Nd)->List UInt8
 |_,[]=>[]
 |k,a::cs=>kG k++textE a++dL (k+1) cs
theorem WU (cs:List (List Nd)) (k:Nat) (hk:k≠0):dL k cs=cs.flatMap fun a=>[44,32]++textE a:=by
 induction cs generalizing k with
 |nil=>rfl
 |cons a cs ih=>rw[dL,ih (k+1) (by omega),List.flatMap_cons,kG,if_neg hk]
theorem Ui (a:List UInt8) (l:List (List UInt8)):jk (a::l)=a++l.flatMap fun x=>[44,32]++x:=by
 induction l generalizing a with
 |nil=>simp[jk]
 |cons x l ih=>
  have:jk (a::x::l)=a++[44,32]++jk (x::l):=rfl;rw[this,ih x,List.flatMap_cons];simp
theorem Ci (cs:List (List Nd)) (h:cs≠[]):dL 0 cs=[40]++jk (cs.map textE):=by
 cases cs with
 |nil=>exact absurd rfl h
 |cons a cs=>
  rw[dL,WU _ _ (by omega),List.map_cons,Ui,List.flatMap_map];simp[kG]
theorem ZI (cs:List (List Nd)) (k:Nat) (hk:k≠0) (r:List UInt8):Stp (dL k cs++([41]++r)):=by
 intro c hc;cases cs with
 |nil=>
  simp[dL] at hc;exact .inr hc.symm
 |cons a cs=>
  rw[dL,kG,if_neg hk] at hc;simp at hc;exact .inl hc.symm
theorem mW (p r:List UInt8):Lib.hasPrefix (p++r) p=true:=by
 unfold Lib.hasPrefix;rw[List.isPrefixOf_iff_prefix];exact List.prefix_append _ _
theorem WV (p:List UInt8->List Nd->Nat->Option PS) (cs:List (List Nd)) (r:List UInt8)
  (hp:∀e∈cs,∀r ns b,Stp r->b+e.length<=60->p (textE e++r) ns b=some (r,ns++e,b+e.length)) (k:Nat) (ns:List Nd) (b:Nat) (hb:b+cs.flatten.length<=60):
  o9 p cs.length k (dL k cs++([41]++r)) ns b=some ([41]++r,ns++cs.flatten,b+cs.flatten.length):=by
 induction cs generalizing k ns b with
 |nil=>simp[o9,dL]
 |cons a cs ih=>
  rw[List.flatten_cons,List.length_append] at hb;have e1:dL k (a::cs)++([41]++r)=kG k++(textE a++(dL (k+1) cs++([41]++r))):=by rw[dL];simp
  rw[e1,List.length_cons,o9,if_pos (mW _ _),List.drop_left,hp a (List.mem_cons_self ..) _ _ _ (ZI _ _ (by omega) _) (by omega)];simp only[Option.bind_some]
  rw[ih (fun e he=>hp e (List.mem_cons_of_mem _ he)) (k+1) _ _ (by omega)];simp[Nat.add_assoc]
theorem QJ {r:List UInt8} (h:Stp r):∀c,r.head?=some c->oG.contains c=false:=by
 intro c hc;rcases h c hc with rfl|rfl<;>rfl
theorem Nq {r:List UInt8} (h:Stp r):∀c,r.head?=some c->bD.contains c=false:=by
 intro c hc;rcases h c hc with rfl|rfl<;>rfl
theorem ZJ {r:List UInt8} (h:Stp r):∀c,r.head?=some c->fG.contains c=false:=by
 intro c hc;rcases h c hc with rfl|rfl<;>rfl
theorem xR {a:Ra} (h:okR a=true) {r:List UInt8} (hr:∀c,r.head?=some c->oG.contains c=false):iT ((aO a).data.toList++r)=some (a,r):=by
 obtain⟨h1,h2⟩:=wV oG _ r (JW h) hr;have h3:(⟨(aO a).data.toList.toArray⟩:ByteArray)=aO a:=rfl;unfold iT;rw[h1,h2,h3,nD a h,if_pos rfl]
theorem yG {c:UInt8} {l:List UInt8} (hc:bD.contains c=true):qo (c::l)=some none:=by
 have h:=hc;rw[Ph] at h;simp only[nK,Bool.and_eq_true,decide_eq_true_eq] at h
 have h1:Lib.hasPrefix (c::l) [36]=false:=by
  rw[oZ];simp only[List.head?_cons,beq_eq_false_iff_ne,ne_eq,Option.some.injEq]
  rintro rfl;revert h;decide
 have h2:wW.contains c=false:=by
  rw[IX];simp only[fM,Bool.or_eq_false_iff,Bool.and_eq_false_iff,decide_eq_false_iff_not]
  refine⟨.inr (by omega),?_⟩;rintro rfl;revert h;decide
 unfold qo;rw[h1];simp only[Bool.false_eq_true,if_false,List.headD_cons,h2]
 simp
def nU (k:Int):List UInt8:=if (aB k).dF then (aB k).word.dropLast else (aB k).word
theorem Uj (k:Int) (h:5<=k/\k<=24):(aB k).word=nU k++(if (aB k).dF then [46] else [])/\(∃c l,nU k=c::l)/\(∀c∈nU k,bD.contains c=true)/\nU k≠yF/\nU k≠Ez/\placeOf ⟨(aB k).word.toArray⟩=k:=by
 have hall:∀j∈List.range 25,5<=j->((aB (j:Int)).word=nU j++(if (aB (j:Int)).dF then [46] else [])/\(nU j).length≠0/\(nU j).all (bD.contains ·)=true/\nU j≠yF/\nU j≠Ez/\placeOf ⟨(aB (j:Int)).word.toArray⟩=j):=by decide+kernel
 obtain⟨h1,h2,h3,h4,h5,h6⟩:=hall k.toNat (List.mem_range.2 (by omega)) (by omega);rw[show ((k.toNat:Nat):Int)=k from by omega] at*;exact⟨h1,List.exists_cons_of_ne_nil (fun h=>h2 (by rw[h];rfl)),List.all_eq_true.1 h3,h4,h5,h6⟩
theorem Uk {s:ByteArray} (h:nameB s.data.toList=true):∀c∈s.data.toList,fG.contains c=true:=by
 unfold nameB at h;simp only[Bool.and_eq_true] at h;intro c hc;rw[JF];exact List.all_eq_true.1 h.2 c hc
theorem jC {n:Nd} (h:aQ n=0):1<=n.op/\n.op<=24/\((aB n.op).dF=false->n.name=⟨#[]⟩)/\gX n=true/\((aB n.op).dF=true->nameB n.name.data.toList=true):=by
 unfold aQ at h;split at h
 ·cases h
 ·next h1=>
  have h1':=fun x=>h1 (.inl x)
  have h2':=fun x=>h1 (.inr (.inl x))
  refine⟨by omega,by omega,fun hn=>Classical.byContradiction fun hh=>h1 (.inr (.inr (.inl ⟨hn,hh⟩))),?_,?_⟩
  ·cases hk:gX n
   ·exact absurd (.inr (.inr (.inr hk))) h1
   ·rfl
  ·intro hn;rw[hn] at h;cases hb:nameB n.name.data.toList
   ·rw[hb] at h;simp at h
   ·rfl
theorem aex {n:Nd} (h:aQ n=0) (h5:5<=n.op) (J:List (List UInt8)):
  txt n J=(aB n.op).word++n.name.data.toList++(if (aB n.op).dJ then [91]++(aO n.num).data.toList++[93] else [])++(if (aB n.op).ops=0 then [] else [40]++jk J++[41]):=by
 unfold txt;rw[if_neg (by omega),yX,if_neg (by rw[decide_eq_true_eq];omega),if_neg (show ¬n.op=2 by omega)];simp
theorem acR {n:Nd} (h:aQ n=0) (h5:5<=n.op):((aB n.op).dJ=true->okR n.num=true)/\((aB n.op).dJ=false->n.num=zR):=by
 obtain⟨_,_,_,hn,_⟩:=jC h;unfold gX at hn;rw[if_neg (by omega),yX,if_neg (by rw[decide_eq_true_eq];omega)] at hn;constructor
 ·intro hs;rw[if_pos hs] at hn;unfold aV at hn;simp only[Bool.and_eq_true] at hn;exact hn.1.1.1
 ·intro hs;rw[hs,if_neg (by simp)] at hn;exact of_decide_eq_true hn
theorem IY {n:Nd} (h:aQ n=0) (h5:n.op<4):okR n.num=true:=by
 obtain⟨h1,_,_,hn,_⟩:=jC h;unfold gX at hn;rw[if_neg (by omega),yX,if_pos (decide_eq_true (by omega))] at hn;unfold aV at hn;simp only[Bool.and_eq_true] at hn;exact hn.1.1
theorem ZK (k:Int) (h:5<=k/\k<=24):(aB k).dF=true∨(aB k).ops≠0:=by
 have h1:=Qy k;have h2:=IU k;by_cases hn:(5<=k/\k<=8)∨k=24
 ·exact .inl (by rw[h1];exact decide_eq_true hn)
 ·refine .inr ?_;intro h0;rw[h0] at h2;split at h2
  ·omega
  ·split at h2
   ·omega
   ·split at h2<;>omega
theorem drop_one (c:UInt8) (x:List UInt8):([c]++x).drop 1=x:=rfl
theorem af9 {n:Nd} {op:Int} {a:Ra} {nm:List UInt8} (h1:op=n.op) (h2:a=n.num) (h3:(⟨nm.toArray⟩:ByteArray)=n.name):nd op a nm=n:=by
 obtain⟨o,x,y⟩:=n;subst h1 h2 h3;rfl
theorem Ul (p:List UInt8->List Nd->Nat->Option PS) {n:Nd} (hn:aQ n=0) (h5:5<=n.op) (cs:List (List Nd)) (hl:cs.length=(aB n.op).ops) (r:List UInt8) (hr:Stp r) (ns:List Nd) (b:Nat)
  (hops:o9 p cs.length 0 (dL 0 cs++([41]++r)) ns b=some ([41]++r,ns++cs.flatten,b+cs.flatten.length)):
  tailA p n.op (n.name.data.toList++((if (aB n.op).dJ then [91]++(aO n.num).data.toList++[93] else [])++((if (aB n.op).ops=0 then [] else [40]++jk (cs.map textE)++[41])++r))) ns b
   =some (r,ns++(cs.flatten++[n]),b+cs.flatten.length):=by
 obtain⟨_,uN,hne,_,hnb⟩:=jC hn;obtain⟨hz1,hz2⟩:=acR hn h5
 have hO:(if (aB n.op).ops=0 then [] else [40]++jk (cs.map textE)++[41])++r=if (aB n.op).ops=0 then r else dL 0 cs++([41]++r):=by
  split
  ·rfl
  ·next h0=>
   rw[Ci cs (by intro h;rw[h] at hl;exact h0 hl.symm)];simp
 rw[hO]
 have hhead:∀c,((if (aB n.op).dJ then [91]++(aO n.num).data.toList++[93] else [])++(if (aB n.op).ops=0 then r else dL 0 cs++([41]++r))).head?=some c->fG.contains c=false:=by
  intro c hc;cases hs:(aB n.op).dJ
  ·rw[hs,if_neg (by simp),List.nil_append] at hc;split at hc
   ·exact ZJ hr c hc
   ·next h0=>
    rw[Ci cs (by intro h;rw[h] at hl;exact h0 hl.symm)] at hc;obtain rfl:40=c:=by simpa using hc
    rfl
  ·rw[hs,if_pos rfl] at hc;obtain rfl:91=c:=by simpa using hc
   rfl
 have ZL:(if (aB n.op).dF then gB fG (n.name.data.toList++((if (aB n.op).dJ then [91]++(aO n.num).data.toList++[93] else [])++(if (aB n.op).ops=0 then r else dL 0 cs++([41]++r)))) else (n.name.data.toList++((if (aB n.op).dJ then [91]++(aO n.num).data.toList++[93] else [])++(if (aB n.op).ops=0 then r else dL 0 cs++([41]++r)))))
   =((if (aB n.op).dJ then [91]++(aO n.num).data.toList++[93] else [])++(if (aB n.op).ops=0 then r else dL 0 cs++([41]++r)))/\
   (⟨(if (aB n.op).dF then dX fG (n.name.data.toList++((if (aB n.op).dJ then [91]++(aO n.num).data.toList++[93] else [])++(if (aB n.op).ops=0 then r else dL 0 cs++([41]++r)))) else []).toArray⟩:ByteArray)=n.name:=by
  cases hm:(aB n.op).dF
  ·rw[hne hm];simp
  ·obtain⟨s1,s2⟩:=wV fG n.name.data.toList _ (Uk (hnb hm)) hhead;rw[if_pos rfl,if_pos rfl,s1,s2];exact⟨rfl,rfl⟩
 obtain⟨e1,e2⟩:=ZL
 have hst:wX (aB n.op).dJ ((if (aB n.op).dJ then [91]++(aO n.num).data.toList++[93] else [])++(if (aB n.op).ops=0 then r else dL 0 cs++([41]++r)))=some (n.num,(if (aB n.op).ops=0 then r else dL 0 cs++([41]++r))):=by
  cases hs:(aB n.op).dJ
  ·rw[hz2 hs];rfl
  ·unfold wX
   rw[if_pos rfl,if_pos rfl,List.append_assoc,List.append_assoc,if_pos (mW _ _),drop_one,
    xR (hz1 hs) (by intro c hc;obtain rfl:93=c:=by simpa using hc
                    rfl)]
   simp only[Option.bind_some]
   rw[if_pos (mW _ _)];rfl
 unfold tailA;rw[e1,hst];simp only[Option.bind_some]
 have aga:nd n.op n.num (if (aB n.op).dF then dX fG (n.name.data.toList++((if (aB n.op).dJ then [91]++(aO n.num).data.toList++[93] else [])++(if (aB n.op).ops=0 then r else dL 0 cs++([41]++r)))) else [])=n:=af9 rfl rfl e2;rw[aga];by_cases h0:(aB n.op).ops=0
 ·have hcs:cs=[]:=List.eq_nil_of_length_eq_zero (by omega);subst hcs;rw[if_pos h0,h0];simp[o9]
 ·rw[if_neg h0,<-hl,hops];simp only[Option.bind_some]
  rw[if_pos (by omega),if_pos (mW _ _)];simp
theorem WW (f:Nat):∀e:List Nd,Ex f e->∀r ns b,Stp r->b+e.length<=60->kX f (textE e++r) ns b=some (r,ns++e,b+e.length):=by
 induction f with
 |zero=>intro e h;exact h.elim
 |succ f ih=>
  rintro e ⟨cs,n,rfl,hn,hl,ha⟩ r ns b hr hb;have hlen:(cs.flatten++[n]).length=cs.flatten.length+1:=by simp
  rw[hlen] at hb⊢;rw[zX hl ha];have hops:=WV (kX f) cs r (fun e he r ns b hr hb=>ih e (ha e he) r ns b hr hb) 0 ns (b+1) (by omega);rw[kX,if_neg (by omega)];obtain⟨h1,uN,hne,hnum,hnb⟩:=jC hn;by_cases h5:5<=n.op
  ·obtain⟨w1,⟨c,l,w2⟩,w3,w4,w5,w6⟩:=Uj n.op ⟨h5,uN⟩;rw[aex hn h5];obtain⟨T,hT⟩:=zE (n.name.data.toList++((if (aB n.op).dJ then [91]++(aO n.num).data.toList++[93] else [])++((if (aB n.op).ops=0 then [] else [40]++jk (cs.map textE)++[41])++r)))
   have htx:((aB n.op).word++n.name.data.toList++(if (aB n.op).dJ then [91]++(aO n.num).data.toList++[93] else [])++(if (aB n.op).ops=0 then [] else [40]++jk (cs.map textE)++[41]))++r=nU n.op++((if (aB n.op).dF then [46] else [])++T):=by
    rw[hT,w1];simp
   rw[htx]
   have hhd:∀c,((if (aB n.op).dF then [46] else [])++T).head?=some c->bD.contains c=false/\((aB n.op).dF=false->c≠46):=by
    intro c hc;cases hm:(aB n.op).dF
    ·rw[hm,if_neg (by simp),List.nil_append,hT,hne hm] at hc
     have h0:(aB n.op).ops≠0:=by
      rcases ZK n.op ⟨h5,uN⟩ with h|h
      ·rw[hm] at h;cases h
      ·exact h
     rw[if_neg h0] at hc;cases hs:(aB n.op).dJ
     ·rw[hs] at hc;obtain rfl:40=c:=by simpa using hc
      exact⟨rfl,fun _=>by decide⟩
     ·rw[hs] at hc;obtain rfl:91=c:=by simpa using hc
      exact⟨rfl,fun _=>by decide⟩
    ·rw[hm,if_pos rfl] at hc;obtain rfl:46=c:=by simpa using hc
     exact⟨rfl,fun h=>by cases h⟩
   obtain⟨s1,s2⟩:=wV bD (nU n.op) _ w3 (fun c hc=>(hhd c hc).1)
   have hd:jM (nU n.op++((if (aB n.op).dF then [46] else [])++T))=((aB n.op).word,T):=by
    unfold jM;rw[s1,s2];cases hm:(aB n.op).dF
    ·rw[hm] at w1
     have hp:Lib.hasPrefix ((if false=true then [46] else [])++T) [46]=false:=by
      rw[oZ,beq_eq_false_iff_ne];intro hh;exact (hhd 46 (by rw[hm];exact hh)).2 hm rfl
     rw[hp,w1];simp
    ·rw[hm] at w1;rw[if_pos (by rw[if_pos rfl];exact mW _ _),w1];simp
   have hlit:qo (nU n.op++((if (aB n.op).dF then [46] else [])++T))=some none:=by
    rw[w2,List.cons_append];exact yG (w3 c (by rw[w2];exact List.mem_cons_self ..))
   rw[hlit];simp only[Option.bind_some]
   rw[s1,if_neg w4,if_neg w5,hd,w6,if_neg (by omega),hT,Ul (kX f) hn h5 cs hl r hr ns (b+1) hops];simp only[Nat.add_assoc,Nat.add_comm 1]
  ·have h0:(aB n.op).ops=0:=by
    have:=IU n.op;rw[if_neg (by omega),if_neg (by omega),if_neg (by omega)] at this;omega
   have ZL:(aB n.op).dF=false:=by rw[Qy];exact decide_eq_false (by omega)
   have hcs:cs=[]:=List.eq_nil_of_length_eq_zero (by omega);subst hcs;have hnm:=hne ZL;obtain⟨op,num,nm⟩:=n;simp only at*;subst hnm;simp only[List.flatten_nil,List.nil_append,List.length_nil,Nat.zero_add,List.map_nil]
   have hop:op=1∨op=2∨op=3∨op=4:=by omega
   rcases hop with rfl|rfl|rfl|rfl
   ·have hk:=IY hn (by simp)
    have ht:txt ⟨1,num,⟨#[]⟩⟩ []++r=[36]++((aO num).data.toList++r):=by
     show (([36]++[]++(aO num).data.toList++[]++[]++[]):List UInt8)++r=_;simp
    rw[ht];unfold qo;rw[if_pos (mW _ _),drop_one,xR hk (QJ hr)];rfl
   ·have hk:=IY hn (by simp)
    have ht:txt ⟨2,num,⟨#[]⟩⟩ []++r=(aO num).data.toList++([100]++r):=by
     show (([]++[]++(aO num).data.toList++[100]++[]++[]):List UInt8)++r=_;simp
    rw[ht]
    have hna:=xR hk (r:=[100]++r) (by intro c hc;obtain rfl:100=c:=by simpa using hc
                                      rfl)
    obtain⟨c,l,hcl,hc⟩:=G6 hk
    have ZM:c≠36:=by
     rintro rfl;rcases hc with hc|hc
     ·revert hc;decide
     ·cases hc
    have ZN:wW.contains c=true:=by
     rw[IX];rcases hc with hc|hc
     ·rw[hc];rfl
     ·rw[hc];rfl
    unfold qo;rw[if_neg (by rw[oZ,hcl];simp[ZM]),if_neg (by rw[hcl];simp;simpa using ZN),hna];simp only[Option.map_some,Option.bind_some]
    rw[if_pos (mW _ _)];rfl
   ·have hk:=IY hn (by simp)
    have ht:txt ⟨3,num,⟨#[]⟩⟩ []++r=(aO num).data.toList++r:=by
     show (([]++[]++(aO num).data.toList++[]++[]++[]):List UInt8)++r=_;simp
    rw[ht];have hna:=xR hk (QJ hr);obtain⟨c,l,hcl,hc⟩:=G6 hk
    have ZM:c≠36:=by
     rintro rfl;rcases hc with hc|hc
     ·revert hc;decide
     ·cases hc
    have ZN:wW.contains c=true:=by
     rw[IX];rcases hc with hc|hc
     ·rw[hc];rfl
     ·rw[hc];rfl
    unfold qo;rw[if_neg (by rw[oZ,hcl];simp[ZM]),if_neg (by rw[hcl];simp;simpa using ZN),hna];simp only[Option.map_some,Option.bind_some]
    rw[if_neg (by
     rw[oZ];intro hh;rcases hr 100 (by simpa using hh) with h|h<;>revert h<;>decide)]
    rfl
   ·have hw:(num=aS 0/\txt ⟨4,num,⟨#[]⟩⟩ []=Ez)∨(num=aS 1/\txt ⟨4,num,⟨#[]⟩⟩ []=yF):=by
     unfold gX at hnum;rw[if_pos rfl,Bool.or_eq_true,decide_eq_true_eq,decide_eq_true_eq] at hnum;rcases hnum with rfl|rfl
     ·exact .inl ⟨rfl,by unfold txt;rw[if_pos rfl,if_pos (show (aS 0).num=⟨#[]⟩ from rfl)];rfl⟩
     ·exact .inr ⟨rfl,by unfold txt;rw[if_pos rfl,if_neg (show ¬(aS 1).num=⟨#[]⟩ from by decide)];rfl⟩
    rcases hw with⟨rfl,ht⟩|⟨rfl,ht⟩
    ·rw[ht];obtain⟨s1,s2⟩:=wV bD Ez r (by decide) (Nq hr);rw[show Ez++r=110::([111]++r) from rfl,yG (by decide)];simp only[Option.bind_some]
     rw[show 110::([111]++r)=Ez++r from rfl,s1,s2,if_neg (by decide),if_pos rfl];rfl
    ·rw[ht];obtain⟨s1,s2⟩:=wV bD yF r (by decide) (Nq hr);rw[show yF++r=121::([101,115]++r) from rfl,yG (by decide)];simp only[Option.bind_some]
     rw[show 121::([101,115]++r)=yF++r from rfl,s1,s2,if_pos rfl];rfl
theorem Ex.len (k:Nat):∀e,Ex k e->Ex e.length e:=by
 induction k with
 |zero=>intro e h;exact h.elim
 |succ k ih=>
  rintro e ⟨cs,n,rfl,hn,hl,ha⟩;rw[List.length_append,List.length_singleton];refine⟨cs,n,rfl,hn,hl,fun a hm=>(ih a (ha a hm)).mono ?_⟩;exact (List.sublist_flatten_of_mem hm).length_le
theorem JX {e:List Nd} (h:bQ e=0):Ex 61 e:=by
 obtain⟨h1,k,hk⟩:=(oU e).1 h;exact (hk.len k e).mono (by omega)
theorem Um (s:List UInt8) (e:List Nd):G7 s=some e↔bQ e=0/\textE e=s:=by
 unfold G7;constructor
 ·intro h;obtain⟨q,_,h2⟩:=Option.bind_eq_some_iff.1 h;split at h2
  ·next hc=>obtain rfl:=Option.some.inj h2;exact hc
  ·cases h2
 ·rintro⟨h1,rfl⟩;have h2:=WW 61 e (JX h1) [] [] 0 (by intro c hc;cases hc) (by have:=((oU e).1 h1).1;omega);rw[List.append_nil,List.nil_append] at h2;rw[h2];simp only[Option.bind_some]
  rw[if_pos (by exact⟨h1,by trivial⟩)]
def lc (l:List UInt8):List Value:=l.map fun b=>.int .u8 b.toNat
theorem WX (a b:List UInt8):lc (a++b)=lc a++lc b:=List.map_append
theorem Nr (a:List UInt8):(lc a).length=a.length:=List.length_map _
structure Sub (e:List Nd) (args:List (List Nat)) (o:Nat) (a:List Nd):Prop where
 node:∀i,i<a.length->e[o+i]?=a[i]?
 args:∀i,i<a.length->args[o+i]?=(iJ a o [])[i]?
theorem rD (o:Nat) (cs:List (List Nd)):(nP o cs).length=cs.flatten.length:=by
 induction cs generalizing o with
 |nil=>rfl
 |cons a cs ih=>rw[nP,List.length_append,pz,ih,List.flatten_cons,List.length_append]
theorem Ns (o:Nat) (cs ds:List (List Nd)):nP o (cs++ds)=nP o cs++nP (o+cs.flatten.length) ds:=by
 induction cs generalizing o with
 |nil=>rfl
 |cons a cs ih=>rw[List.cons_append,nP,nP,ih,List.flatten_cons,List.length_append,List.append_assoc,Nat.add_assoc]
theorem Nu (o:Nat) (cs ds:List (List Nd)):roots o (cs++ds)=roots o cs++roots (o+cs.flatten.length) ds:=by
 induction cs generalizing o with
 |nil=>rfl
 |cons a cs ih=>rw[List.cons_append,roots,roots,ih,List.flatten_cons,List.length_append,List.cons_append,Nat.add_assoc]
theorem Sub.root {e:List Nd} {args:List (List Nat)} {o k:Nat} {cs:List (List Nd)} {n:Nd} (h:Sub e args o (cs.flatten++[n])) (hl:cs.length=(aB n.op).ops) (ha:∀a∈cs,Ex k a):
  e[o+cs.flatten.length]?=some n/\args[o+cs.flatten.length]?=some (roots o cs):=by
 refine⟨?_,?_⟩
 ·rw[h.node _ (by simp),List.getElem?_append_right (Nat.le_refl _)];simp
 ·rw[h.args _ (by simp),Ep hl ha,List.getElem?_append_right (by rw[rD];exact Nat.le_refl _),rD];simp
theorem Sub.child {e:List Nd} {args:List (List Nat)} {o k:Nat} {cs ds:List (List Nd)} {c:List Nd} {n:Nd} (h:Sub e args o ((cs++c::ds).flatten++[n])) (hl:(cs++c::ds).length=(aB n.op).ops) (ha:∀a∈cs++c::ds,Ex k a):
  Sub e args (o+cs.flatten.length) c:=by
 have hf:(cs++c::ds).flatten++[n]=cs.flatten++(c++(ds.flatten++[n])):=by simp
 have hlen:∀i,i<c.length->cs.flatten.length+i<((cs++c::ds).flatten++[n]).length:=fun i hi=>by rw[hf];simp;omega
 refine⟨fun i hi=>?_,fun i hi=>?_⟩
 ·rw[Nat.add_assoc,h.node _ (hlen i hi),hf,List.getElem?_append_right (by omega),Nat.add_sub_cancel_left,List.getElem?_append_left hi]
 ·rw[Nat.add_assoc,h.args _ (hlen i hi),Ep hl ha,Ns,nP,List.append_assoc,List.append_assoc,List.getElem?_append_right (by rw[rD];omega),rD,Nat.add_sub_cancel_left,
   List.getElem?_append_left (by rw[pz];exact hi)]
theorem WY (o:Nat) (cs ds:List (List Nd)) (c:List Nd):(roots o (cs++c::ds))[cs.length]?=some (o+cs.flatten.length+c.length-1):=by
 rw[Nu,List.getElem?_append_right (by rw[oz];exact Nat.le_refl _),oz,Nat.sub_self];rfl
theorem Sub.whole {e:List Nd}:Sub e (lG e) 0 e:=⟨fun i _=>by rw[Nat.zero_add],fun i _=>by rw[Nat.zero_add];rfl⟩
theorem WZ (k:Nat):∀a:List Nd,Ex k a->(∀n∈a,Fine n)->(textE a).length+2<=7000002*a.length:=by
 induction k with
 |zero=>intro a h;exact h.elim
 |succ k ih=>
  rintro a ⟨cs,n,rfl,hn,hl,ha⟩ hf;rw[zX hl ha];have h1:=acL hn (hf n (by simp)) (cs.map textE)
  have h2:∀ds:List (List Nd),(∀a∈ds,Ex k a)->(∀n∈ds.flatten,Fine n)->((ds.map textE).map List.length).sum+2*ds.length<=7000002*ds.flatten.length:=by
   intro ds
   induction ds with
   |nil=>intro _ _;simp
   |cons d ds ihd=>
    intro ha hf;have h3:=ih d (ha d (by simp)) (fun n hn=>hf n (by simp[hn]));have h4:=ihd (fun a h=>ha a (by simp[h])) (fun n hn=>hf n (by simp only[List.flatten_cons,List.mem_append];exact .inr hn));simp only[List.map_cons,List.sum_cons,List.length_cons,List.flatten_cons,List.length_append]
    omega
  have h5:=h2 cs ha (fun n hn=>hf n (by simp only[List.mem_append];exact .inl hn));rw[List.length_map] at h1;rw[List.length_append,List.length_singleton];omega
structure BF (b:Nat) (w w':World):Prop where
 size:w.heap.size<=w'.heap.size
 keep:∀k cs t fr,w.heap[k]?=some (.cells cs t fr)->t≠5->k≠b->w'.heap[k]?=some (.cells cs t fr)
theorem BF.refl (b:Nat) (w:World):BF b w w:=⟨Nat.le_refl _,fun _ _ _ _ h _ _=>h⟩
theorem BF.trans {b:Nat} {w w' w'':World} (h:BF b w w') (k:BF b w' w''):BF b w w'':=⟨Nat.le_trans h.size k.size,fun i cs t fr hi ht hb=>k.keep i cs t fr (h.keep i cs t fr hi ht hb) ht hb⟩
theorem lt_of_some {w:World} {k:Nat} {x:Obj} (h:w.heap[k]?=some x):k<w.heap.size:=(Array.getElem?_eq_some_iff.1 h).1
theorem BF.of_below {b:Nat} {w w':World} (h:Below w.heap.size w w'):BF b w w':=⟨h.size,fun k cs t fr hk _ _=>(h.block k (lt_of_some hk)).trans hk⟩
theorem BF.set {b:Nat} {w w':World} (h:BF b w w') (i:Nat) (u:Value):BF b w (w'.setCell ⟨b,i,none⟩ u):=
 ⟨by simpa [World.setCell] using h.size,fun k cs t fr hk ht hb=>(Below.heap_setCell w' _ u k (by show k≠b;exact hb)).trans (h.keep k cs t fr hk ht hb)⟩
theorem BF.blk {b k:Nat} {w w':World} {t:TypeId} {cs:List Value} (h:BF b w w') (hk:aj w k t cs) (ht:t≠5) (hb:k≠b):aj w' k t cs:=h.keep k _ _ _ hk ht hb
theorem BF.grown {b B n:Nat} {w w':World} {v:Value} {xs:List Value} (hown:w.ownsRow B 5 1 v n xs) (hg:w.grownBy w' v.ownBlock):BF b w w':=by
 refine⟨hg.size,fun k cs t fr hk ht _=>(hg.block k (lt_of_some hk) ?_).trans hk⟩;intro he;rcases hown.2 with⟨rfl,_⟩|⟨g,cap,cur,rfl,_,hh,_⟩
 ·cases he
 ·have:k=g:=by simpa [Value.ownBlock] using he
  subst this;rw[hk] at hh;injection hh with hh;injection hh with _ h2;exact ht h2
theorem agb (B b:Nat) (bs:List Value) (w:World) (h:Lib.IsBuilder 78 5 B b bs w):
  Calls Tryz.prog 162 #[.pointer (some ⟨b,0,none⟩)] w fun e w'=>e=.returned (.tuple #[])/\(Lib.BuilderAt 78 5 B b (.pointer (some ⟨b,0,none⟩)) bs w'/\Below B w w'/\BF b w w'):=by
 rcases h with h|h
 ·refine (Zt b w h.cell0 h.shape h.frozen0).mono ?_;rintro e w' ⟨rfl,rfl⟩;exact⟨rfl,h.used _,(Below.refl B w).setCell (p:=⟨b,0,none⟩) h.1 _,(BF.refl b w).set 0 _⟩
 ·refine (QC b w h.cell0).mono ?_;rintro e w' ⟨rfl,rfl⟩;exact⟨rfl,h,Below.refl B _,BF.refl b _⟩
theorem Nv (B b:Nat) (bs:List Value) (s:ByteArray) (w:World) (h:Lib.IsBuilder 78 5 B b bs w) (hlen:bs.length+s.size<=140737488355328) (hBw:B<=w.heap.size):
  Calls Tryz.prog 121 #[.pointer (some ⟨b,0,none⟩),.string s] w fun e w'=>e=.returned (.tuple #[.int .i64 s.size,.nilIface])/\(Lib.BuilderAt 78 5 B b (.pointer (some ⟨b,0,none⟩)) (bs++lc s.data.toList) w'/\Below B w w'/\BF b w w'):=by
 obtain⟨i0,hi,hz0,hz1,hz2⟩:=info_parts (show (Tryz.prog.info? 5).map (fun i=>(i.zero,i.size,i.bytes))=some (some (.int .u8 0),1,1) by kernel_rfl);have HC:=zH (agb B b bs w h);go_enter Tryz.func121,Tryz.ntmps121;go_wp2_with fail;refine HC.out.mono ?_;rintro e w1 ⟨rfl,h1,hb1,hf1⟩;obtain⟨hB,v,hbk,hown,hne⟩:=h1;have c0:w1.cell? ⟨b,0,none⟩=some (.pointer (some ⟨b,0,none⟩)):=by rw[Lib.cell_of_heap hbk];rfl
 have c1:w1.cell? ⟨b,1,none⟩=some v:=by rw[Lib.cell_of_heap hbk];rfl
 go_wp2_with (at_builtin;refine Lib.wpList_append_own_string _ rfl _ _ 76 9 rfl B 5 i0 Tryz.underlying76 Tryz.underlying9 hi hz0 hz1 hz2 _ _ _ rfl hown s rfl ?c3 ?c4 ?c5 ?_)
 case c3=>unfold maxLen;omega
 case c4=>omega
 case c5=>have:=hb1.size;omega
 intro v' w2 hown' hgrow _
 have hlt:b<w1.heap.size:=by
  rcases Nat.lt_or_ge b w1.heap.size with h'|h'
  ·exact h'
  ·simp[Array.getElem?_eq_none h'] at hbk
 have hb2:w2.heap[b]?=some (.cells #[.pointer (some ⟨b,0,none⟩),v] 78 (0,0)):=by
  rw[hgrow.block b hlt (fun e=>hne e.symm)];exact hbk
 have d0:w2.cell? ⟨b,0,none⟩=some (.pointer (some ⟨b,0,none⟩)):=by rw[Lib.cell_of_heap hb2];rfl
 have d1:w2.cell? ⟨b,1,none⟩=some v:=by rw[Lib.cell_of_heap hb2];rfl
 have f1:w2.frozen? ⟨b,1,none⟩=false:=Lib.frozen_of_heap hb2 1;have HF:Hid (BF b w w2):=hf1.trans (BF.grown hown hgrow);clear hf1
 obtain⟨ao,n',cap,rfl⟩:∃ao n' cap,v'=.slice ao n' cap:=by
  rcases hown'.2 with⟨hv,_⟩|⟨g,cap,cur,hv,_⟩
  ·exact⟨_,_,_,hv⟩
  ·exact⟨_,_,_,hv⟩
 go_wp2;go_ret2;refine⟨rfl,?_,?_,HF.out.set 1 _⟩
 ·exact Lib.BuilderAt.put (T:=78) (e:=5) hB hb2 (bs':=bs++lc s.data.toList) (by simpa [Lib.strCells_length,lc,Lib.strCells] using hown') (by decide)
 ·exact (hb1.grown hgrow (by have:=hb1.size;omega) (fun k hk=>(hown.lt k hk).1)).setCell (p:=⟨b,1,none⟩) hB _
theorem Cj {T e:TypeId} {B b:Nat} {p:Value} {bs:List Value} {w w':World} (h:Lib.BuilderAt T e B b p bs w) (hb:Below w.heap.size w w'):Lib.BuilderAt T e B b p bs w':=by
 obtain⟨h1,v,h2,h3,h4⟩:=h;exact⟨h1,v,(hb.block b (lt_of_some h2)).trans h2,own_below h3 hb,h4⟩
theorem Cm {T e:TypeId} {B b:Nat} {bs:List Value} {w w':World} (h:Lib.IsBuilder T e B b bs w) (hb:Below w.heap.size w w'):Lib.IsBuilder T e B b bs w':=h.imp (fun h=>Cj h hb) (fun h=>Cj h hb)
theorem Xa {T e:TypeId} {B b:Nat} {bs:List Value} {w:World} (h:Lib.IsBuilder T e B b bs w):b<w.heap.size:=by
 rcases h with h|h<;>exact h.lt
theorem Xb (W:World) (r:Nat) (hr:r=W.heap.size):∃W2 W3:World,
  (Instr.mapUpdate 233 (.map (some r)) (.bool true) (.string ⟨#[121,101,115]⟩)).run Tryz.prog (W.alloc (.map #[] 0))=.ok () W2/\
  (Instr.mapUpdate 233 (.map (some r)) (.bool false) (.string ⟨#[110,111]⟩)).run Tryz.prog W2=.ok () W3/\
  (Instr.lookup 233 (.map (some r)) (.bool true) false).run Tryz.prog W3=.ok (.string ⟨#[121,101,115]⟩) W3/\
  (Instr.lookup 233 (.map (some r)) (.bool false) false).run Tryz.prog W3=.ok (.string ⟨#[110,111]⟩) W3/\Below W.heap.size W W3:=by
 subst hr;have hm:=Tryz.underlying233;have hk:=Tryz.underlying4;have hc:∀(x b:Bool) (w:World),(Instr.checkKey b 10000 4 (.bool x)).run Tryz.prog w=.ok () w:=fun x b w=>MapKept.run_checkKey (k:=.bool x) hk (by simp[MapKept.IsKey]) b 9999
 obtain⟨W1,hW1⟩:=zE (W.alloc (.map #[] 0));have hb1:W1.heap[W.heap.size]?=some (.map #[] 0):=by rw[hW1];unfold World.alloc;simp
 have h1:(Instr.mapUpdate 233 (.map (some W.heap.size)) (.bool true) (.string ⟨#[121,101,115]⟩)).run Tryz.prog W1=.ok () {W1 with heap:=W1.heap.setIfInBounds W.heap.size (.map #[{key:=.bool true,val:=.string ⟨#[121,101,115]⟩,born:=0}] 1)}:=by
  have hf:Instr.findNow .bool (.bool true) ([]:List MapEntry) 0=some none:=rfl;simp[Instr.mapUpdate,run_underlying hm,MapKept.run_getObj_map hb1,hc,MapKept.run_findKey hk hf,MapKept.run_setObj_map _ hb1,Result.andThen]
 obtain⟨W2,hW2⟩:=zE (({W1 with heap:=W1.heap.setIfInBounds W.heap.size (.map #[{key:=.bool true,val:=.string ⟨#[121,101,115]⟩,born:=0}] 1)}:World));have hb2:W2.heap[W.heap.size]?=some (.map #[{key:=.bool true,val:=.string ⟨#[121,101,115]⟩,born:=0}] 1):=by rw[hW2];show (W1.heap.setIfInBounds _ _)[_]?=_;rw[Array.getElem?_setIfInBounds,if_pos rfl,if_pos (lt_of_some hb1)]
 rw[<-hW2] at h1
 have h2:(Instr.mapUpdate 233 (.map (some W.heap.size)) (.bool false) (.string ⟨#[110,111]⟩)).run Tryz.prog W2=.ok () {W2 with heap:=W2.heap.setIfInBounds W.heap.size (.map #[{key:=.bool true,val:=.string ⟨#[121,101,115]⟩,born:=0},{key:=.bool false,val:=.string ⟨#[110,111]⟩,born:=1}] 2)}:=by
  have hf:Instr.findNow .bool (.bool false) ([{key:=.bool true,val:=.string ⟨#[121,101,115]⟩,born:=0}]:List MapEntry) 0=some none:=rfl;simp[Instr.mapUpdate,run_underlying hm,MapKept.run_getObj_map hb2,hc,MapKept.run_findKey hk hf,MapKept.run_setObj_map _ hb2,Result.andThen]
 obtain⟨W3,hW3⟩:=zE (({W2 with heap:=W2.heap.setIfInBounds W.heap.size (.map #[{key:=.bool true,val:=.string ⟨#[121,101,115]⟩,born:=0},{key:=.bool false,val:=.string ⟨#[110,111]⟩,born:=1}] 2)}:World));have hb3:W3.heap[W.heap.size]?=some (.map #[{key:=.bool true,val:=.string ⟨#[121,101,115]⟩,born:=0},{key:=.bool false,val:=.string ⟨#[110,111]⟩,born:=1}] 2):=by rw[hW3];show (W2.heap.setIfInBounds _ _)[_]?=_;rw[Array.getElem?_setIfInBounds,if_pos rfl,if_pos (lt_of_some hb2)]
 rw[<-hW3] at h2;refine⟨W2,W3,by rw[<-hW1];exact h1,h2,?_,?_,?_⟩
 ·have hf:Instr.findNow .bool (.bool true) ([{key:=.bool true,val:=.string ⟨#[121,101,115]⟩,born:=0},{key:=.bool false,val:=.string ⟨#[110,111]⟩,born:=1}]:List MapEntry) 0=some (some (0,.string ⟨#[121,101,115]⟩)):=rfl;simp[Instr.lookup,run_underlying hm,MapKept.run_getObj_map hb3,hc,MapKept.run_findKey hk hf,Result.andThen]
 ·have hf:Instr.findNow .bool (.bool false) ([{key:=.bool true,val:=.string ⟨#[121,101,115]⟩,born:=0},{key:=.bool false,val:=.string ⟨#[110,111]⟩,born:=1}]:List MapEntry) 0=some (some (1,.string ⟨#[110,111]⟩)):=rfl;simp[Instr.lookup,run_underlying hm,MapKept.run_getObj_map hb3,hc,MapKept.run_findKey hk hf,Result.andThen]
 ·have ha:Below W.heap.size W W1:=by rw[hW1];exact zB _ _
  refine⟨by rw[hW3,hW2];exact ha.os,by rw[hW3,hW2];exact ha.tape,by rw[hW3,hW2];exact ha.output,by rw[hW3,hW2];simpa using ha.size,fun k hk=>?_⟩;rw[hW3,hW2];simp only[Array.getElem?_setIfInBounds]
  rw[if_neg (by omega),if_neg (by omega)];exact ha.block k hk
def Xc (n:Nd):List UInt8:=
 (aB n.op).word++n.name.data.toList++(if (aB n.op).lit then (aO n.num).data.toList else [])++(if n.op=2 then [100] else [])++(if (aB n.op).dJ then [91]++(aO n.num).data.toList++[93] else [])
theorem acS {n:Nd} (h4:n.op≠4) {cs:List (List Nd)} (hl:cs.length=(aB n.op).ops):txt n (cs.map textE)=Xc n++(dL 0 cs++(if (aB n.op).ops=0 then [] else [41])):=by
 unfold txt Xc;rw[if_neg h4];congr 1;split
 ·next h0=>
  have:cs=[]:=List.eq_nil_of_length_eq_zero (by omega);subst this;rfl
 ·next h0=>rw[Ci cs (by intro h;rw[h] at hl;exact h0 hl.symm)]
theorem ZO (k:Nat) (cs:List (List Nd)) (ha:∀a∈cs,Ex k a) (hf:∀n∈cs.flatten,Fine n) (j:Nat):(dL j cs).length<=7000002*cs.flatten.length:=by
 induction cs generalizing j with
 |nil=>simp[dL]
 |cons a cs ih=>
  have h1:=WZ k a (ha a (by simp)) (fun n hn=>hf n (by simp[hn]));have h2:=ih (fun a h=>ha a (by simp[h])) (fun n hn=>hf n (by simp only[List.flatten_cons,List.mem_append];exact .inr hn)) (j+1);have h3:(kG j).length<=2:=by unfold kG;split<;>simp
  rw[dL,List.flatten_cons];simp only[List.length_append]
  omega
theorem Xd (cs:List (List Nd)) (i:Nat) (h:i<cs.length):(cs.take i).flatten.length+(cs.getD i []).length<=cs.flatten.length:=by
 have h1:cs=cs.take i++(cs.getD i []::cs.drop (i+1)):=by
  conv=>lhs;rw[<-List.take_append_drop i cs,List.drop_eq_getElem_cons h]
  rw[List.getD_eq_getElem?_getD,List.getElem?_eq_getElem h];rfl
 conv=>rhs;rw[h1]
 simp only[List.flatten_append,List.flatten_cons,List.length_append];omega
structure WB (Bb b:Nat) (w0 w:World) (tot:List Value) (R:List UInt8) (X:World):Prop where
 t:∃t0,Lib.BuilderAt 78 5 Bb b (.pointer (some ⟨b,0,none⟩)) t0 X/\t0++lc R=tot
 o:Below w0.heap.size w0 X
 l:Below Bb w X
 f:BF b w X
 hB:Bb<=X.heap.size
section
variable {Bb b:Nat} {w0 w X X':World} {tot:List Value} {R R':List UInt8}
theorem WB.grow (h:WB Bb b w0 w tot R X) (hb:Below X.heap.size X X'):WB Bb b w0 w tot R X':=
 let ⟨t0,h1,h2⟩:=h.t;⟨⟨t0,Cj h1 hb,h2⟩,ah h.o hb,h.l.trans (hb.mono h.hB),h.f.trans (BF.of_below hb),Nat.le_trans h.hB hb.size⟩
theorem WB.as (h:WB Bb b w0 w tot R X) (e:R=R'):WB Bb b w0 w tot R' X:=e ▸ h
theorem wbW (s:ByteArray) {t0:List Value} (h1:Lib.IsBuilder 78 5 Bb b t0 X) (h2:t0++lc (s.data.toList++R)=tot) (o:Below w0.heap.size w0 X) (l:Below Bb w X) (f:BF b w X) (hB:Bb<=X.heap.size) (ht:tot.length<=10000000000000) (h0:w0.heap.size<=Bb):
  Calls Tryz.prog 121 #[.pointer (some ⟨b,0,none⟩),.string s] X fun e X'=>e=.returned (.tuple #[.int .i64 s.size,.nilIface])/\WB Bb b w0 w tot R X':=by
 have hl:=congrArg List.length h2;unfold lc at hl;rw[List.length_append,List.length_map,List.length_append] at hl;refine (Nv Bb b t0 s X h1 (by rw[yZ];omega) hB).mono ?_;rintro e X' ⟨rfl,hx,hb,hf⟩;exact⟨rfl,⟨_,hx,by rw[<-h2];unfold lc;rw[List.map_append,List.append_assoc]⟩,o.trans (hb.mono h0),l.trans hb,f.trans hf,Nat.le_trans hB hb.size⟩
theorem WB.wr (s:ByteArray) (h:WB Bb b w0 w tot (s.data.toList++R) X) (ht:tot.length<=10000000000000) (h0:w0.heap.size<=Bb):
  Calls Tryz.prog 121 #[.pointer (some ⟨b,0,none⟩),.string s] X fun e X'=>e=.returned (.tuple #[.int .i64 s.size,.nilIface])/\WB Bb b w0 w tot R X':=
 let ⟨_,h1,h2⟩:=h.t;wbW s (.inr h1) h2 h.o h.l h.f h.hB ht h0
theorem ZP (cs:List (List Nd)) (i j:Nat):(dL j cs).length=(dL j (cs.take i)).length+(dL (j+i) (cs.drop i)).length:=by
 induction i generalizing cs j with
 |zero=>simp[dL]
 |succ i ih=>cases cs with
  |nil=>simp[dL]
  |cons a cs=>rw[List.take_succ_cons,List.drop_succ_cons,dL,dL];simp only[List.length_append];rw[ih cs (j+1),show j+(i+1)=j+1+i by omega];omega
theorem Xe {cs:List (List Nd)} {i:Nat} (h:i<cs.length) (R:List UInt8):dL i (cs.drop i)++R=kG i++(textE (cs.getD i [])++(dL (i+1) (cs.drop (i+1))++R)):=by
 rw[List.drop_eq_getElem_cons h,dL,List.getD_eq_getElem?_getD,List.getElem?_eq_getElem h];simp
end
theorem write_any (es:List Nd) (args:List (List Nat)) (A1 A2:Option Addr) (l1 c1 l2 c2 Bb b:Nat) (w0:World) (hL:dK w0) (h1:Es w0 es A1 l1 c1) (hf1:∀n∈es,Fine n) (h2:GV w0 args A2 l2 c2)
  (hB:w0.heap.size<=Bb) (h60:l1<=60) (hag:args.length=es.length)
  (k:Nat):∀(a:List Nd),Ex k a->∀(o:Nat),Sub es args o a->∀(bs:List Value) (w:World),Below w0.heap.size w0 w->Bb<=w.heap.size->Lib.IsBuilder 78 5 Bb b bs w->bs.length+7000002*a.length<=1000000000000->
    Calls Tryz.prog 126 #[.pointer (some ⟨b,0,none⟩),.slice A1 l1 c1,.slice A2 l2 c2,.int .i64 ((o+a.length-1:Nat):Int)] w fun e w'=>e=.returned (.tuple #[])/\
     (Lib.BuilderAt 78 5 Bb b (.pointer (some ⟨b,0,none⟩)) (bs++lc (textE a)) w'/\Below Bb w w'/\BF b w w'):=by
 have H1:=zH h1;have H2:=zH h2;have HL:=zH hL;have HF:=zH hf1;have hl1:=h1.len;have hl2:=h2.len;rw[hag] at hl2;clear h1 h2 hL hf1;subst hl1 hl2
 induction k with
 |zero=>intro a h;exact h.elim
 |succ k ih=>
  rintro a ⟨cs,n,rfl,hn,hl,ha⟩ o hsub bs w hbw hBw hib hlen;obtain⟨hr1,hr2⟩:=hsub.root hl ha;rw[List.length_append,List.length_singleton] at hlen⊢;obtain⟨p,hp⟩:=zF (o+cs.flatten.length);rw[show o+(cs.flatten.length+1)-1=p from by omega];rw[hp] at hr1 hr2;have hpe:p<es.length:=(List.getElem?_eq_some_iff.1 hr1).1;have hfn:Fine n:=HF.out n (List.mem_of_getElem? hr1)
  have hfc:∀m∈cs.flatten,Fine m:=fun m hm=>by
   obtain⟨i,hi,he⟩:=List.getElem_of_mem hm;have:=hsub.node i (by rw[List.length_append];omega);rw[List.getElem?_append_left hi,List.getElem?_eq_getElem hi,he] at this;exact HF.out m (List.mem_of_getElem? this)
  have HIH:Hid (∀i,i<cs.length->∀(bs':List Value) (w':World),Below w0.heap.size w0 w'->Bb<=w'.heap.size->Lib.IsBuilder 78 5 Bb b bs' w'->bs'.length+7000002*(cs.getD i []).length<=1000000000000->
    Calls Tryz.prog 126 #[.pointer (some ⟨b,0,none⟩),.slice A1 es.length c1,.slice A2 es.length c2,.int .i64 (((roots o cs).getD i 0:Nat):Int)] w' fun e w''=>e=.returned (.tuple #[])/\
     (Lib.BuilderAt 78 5 Bb b (.pointer (some ⟨b,0,none⟩)) (bs'++lc (textE (cs.getD i []))) w''/\Below Bb w' w''/\BF b w' w'')):=by
   intro i hi bs' w' ah9 hBw' aia hlen';have e1:cs.getD i []=cs[i]:=by rw[List.getD_eq_getElem?_getD,List.getElem?_eq_getElem hi];rfl
   have hcs:cs=cs.take i++cs[i]::cs.drop (i+1):=by rw[<-List.drop_eq_getElem_cons hi,List.take_append_drop]
   have hli:(cs.take i).length=i:=by rw[List.length_take];omega
   have e2:(roots o cs).getD i 0=o+(cs.take i).flatten.length+(cs[i]).length-1:=by
    have:=WY o (cs.take i) (cs.drop (i+1)) cs[i];rw[<-hcs,hli] at this;rw[List.getD_eq_getElem?_getD,this];rfl
   rw[e1] at hlen'⊢;rw[e2];refine ih cs[i] (ha _ (List.getElem_mem hi)) (o+(cs.take i).flatten.length) ?_ bs' w' ah9 hBw' aia hlen';refine Sub.child (k:=k) (cs:=cs.take i) (ds:=cs.drop (i+1)) (n:=n) ?_ ?_ ?_
   ·rw[<-hcs];exact hsub
   ·rw[<-hcs];exact hl
   ·rw[<-hcs];exact ha
  clear ih;have hTX:Hid (textE (cs.flatten++[n])=txt n (cs.map textE)):=zX hl ha
  have hSL:∀i,(dL 0 (cs.take i)).length<=7000002*(cs.take i).flatten.length:=fun i=>
   ZO k (cs.take i) (fun a h=>ha a (List.mem_of_mem_take h)) (fun m hm=>hfc m (by
    rw[<-List.take_append_drop i cs,List.flatten_append];exact List.mem_append_left _ hm)) 0
  have HSL:=zH hSL;have HFT:=zH (fun i h=>Xd cs i h);clear hsub hfc hSL;obtain⟨rows,aez,hll⟩:=H2.out.rows;obtain⟨v9,hv9,A9,c9,rfl,h91,h92,h93,_⟩:=hll.row p _ hr2;have HR9:=zH h93;have hpl2:p<args.length:=by rw[hag];exact hpe
  rw[oz] at hv9 h91;have hpr:p<rows.length:=(List.getElem?_eq_some_iff.1 hv9).1;obtain⟨b2,off2,rfl,hb2,hc2⟩:=aez.at_ hpr;have h9:=hc2 p hpr;rw[(List.getElem?_eq_some_iff.1 hv9).2] at h9;have H9:Hid (∀w',Below w0.heap.size w0 w'->w'.cell? ⟨b2,off2+p,none⟩=some (.slice A9 cs.length c9)):=fun w' hb=>(hb.cell hb2).trans h9
  clear hc2 h9 hv9 hll aez hb2 hr2 h93;obtain⟨b1,off1,hA1,hb1,hnd⟩:=(H1.out.rd.below hbw).nd hpe;subst hA1;rw[(List.getElem?_eq_some_iff.1 hr1).2] at hnd;obtain⟨hc0,hc1,hc2,hc3,hc4⟩:=hnd;obtain⟨w1',w24,aib,G8,_⟩:=jC hn;have DL:=yX n.op;have y8:=Qz n.op;have KY:=IU n.op;have hol:=Af n.op;have hnl:=MN hn;have hwl:=wQ n.op;have hts:=vM n.num hfn.1 hfn.2;have oH:=zH (fun W hL=>jy n.num W hL hfn.1 hfn.2);have Xf:Hid (n.op≠4->textE (cs.flatten++[n])=Xc n++(dL 0 cs++(if (aB n.op).ops=0 then [] else [41]))):=fun h4=>by rw[hTX.out,acS h4 hl]
  have HD:Hid (Xc n=(aB n.op).word++n.name.data.toList++(if (aB n.op).lit then (aO n.num).data.toList else [])++(if n.op=2 then [100] else [])++(if (aB n.op).dJ then [91]++(aO n.num).data.toList++[93] else [])):=rfl
  have Gm:Hid (n.op=4->(n.num=aS 0/\textE (cs.flatten++[n])=Ez)∨(n.num=aS 1/\textE (cs.flatten++[n])=yF)):=by
   intro h4;rw[hTX.out];unfold gX at G8;rw[if_pos h4,Bool.or_eq_true,decide_eq_true_eq,decide_eq_true_eq] at G8;unfold txt;rcases G8 with hz|hz
   ·exact .inl ⟨hz,by rw[if_pos h4,hz,if_pos (show (aS 0).num=⟨#[]⟩ from rfl)];rfl⟩
   ·exact .inr ⟨hz,by rw[if_pos h4,hz,if_neg (show ¬(aS 1).num=⟨#[]⟩ from by decide)];rfl⟩
  generalize textE (cs.flatten++[n])=TT at*;have aic:=HL.out.below hbw;clear hTX G8 aib hn;generalize Xc n=HDT at*;generalize aO n.num=tx at*;obtain⟨op,⟨neg,num,den⟩,nm⟩:=n;simp only at hc0 hc1 hc2 hc3 hc4 w1' w24 DL y8 KY hnl hwl oH Xf HD Gm hl hol;obtain⟨q,rfl⟩:∃q:Nat,op=q:=⟨op.toNat,by omega⟩
  have hla:=aic.alloc (.cells #[.int .i64 (q:Int),.bool neg,.string num,.string den,.string nm] 49);have ht0:=hla.cell q 0 (by omega) (by omega);have ht1:=hla.cell q 1 (by omega) (by omega);have ht2:=hla.cell q 2 (by omega) (by omega);have ht3:=hla.cell q 3 (by omega) (by omega);have ht4:=hla.cell q 4 (by omega) (by omega);generalize aB (q:Int)=s at*;obtain⟨Nw,oo,lit,dF,dJ⟩:=s;simp only[Sh.cells,List.getElem?_cons_zero,List.getElem?_cons_succ,Nat.add_zero] at ht0 ht1 ht2 ht3 ht4;simp only at DL y8 KY hwl hl Xf HD hol;obtain⟨wd,hwd⟩:∃wd:ByteArray,⟨Nw.toArray⟩=wd:=⟨_,rfl⟩
  have aeA:wd.data.toList=Nw:=by rw[<-hwd]
  rw[hwd] at ht0;rw[<-aeA] at HD hwl;have akN:wd.size<=7:=by rw[yZ];exact hwl
  have hsz3:(tx.size:Nat)<=6291460:=hts;have hne0:b<w.heap.size:=Xa hib;clear hla hwd aeA;subst hl;have aie:Hid ((dL 0 cs).length<=7000002*cs.flatten.length):=by have:=HSL.out cs.length;rwa[List.take_length] at this
  have HLEN:=zH hlen;have akA:bs.length<=999993000000:=by omega
  have akO:¬(9223372036854775807<wd.size+nm.size):=by omega
  have akP:¬(9223372036854775807<1+tx.size):=by omega
  have akQ:¬(9223372036854775807<(⟨#[91]⟩++tx:ByteArray).size+1):=by rw[ByteArray.size_append];show ¬(_<1+tx.size+1);omega
  have akR:¬(9223372036854775807<1+tx.size+1):=by omega
  clear hlen;by_cases h4:(q:Int)=4
  ·have e4:((q:Int)==4)=true:=by rw[h4];rfl
   have HT2:∃bx:Bool,(num.toList !=(⟨#[]⟩:ByteArray).toList)=bx/\TT=(if bx then yF else Ez):=by
    rcases Gm.out h4 with⟨hz,ht⟩|⟨hz,ht⟩
    ·injection hz with z1 z2 z3;subst z2;exact⟨false,by decide+kernel,ht⟩
    ·injection hz with z1 z2 z3;subst z2;exact⟨true,by decide+kernel,ht⟩
   obtain⟨bx,e5,ht⟩:=HT2;have e6:=e5;rw[show (⟨#[]⟩:ByteArray).toList=[] by rw[ByteArray.toList_eq]] at e6;have e7:num.toList.isEmpty= !bx:=by rw[<-e6];cases num.toList<;>rfl
   have HT:=zH ht;have hmk:=@run_makeMap Tryz.prog
   have hba:Below w.heap.size w ((w.alloc (.cells #[.int .i64 (q:Int),.bool neg,.string num,.string den,.string nm] 49)).alloc (.cells #[.string wd,.int .i64 (cs.length:Int),.bool lit,.bool dF,.bool dJ] 168)):=
    (zB _ _).alloc (by rw[World.size_alloc];omega) _
   obtain⟨W2,W3,hi1,hi2,hi3,hi4,hb3⟩:=Xb _ (w.heap.size+1+1) (show w.heap.size+1+1=((w.alloc (.cells #[.int .i64 (q:Int),.bool neg,.string num,.string den,.string nm] 49)).alloc (.cells #[.string wd,.int .i64 (cs.length:Int),.bool lit,.bool dF,.bool dJ] 168)).heap.size by rw[World.size_alloc,World.size_alloc]);have hbw3:=ah hba hb3;have hi:=Cm hib hbw3;have HI:=zH hi;have bC:Hid (Below Bb w W3):=hbw3.mono hBw;have HFW:Hid (BF b w W3):=BF.of_below hbw3;have hBW:Bb<=W3.heap.size:=Nat.le_trans hBw hbw3.size;have hkn:aj ((w.alloc (.cells #[.int .i64 (q:Int),.bool neg,.string num,.string den,.string nm] 49)).alloc (.cells #[.string wd,.int .i64 (cs.length:Int),.bool lit,.bool dF,.bool dJ] 168)) w.heap.size 49 [.int .i64 (q:Int),.bool neg,.string num,.string den,.string nm]:=(aj.new w _ _).alloc _;have hcn:=(hkn.below hb3 hkn.lt).cells;clear hb3 hbw3 hi hib hba hkn;clear DL y8 KY Gm Xf HD hfn hr1 h4 ht;go_enter Tryz.func126,Tryz.ntmps126;cases bx
   ·go_wp2_with fail;refine (Nv Bb b bs ⟨#[110,111]⟩ _ HI.out (by show bs.length+2<=_;omega) hBW).mono ?_;rintro e w1 ⟨rfl,hx1,hb1,hf1⟩;go_wp2
    first|go_end0|refine bodyPost_ret (results_none rfl _ _ _) rfl ?_
    exact⟨rfl,by rw[HT.out];exact hx1,bC.out.trans hb1,HFW.out.trans hf1⟩
   ·go_wp2_with fail;refine (Nv Bb b bs ⟨#[121,101,115]⟩ _ HI.out (by show bs.length+3<=_;omega) hBW).mono ?_;rintro e w1 ⟨rfl,hx1,hb1,hf1⟩;go_wp2
    first|go_end0|refine bodyPost_ret (results_none rfl _ _ _) rfl ?_
    exact⟨rfl,by rw[HT.out];exact hx1,bC.out.trans hb1,HFW.out.trans hf1⟩
  ·have e4:((q:Int)==4)=false:=by rw[beq_eq_false_iff_ne];exact h4
   have HT:=zH (Xf.out h4);obtain⟨tot,htot⟩:=zE (bs++lc TT);have hX:bs++lc ((wd++nm).data.toList++((if lit then tx.data.toList else [])++((if (q:Int)=2 then [100] else [])++((if dJ then (⟨#[91]⟩++tx++⟨#[93]⟩:ByteArray).data.toList else [])++(dL 0 cs++(if cs.length=0 then [] else [41]))))))=tot:=by rw[htot,HT.out,HD.out];simp[ByteArray.data_append,lc]
   have htl:tot.length=bs.length+HDT.length+(dL 0 cs).length+(if cs.length=0 then [] else [41]:List UInt8).length:=by rw[htot,HT.out];unfold lc;simp only[List.length_append,List.length_map];omega
   have hdl:HDT.length<=7000000:=by
    have h1:=yZ tx;have h2:=yZ nm;have e1:(lit&&dJ)=false:=by rw[DL,y8,<-Bool.decide_and];exact decide_eq_false (by omega)
    have e3:(if dJ=true then [91]++tx.data.toList++[93] else ([]:List UInt8)).length+(if lit=true then tx.data.toList else []).length<=tx.size+2:=by
     clear hX htl DL y8 HD;cases lit<;>cases dJ<;>simp only[Bool.false_eq_true,if_true,if_false,List.length_append,List.length_cons,List.length_nil]<;>first|omega|cases e1
    have e2:(if (q:Int)=2 then [100] else ([]:List UInt8)).length<=1:=by split<;>simp
    rw[HD.out];simp only[List.length_append] at e3⊢;omega
   have HQ:Hid (∀i,i<cs.length->tot.length+2+7000002*(cs.getD i []).length<=1000000000000+(dL i (cs.drop i)++(if cs.length=0 then [] else [41]:List UInt8)).length):=fun i h=>by
    have h1:=HSL.out i;have h2:=HFT.out i h;have h3:=HLEN.out;have h4:=ZP cs i 0;rw[Nat.zero_add] at h4;rw[htl,List.length_append];omega
   replace htl:tot.length<=10000000000000:=by
    have h4:=aie.out;have h5:=HLEN.out;have e5:(if cs.length=0 then ([]:List UInt8) else [41]).length<=1:=by split<;>simp
    omega
   have aif:=fun X h=>Cm hib (w':=X) h
   have Ny:Hid (bs++lc TT=tot):=htot.symm;clear hib hdl htot Xf Gm DL y8 KY hfn hr1 h4 hsz3;obtain⟨hk0,hk1,hba,_⟩:=Two.new w 49 168 #[.int .i64 (q:Int),.bool neg,.string num,.string den,.string nm] #[.string wd,.int .i64 (cs.length:Int),.bool lit,.bool dF,.bool dJ];go_enter Tryz.func126,Tryz.ntmps126
   go_upto_region 2 with fail
   generalize hW:(w.alloc _).alloc _=W;rw[hW] at hk0 hk1 hba;have n0:w.heap.size≠b:=by omega
   have n1:w.heap.size+1≠b:=by omega
   have hc:=fun (X:World) (k:BF b W X)=>show (X.cell? ⟨w.heap.size,0,none⟩=some (.int .i64 (q:Int))/\X.cell? ⟨w.heap.size,1,none⟩=some (.bool neg)/\X.cell? ⟨w.heap.size,2,none⟩=some (.string num)/\X.cell? ⟨w.heap.size,3,none⟩=some (.string den)/\X.cell? ⟨w.heap.size,4,none⟩=some (.string nm))/\X.cell? ⟨w.heap.size+1,0,none⟩=some (.string wd)/\X.cell? ⟨w.heap.size+1,1,none⟩=some (.int .i64 (cs.length:Int))/\X.cell? ⟨w.heap.size+1,2,none⟩=some (.bool lit)/\X.cell? ⟨w.heap.size+1,3,none⟩=some (.bool dF)/\X.cell? ⟨w.heap.size+1,4,none⟩=some (.bool dJ) from
    ⟨⟨(k.blk hk0 (by decide) n0).cells 0,(k.blk hk0 (by decide) n0).cells 1,(k.blk hk0 (by decide) n0).cells 2,(k.blk hk0 (by decide) n0).cells 3,(k.blk hk0 (by decide) n0).cells 4⟩,(k.blk hk1 (by decide) n1).cells 0,(k.blk hk1 (by decide) n1).cells 1,(k.blk hk1 (by decide) n1).cells 2,(k.blk hk1 (by decide) n1).cells 3,(k.blk hk1 (by decide) n1).cells 4⟩
   clear hW hk0 hk1 n0 n1 ht0 ht1 ht2 ht3 ht4 hc0 hc1 hc2 hc3 hc4;have hl0:=hc _ (BF.refl b W);go_wp2_with fail;refine (wbW (wd++nm) (aif _ hba) hX (ah hbw hba) (Below.refl _ _) (BF.refl _ _) (Nat.le_trans hBw hba.size) htl hB).mono ?_;clear hX;rintro e w1 ⟨rfl,hX⟩;clear hl0;have hl0:=hc _ hX.f
   go_upto_if 40 with fail
   go_cut [] from 39 to 45 (fun X=>WB Bb b w0 W tot ((if (q:Int)=2 then [100] else [])++((if dJ then (⟨#[91]⟩++tx++⟨#[93]⟩:ByteArray).data.toList else [])++(dL 0 cs++(if cs.length=0 then [] else [41])))) X)
   case first=>
    cases lit
    ·go_wp2
     go_meet
     case rel=>exact hX
    ·go_wp2_with fail;refine (oH.out w1 (HL.out.below hX.o).base).mono ?_;rintro e w2 ⟨rfl,hb⟩;go_wp2_with fail;refine (WB.wr tx (hX.grow hb) htl hB).mono ?_;rintro e w3 ⟨rfl,hX⟩;go_wp2
     go_meet
     case rel=>exact hX
   case rest=>
    clear hX hl0;have hX:=hcut;clear hcut;have hl0:=hc _ hX.f;obtain⟨x2,e2⟩:=zF ((q:Int)==2)
    go_upto_if 48 with fail
    go_cut [] from 46 to 50 (fun X=>WB Bb b w0 W tot ((if dJ then (⟨#[91]⟩++tx++⟨#[93]⟩:ByteArray).data.toList else [])++(dL 0 cs++(if cs.length=0 then [] else [41]))) X)
    case first=>
     cases x2
     ·rw[if_neg (beq_eq_false_iff_ne.1 e2)] at hX;go_wp2
      go_meet
      case rel=>exact hX
     ·rw[if_pos (eq_of_beq e2)] at hX;go_wp2_with fail;refine (WB.wr ⟨#[100]⟩ hX htl hB).mono ?_;rintro e w3 ⟨rfl,hX⟩;go_wp2
      go_meet
      case rel=>exact hX
    case rest=>
     clear hX hl0;have hX:=hcut;clear hcut;have hl0:=hc _ hX.f
     go_upto_if 52 with fail
     go_cut [] from 51 to 59 (fun X=>WB Bb b w0 W tot (dL 0 (cs.drop 0)++(if cs.length=0 then [] else [41])) X)
     case first=>
      cases dJ
      ·go_wp2
       go_meet
       case rel=>exact hX
      ·rw[if_pos rfl] at hX;go_wp2_with fail;refine (oH.out _ (HL.out.below hX.o).base).mono ?_;rintro e w2 ⟨rfl,hb⟩;go_wp2_with fail;replace hX:=hX.grow hb;generalize (⟨#[91]⟩++tx++⟨#[93]⟩:ByteArray)=z at hX⊢;refine (WB.wr z hX htl hB).mono ?_;rintro e w3 ⟨rfl,hX⟩;go_wp2
       go_meet
       case rel=>exact hX
     case rest=>
      clear hX hl0;have hX:=hcut;clear hcut;have h9:=H9.out _ hX.o;go_wp2;clear h9
      go_loopg [65] cs.length (fun g iv X=>∃i,i+g=cs.length/\iv=.int .i64 (i:Int)/\WB Bb b w0 W tot (dL i (cs.drop i)++(if cs.length=0 then [] else [41])) X)
      case atStart=>exact⟨0,by omega,rfl,hX⟩
      case round=>
       clear hX;obtain⟨i,hi,rfl,hX⟩:=hrel;by_cases hlt:i<cs.length
       ·have hrt:i<(I (roots o cs)).length:=by rw[iY,oz];exact hlt
        obtain⟨b3,akS,rfl,hb3,hcc⟩:=(HR9.out.below hX.o).at_ hrt;have hcell:=hcc i hrt;rw[KT] at hcell;have hih:=HIH.out i hlt;have hq:=zH (HQ.out i hlt);rw[Xe hlt] at hX hq;generalize (roots o cs).getD i 0=rt at*;generalize cs.getD i []=c at*;clear hcc hb3 hrt;obtain⟨xi,ei⟩:=zF ((i:Int)==0)
        go_upto_if 71 with fail
        go_cut [] from 70 to 75 (fun X=>WB Bb b w0 W tot (textE c++(dL (i+1) (cs.drop (i+1))++(if cs.length=0 then [] else [41]))) X)
        case first=>
         cases xi
         ·rw[show kG i=[44,32] by unfold kG;rw[if_neg (by simpa using ei)]] at hX;clear hq hih;go_wp2_with fail;refine (WB.wr ⟨#[44,32]⟩ hX htl hB).mono ?_;rintro e w3 ⟨rfl,hX⟩;go_wp2
          go_meet
          case rel=>exact hX
         ·rw[show kG i=[40] by unfold kG;rw[if_pos (by simpa using ei)]] at hX;clear hq hih;go_wp2_with fail;refine (WB.wr ⟨#[40]⟩ hX htl hB).mono ?_;rintro e w3 ⟨rfl,hX⟩;go_wp2
          go_meet
          case rel=>exact hX
        case rest=>
         clear hX hcell ei;have hX:=hcut;clear hcut;go_wp2_with fail;obtain⟨t0,h1,h2⟩:=hX.t;have hsw:(kG i).length<=2:=by unfold kG;split<;>simp
         refine (hih t0 _ hX.o hX.hB (.inr h1) (by have h3:=congrArg List.length h2;have h4:=hq.out;rw[List.length_append,Nr] at h3;rw[List.length_append] at h4;omega)).mono ?_;rintro e w4 ⟨rfl,h5,h6,h7⟩;replace hX:WB Bb b w0 W tot (dL (i+1) (cs.drop (i+1))++(if cs.length=0 then [] else [41])) w4:=⟨⟨_,h5,by rw[<-h2,WX (textE c),List.append_assoc]⟩,hX.o.trans (h6.mono hB),hX.l.trans h6,hX.f.trans h7,Nat.le_trans hX.hB h6.size⟩
         clear h1 h2 h5 h6 h7 hih hq hsw;go_wp2
         go_roundg (cs.length-(i+1))
         case measure=>omega
         case rel=>exact⟨i+1,by omega,by go_num,hX⟩
       ·obtain rfl:i=cs.length:=by omega
        rw[List.drop_length] at hX;have hl0:=hc _ hX.f;have hx1:decide ((cs.length:Int)<cs.length)=false:=decide_eq_false (by omega);by_cases ho:cs.length=0
        ·rw[if_pos ho] at hX;go_wp2;go_end0;obtain⟨t0,h1,h2⟩:=hX.t;exact⟨rfl,by rw[Ny.out,<-h2];simpa [dL,lc] using h1,(hba.mono hBw).trans hX.l,(BF.of_below hba).trans hX.f⟩
        ·have hop:0<cs.length:=by omega
         rw[if_neg ho] at hX;go_wp2_with fail;refine (WB.wr ⟨#[41]⟩ hX htl hB).mono ?_;rintro e wz ⟨rfl,hX⟩;go_wp2;go_end0;obtain⟨t0,h1,h2⟩:=hX.t;exact⟨rfl,by rw[Ny.out,<-h2];simpa [dL,lc] using h1,(hba.mono hBw).trans hX.l,(BF.of_below hba).trans hX.f⟩
theorem aeB {k:Nat} {e:List Nd} (h:Ex k e):0<e.length:=by
 cases k with
 |zero=>exact h.elim
 |succ k=>
  obtain⟨cs,n,rfl,_⟩:=h;simp
theorem Xg (es:List Nd) (A1 A2:Option Addr) (l1 c1 l2 c2 B:Nat) (w2 W3:World) (hL:dK w2) (h1:Es w2 es A1 l1 c1) (hf:∀n∈es,Fine n) (h2:GV w2 (lG es) A2 l2 c2) (hz:bQ es=0)
  (hB:w2.heap.size=B) (hb:Below w2.heap.size w2 W3) (hs:B<=W3.heap.size) (hib:Lib.IsBuilder 78 5 B B [] W3) (i:Int) (hi:i=(l1:Int)-1):
  Calls Tryz.prog 126 #[.pointer (some ⟨B,0,none⟩),.slice A1 l1 c1,.slice A2 l2 c2,.int .i64 i] W3 fun e w'=>e=.returned (.tuple #[])/\
    (Lib.BuilderAt 78 5 B B (.pointer (some ⟨B,0,none⟩)) (lc (textE es)) w'/\Below B W3 w'):=by
 have hk:=((oU es).1 hz).1;have hl:=h1.len;have hEx:=JX hz;have hpos:=aeB hEx;have h60:l1<=60:=by omega
 have hlen:([]:List Value).length+7000002*es.length<=1000000000000:=by rw[List.length_nil];omega
 have hle:w2.heap.size<=B:=Nat.le_of_eq hB;have h:=write_any es (lG es) A1 A2 l1 c1 l2 c2 B B w2 hL h1 hf h2 hle h60 (pz _ _ _) 61 es hEx 0 Sub.whole [] W3 hb hs hib hlen;have hi2:((0+es.length-1:Nat):Int)=i:=by omega
 rw[hi2,List.nil_append] at h;exact h.mono (fun e w' h=>⟨h.1,h.2.1,h.2.2.1⟩)
theorem JY (es:List Nd) (A1:Option Addr) (l1 c1:Nat) (w:World) (hL:dK w) (h1:Es w es A1 l1 c1) (hf1:∀n∈es,Fine n):
  Calls Tryz.prog 84 #[.slice A1 l1 c1] w (DK es w):=by
 obtain rfl:=h1.len;have HC:=zH (check_any es A1 es.length c1 w hL h1.len h1.cap h1.max h1.rd hf1);have H1:=zH h1;have HL:=zH hL;have HF:=zH hf1;by_cases hz:bQ es=0
 ·have hk:=((oU es).1 hz).1;have HZ:=zH hz
  have HA:Hid (∀W,dK W->Es W es A1 es.length c1->Calls Tryz.prog 125 #[.slice A1 es.length c1] W (DJ true (lG es) W)):=fun W hL h=>by
   have:=WM es A1 es.length c1 W hL h hf1;rw[hz] at this;exact this
  have oD:Hid (∀w',Below w.heap.size w w'->DK es w (.returned (.tuple #[.string ⟨(textE es).toArray⟩,.int .i64 0])) w'):=fun w' hb=>⟨by rw[if_pos hz,hz],hb⟩
  rw[hz] at HC;clear hz h1 hf1 hL;go_enter Tryz.func84,Tryz.ntmps84;go_wp2_with fail;refine HC.out.mono ?_;rintro e w1 ⟨rfl,hb1⟩;go_wp2_with fail;refine (HA.out _ (HL.out.below hb1) (H1.out.below hb1)).mono ?_;rintro e w2 ⟨A2,l2,c2,rfl,hag,hb2⟩;have hB2:=ah hb1 hb2;have hib:=Lib.fresh_isBuilder 78 5 w2;have hwr:=Xg es A1 A2 es.length c1 l2 c2 w2.heap.size w2 _ (HL.out.below hB2) (H1.out.below hB2) HF.out hag HZ.out rfl ((Below.refl _ _).alloc (Nat.le_refl _) (.cells #[.pointer none,.slice none 0 0] 78)) (by rw[World.size_alloc];omega) hib ((es.length:Int)-1) rfl;have JI:=zH hwr;have HB2:=zH hB2;clear hag hib hwr hb1 hb2 hB2;go_wp2_with fail;refine JI.out.mono ?_;rintro e w3 ⟨rfl,hx,hb3⟩;have hs3:w2.heap.size<=w3.heap.size:=by have:=hb3.size;rw[World.size_alloc] at this;omega
  have HST:=zH (Tryz.Builder_String_any w2.heap.size w2.heap.size (textE es) w3 (.inr hx) hs3);have HB3:Hid (Below w.heap.size w w3):=HB2.out.trans (((zB _ _).trans hb3).mono HB2.out.size);clear hx hb3 JI;go_wp2_with fail;refine HST.out.mono ?_;rintro e w4 ⟨rfl,hb4⟩;go_wp2;go_ret2;exact oD.out _ (HB3.out.trans (hb4.mono HB2.out.size))
 ·obtain⟨zz,hzz⟩:=zF (bQ es);have oD:Hid (∀w',Below w.heap.size w w'->DK es w (.returned (.tuple #[.string ⟨#[]⟩,.int .i64 zz])) w'):=fun w' hb=>⟨by rw[if_neg hz,hzz],hb⟩
  rw[hzz] at hz HC;have e1:(zz !=0)=true:=by simp[hz]
  clear hz h1 hf1 hzz hL;go_enter Tryz.func84,Tryz.ntmps84;go_wp2_with fail;refine HC.out.mono ?_;rintro e w1 ⟨rfl,hb1⟩;go_wp2;go_ret2;exact oD.out _ hb1
theorem CB (a:Ra) (hn:a.num.size<=50) (hd:a.den.size<=50):(aO a).size<=302:=by
 obtain⟨h1,h2⟩:=BU a 50 (by omega) hn hd;have h3:=BR (ay (fD a).num) 50 (by omega) (dA _ 50 h1);have h4:=BR (ay (fD a).den) 50 (by omega) (dA _ 50 h2);unfold aO
 have hs:(if (fD a).neg then (⟨#[45]⟩:ByteArray)++kF (ay (fD a).num) else kF (ay (fD a).num)).size<=151:=by
  split
  ·rw[ByteArray.size_append];show 1+_<=_;omega
  ·omega
 simp only
 generalize (if (fD a).neg then (⟨#[45]⟩:ByteArray)++kF (ay (fD a).num) else kF (ay (fD a).num))=s at*;split
 ·omega
 ·rw[ByteArray.size_append,ByteArray.size_append];show _+(1+_)<=_;omega
theorem EC {a:Ra} (h:aV a=true):a.num.size<=50/\a.den.size<=50:=by
 unfold aV at h;simp only[Bool.and_eq_true,decide_eq_true_eq] at h;obtain⟨⟨h1,h2⟩,h3⟩:=h;obtain⟨e1,e2,_⟩:=xQ h1;obtain⟨K,hK⟩:=zE 400;have hk:(2:Nat) ^ K=256 ^ 50:=by rw[show K=8*50 from by omega,show (256:Nat)=2 ^ 8 from rfl,<-Nat.pow_mul]
 have hlt:∀m,nO m<=400->m<256 ^ 50:=by
  intro m hm;unfold nO at hm;by_cases h0:m=0
  ·rw[h0];exact Nat.pow_pos (by omega)
  ·rw[if_neg h0] at hm;rw[<-hk];exact (Nat.log2_lt h0).1 (by omega)
 have g1:=aZ _ 50 (hlt _ h2);have g2:=aZ _ 50 (hlt _ h3);rw[<-e1] at g1;rw[<-e2] at g2;exact⟨g1,g2⟩
theorem PL {n:Nd} (h:aQ n=0):n.num.num.size<=50/\n.num.den.size<=50:=by
 have hn:=(jC h).2.2.2.1;unfold gX at hn;have k0:(aS 0).num.size<=50/\(aS 0).den.size<=50:=by decide+kernel
 have k1:(aS 1).num.size<=50/\(aS 1).den.size<=50:=by decide+kernel
 have k2:zR.num.size<=50/\zR.den.size<=50:=by decide+kernel
 split at hn
 ·simp only[Bool.or_eq_true,decide_eq_true_eq] at hn;rcases hn with hn|hn<;>rw[hn]
  ·exact k0
  ·exact k1
 ·split at hn
  ·exact EC hn
  ·split at hn
   ·simp only[Bool.and_eq_true] at hn;exact EC hn.1
   ·rw[of_decide_eq_true hn];exact k2
theorem Xh {n:Nd} (h:aQ n=0) (ops:List (List UInt8)):(txt n ops).length<=700+(ops.map List.length).sum+2*ops.length:=by
 obtain⟨w1,w2⟩:=PL h;have ht:=CB n.num w1 w2;have ht':(aO n.num).data.toList.length=(aO n.num).size:=by simp
 have hj:=JK ops;have hw:=wQ n.op;have hn:=MN h;have hn':n.name.data.toList.length=n.name.size:=by simp
 unfold txt;split
 ·split<;>simp<;>omega
 ·simp only[List.length_append]
  have e1:(if (aB n.op).lit=true then (aO n.num).data.toList else []).length<=302:=by split<;>simp<;>omega
  have e2:(if n.op=2 then [100] else ([]:List UInt8)).length<=1:=by split<;>simp
  have e3:(if (aB n.op).dJ=true then [91]++(aO n.num).data.toList++[93] else []).length<=304:=by split<;>simp<;>omega
  have e4:(if (aB n.op).ops=0 then [] else [40]++jk ops++[41]).length<=(jk ops).length+2:=by split<;>simp<;>omega
  omega
theorem ZQ (l:List (List UInt8)):meas l.reverse=meas l:=by unfold meas;rw[List.map_reverse,List.sum_reverse,List.length_reverse]
theorem ZR (es:List Nd):∀st,(∀n∈es,aQ n=0)->meas (runT es st)<=meas st+702*es.length:=by
 induction es with
 |nil=>intro st _;exact Nat.le_refl _
 |cons n es ih=>
  intro st hw;have h1:=ih (BX st n) (fun m hm=>hw m (List.mem_cons_of_mem _ hm));have h2:=Xh (hw n (List.mem_cons_self ..)) (st.take (aB n.op).ops).reverse;have h3:=TU st (aB n.op).ops;have h4:=ZQ (st.take (aB n.op).ops)
  have h5:meas (BX st n)<=meas st+702:=by
   unfold BX;show ((txt n _::_).map List.length).sum+2*(txt n _::_).length<=_;rw[List.map_cons,List.sum_cons,List.length_cons];unfold meas at h3 h4⊢;omega
  rw[List.length_cons];show meas (runT es (BX st n))<=_;omega
theorem PO {e:List Nd} (h:bQ e=0):(textE e).length<=42120:=by
 have h1:=ZR e [] (xO h);have h2:=((oU e).1 h).1
 have h3:(textE e).length<=meas (runT e []):=by
  unfold textE meas;cases runT e [] with
  |nil=>simp
  |cons a l=>simp;omega
 have h4:meas ([]:List (List UInt8))=0:=rfl;omega
end Go.Proofs.YtimokmplkpbmdaaGreatDoor
