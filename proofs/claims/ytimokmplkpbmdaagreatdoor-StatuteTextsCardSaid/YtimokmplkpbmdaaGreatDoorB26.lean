/- A part of the proof: P1 P2 P3 Ej Ek El. -/
import Derived.Test.YtimokmplkpbmdaaGreatDoorB24
import Derived.Test.YtimokmplkpbmdaaGreatDoorB25
set_option linter.all false
set_option maxRecDepth 100000
set_option maxHeartbeats 0
namespace Go.Proofs.YtimokmplkpbmdaaGreatDoor
open Go.RowKit
theorem ofNat_toNat (n:Nat) (h:n<256):(UInt8.ofNat n).toNat=n:=by simp;omega
theorem decDigits_digits (n:Nat):(Lib.decDigits n).all isDig=true:=by
 induction n using Nat.strongRecOn with
 |_ n ih=>
  rw[Lib.decDigits];split
  ·next h=>
   simp only[List.all_cons,List.all_nil,Bool.and_true,isDig,Bool.and_eq_true,decide_eq_true_eq,ofNat_toNat (48+n) (by omega)]
   omega
  ·next h=>
   rw[List.all_append,ih (n / 10) (by omega)];simp only[List.all_cons,List.all_nil,Bool.and_true,Bool.true_and,isDig,Bool.and_eq_true,decide_eq_true_eq,ofNat_toNat (48+n % 10) (by omega)]
   omega
theorem decVal_dec (n:Nat):decVal (Lib.decDigits n)=n:=by
 induction n using Nat.strongRecOn with
 |_ n ih=>
  rw[Lib.decDigits];split
  ·next h=>
   simp only[decVal,List.foldl_cons,List.foldl_nil,ofNat_toNat (48+n) (by omega)]
   omega
  ·next h=>
   rw[decVal_append,ih (n / 10) (by omega)];simp only[decVal,List.foldl_cons,List.foldl_nil,ofNat_toNat (48+n % 10) (by omega),List.length_cons,List.length_nil]
   omega
theorem dec_head (n:Nat) (h0:n≠0):(Lib.decDigits n).head?≠some 48:=by
 induction n using Nat.strongRecOn with
 |_ n ih=>
  rw[Lib.decDigits];split
  ·next h=>
   intro he;have he':=congrArg UInt8.toNat (Option.some.inj he);rw[ofNat_toNat (48+n) (by omega)] at he';have:(48:UInt8).toNat=48:=rfl;omega
  ·next h=>
   rw[List.head?_append,Option.or_of_isSome (by rw[List.isSome_head?];simp[decDigits_ne])];exact ih (n / 10) (by omega) (by omega)
theorem parseOk_dec (n:Nat):parseOk (Lib.decDigits n)=true:=by
 unfold parseOk;rw[decDigits_digits];have h1:(Lib.decDigits n).isEmpty=false:=by simp[decDigits_ne]
 rw[h1];by_cases h0:n=0
 ·subst h0;decide+kernel
 ·have:=dec_head n h0;have h2:((Lib.decDigits n).head?==some 48)=false:=by rw[beq_eq_false_iff_ne];exact this
  rw[h2];simp
theorem natParse_dec (n:Nat):natParse (Lib.decDigits n)=(nbs n,true):=by
 unfold natParse;rw[if_pos (parseOk_dec n),decVal_dec]
theorem cut_none (l:List UInt8) (h:∀c∈l,c≠47):Lib.cut l [47]=(l,[],false):=cutC_no fun hc=>h _ hc rfl
theorem cut_at (l m:List UInt8) (h:∀c∈l,c≠47):Lib.cut (l++([47]++m)) [47]=(l,m,true):=cutC_at m fun hc=>h _ hc rfl
theorem prefix_one (c:UInt8) (l:List UInt8):Lib.hasPrefix l [c]=(l.head?==some c):=by
 cases l with
 |nil=>rfl
 |cons d l=>
  unfold Lib.hasPrefix;simp[List.isPrefixOf];exact Bool.eq_iff_iff.2 (by simp;exact eq_comm)
theorem okR_parts {a:Ra} (h:okR a=true):a.num=nbs (vbs a.num)/\a.den=nbs (vbs a.den)/\0<vbs a.den/\low a.neg (vbs a.num) (vbs a.den)=a/\valR a=a:=by
 have hv:valR a=a:=by unfold valR;rw[if_pos h]
 unfold okR at h;simp only[Bool.and_eq_true,decide_eq_true_eq] at h;exact⟨(rightS_iff _).1 h.1.2,(rightS_iff _).1 h.1.1.1,h.1.1.2,h.2,hv⟩
theorem textR_list {a:Ra} (h:okR a=true):(textR a).data.toList=(if a.neg then [45] else [])++(Lib.decDigits (vbs a.num)++(if a.den=nbs 1 then [] else [47]++Lib.decDigits (vbs a.den))):=by
 obtain⟨_,_,_,_,hv⟩:=okR_parts h;have hx:∀x y:ByteArray,(x++y).data.toList=x.data.toList++y.data.toList:=fun x y=>by rw[ByteArray.data_append,Array.toList_append]
 unfold textR;rw[hv];simp only
 split<;>split<;>simp[hx,decS]
theorem dec_no {n:Nat} (x:UInt8) (hx:isDig x=false):∀c∈Lib.decDigits n,c≠x:=by
 intro c hc h;have:=List.all_eq_true.1 (decDigits_digits n) c hc;rw[h,hx] at this;cases this
theorem cutR_text {a:Ra} (h:okR a=true):cutR (textR a).data.toList=(a.neg,Lib.decDigits (vbs a.num),Lib.decDigits (vbs a.den)):=by
 obtain⟨_,hd,_,_,_⟩:=okR_parts h;rw[textR_list h];obtain⟨c,m,hcm⟩:∃c m,Lib.decDigits (vbs a.num)=c::m:=List.exists_cons_of_ne_nil (decDigits_ne _);have hc:c≠45:=dec_no 45 (by decide) c (by rw[hcm];exact List.mem_cons_self ..)
 have hp:Lib.hasPrefix ((if a.neg then [45] else [])++(Lib.decDigits (vbs a.num)++(if a.den=nbs 1 then [] else [47]++Lib.decDigits (vbs a.den)))) [45]=a.neg:=by
  rw[prefix_one,hcm];cases a.neg
  ·simp[hc]
  ·simp
 have ht:Lib.trimPrefix ((if a.neg then [45] else [])++(Lib.decDigits (vbs a.num)++(if a.den=nbs 1 then [] else [47]++Lib.decDigits (vbs a.den)))) [45]=Lib.decDigits (vbs a.num)++(if a.den=nbs 1 then [] else [47]++Lib.decDigits (vbs a.den)):=by
  unfold Lib.trimPrefix;rw[hp];cases a.neg<;>simp
 unfold cutR;rw[hp,ht];by_cases h1:a.den=nbs 1
 ·rw[if_pos h1,List.append_nil,cut_none _ (dec_no 47 (by decide))];have:vbs a.den=1:=by rw[h1,vbs_nbs]
  rw[this];simp[show Lib.decDigits 1=[49] from by decide+kernel]
 ·rw[if_neg h1,cut_at _ _ (dec_no 47 (by decide))];simp
theorem ratParse_text (a:Ra) (h:okR a=true):ratParse (textR a)=(a,true):=by
 obtain⟨hn,hd,h0,hl,_⟩:=okR_parts h
 have hm:mkR a.neg (nbs (vbs a.num)) (nbs (vbs a.den))=(a,true):=by
  unfold mkR;rw[if_pos (by rw[<-hn,<-hd];unfold okR at h;simp only[Bool.and_eq_true,decide_eq_true_eq] at h⊢;exact⟨⟨h.1.1.1,h0⟩,h.1.2⟩),vbs_nbs,vbs_nbs,hl]
 unfold ratParse;simp only[cutR_text h,natParse_dec,hm]
 simp
def numL:List UInt8:=[45,47,48,49,50,51,52,53,54,55,56,57]
theorem num_mem (c:UInt8):numL.contains c=(isDig c||decide (c=45)||decide (c=47)):=mem_small (numL.contains ·) (fun c=>isDig c||decide (c=45)||decide (c=47)) (by decide+kernel) c
theorem textR_num {a:Ra} (h:okR a=true):∀c∈(textR a).data.toList,numL.contains c=true:=by
 rw[textR_list h]
 have hd:∀(n:Nat),∀c∈Lib.decDigits n,numL.contains c=true:=fun n c hc=>by
  rw[num_mem,List.all_eq_true.1 (decDigits_digits n) c hc];rfl
 intro c hc;rcases List.mem_append.1 hc with hc|hc
 ·split at hc
  ·obtain rfl:c=45:=by simpa using hc
   rfl
  ·cases hc
 ·rcases List.mem_append.1 hc with hc|hc
  ·exact hd _ c hc
  ·split at hc
   ·cases hc
   ·rcases List.mem_append.1 hc with hc|hc
    ·obtain rfl:c=47:=by simpa using hc
     rfl
    ·exact hd _ c hc
theorem textR_head {a:Ra} (h:okR a=true):∃c l,(textR a).data.toList=c::l/\(isDig c=true∨c=45):=by
 rw[textR_list h];obtain⟨c,m,hcm⟩:∃c m,Lib.decDigits (vbs a.num)=c::m:=List.exists_cons_of_ne_nil (decDigits_ne _);have hc:=List.all_eq_true.1 (decDigits_digits (vbs a.num)) c (by rw[hcm];exact List.mem_cons_self ..);cases a.neg
 ·exact⟨c,_,by rw[hcm];rfl,.inl hc⟩
 ·exact⟨45,_,rfl,.inr rfl⟩
def spanW (cs s:List UInt8):List UInt8:=s.takeWhile (cs.contains ·)
def spanR (cs s:List UInt8):List UInt8:=s.dropWhile (cs.contains ·)
theorem span_eq (cs s:List UInt8):spanW cs s++spanR cs s=s:=List.takeWhile_append_dropWhile
theorem span_app (cs x r:List UInt8) (hx:∀c∈x,cs.contains c=true) (hr:∀c,r.head?=some c->cs.contains c=false):spanW cs (x++r)=x/\spanR cs (x++r)=r:=by
 have hp:∀r:List UInt8,(∀c,r.head?=some c->cs.contains c=false)->spanW cs r=[]/\spanR cs r=r:=by
  intro r hr;cases r with
  |nil=>exact⟨rfl,rfl⟩
  |cons c r=>
   have hcc:¬(cs.contains c=true):=by rw[hr c rfl];simp
   exact⟨List.takeWhile_cons_of_neg hcc,List.dropWhile_cons_of_neg hcc⟩
 induction x with
 |nil=>exact hp r hr
 |cons c x ih=>
  have hc:=hx c (List.mem_cons_self ..);obtain⟨h1,h2⟩:=ih (fun d hd=>hx d (List.mem_cons_of_mem _ hd));unfold spanW spanR at*;rw[List.cons_append,List.takeWhile_cons_of_pos (by exact hc),List.dropWhile_cons_of_pos (by exact hc),h1,h2];exact⟨rfl,rfl⟩
def litL:List UInt8:=[45,48,49,50,51,52,53,54,55,56,57]
theorem lit_mem (c:UInt8):litL.contains c=(isDig c||decide (c=45)):=mem_small (litL.contains ·) (fun c=>isDig c||decide (c=45)) (by decide+kernel) c
def nd (op:Int) (a:Ra) (nm:List UInt8):Nd:=⟨op,a,⟨nm.toArray⟩⟩
def numA (s:List UInt8):Option (Ra × List UInt8):=
 if (ratParse ⟨(spanW numL s).toArray⟩).2 then some ((ratParse ⟨(spanW numL s).toArray⟩).1,spanR numL s) else none
def litA (s:List UInt8):Option (Option (Nd × List UInt8)):=
 if Lib.hasPrefix s [36] then (numA (s.drop 1)).map fun q=>some (nd 1 q.1 [],q.2)
 else if s.isEmpty|| !(litL.contains (s.headD 0)) then some none
 else (numA s).map fun q=>if Lib.hasPrefix q.2 [100] then some (nd 2 q.1 [],q.2.drop 1) else some (nd 3 q.1 [],q.2)
abbrev PS:=List UInt8 × List Nd × Nat
def sepW (k:Nat):List UInt8:=if k=0 then [40] else [44,32]
def opsA (p:List UInt8->List Nd->Nat->Option PS):Nat->Nat->List UInt8->List Nd->Nat->Option PS
 |0,_,s,ns,b=>some (s,ns,b)
 |m+1,k,s,ns,b=>if Lib.hasPrefix s (sepW k) then (p (s.drop (sepW k).length) ns b).bind fun q=>opsA p m (k+1) q.1 q.2.1 q.2.2 else none
def yesL:List UInt8:=[121,101,115]
def noL:List UInt8:=[110,111]
def stpA (y:Bool) (s:List UInt8):Option (Ra × List UInt8):=
 if y then (if Lib.hasPrefix s [91] then (numA (s.drop 1)).bind fun q=>if Lib.hasPrefix q.2 [93] then some (q.1,q.2.drop 1) else none else none) else some (zR,s)
def dotA (s:List UInt8):List UInt8 × List UInt8:=
 if Lib.hasPrefix (spanR lettersL s) [46] then (spanW lettersL s++[46],(spanR lettersL s).drop 1) else (spanW lettersL s,spanR lettersL s)
def tailA (p:List UInt8->List Nd->Nat->Option PS) (k:Int) (s:List UInt8) (ns:List Nd) (b:Nat):Option PS:=
 (stpA (shp k).stp (if (shp k).nam then spanR namesL s else s)).bind fun q=>
 (opsA p (shp k).ops 0 q.2 ns b).bind fun t=>
 if 0<(shp k).ops then (if Lib.hasPrefix t.1 [41] then some (t.1.drop 1,t.2.1++[nd k q.1 (if (shp k).nam then spanW namesL s else [])],t.2.2) else none)
 else some (t.1,t.2.1++[nd k q.1 (if (shp k).nam then spanW namesL s else [])],t.2.2)
def parA:Nat->List UInt8->List Nd->Nat->Option PS
 |0,_,_,_=>none
 |f+1,s,ns,b=>
  if 60<b+1 then none else
  (litA s).bind fun
    |some q=>some (q.2,ns++[q.1],b+1)
    |none=>
     if spanW lettersL s=yesL then some (spanR lettersL s,ns++[nd 4 (ofI 1) []],b+1)
     else if spanW lettersL s=noL then some (spanR lettersL s,ns++[nd 4 (ofI 0) []],b+1)
     else if placeOf ⟨(dotA s).1.toArray⟩<0 then none
     else tailA (parA f) (placeOf ⟨(dotA s).1.toArray⟩) (dotA s).2 ns (b+1)
def parseA (s:List UInt8):Option (List Nd):=
 (parA 61 s [] 0).bind fun q=>if checkE q.2.1=0/\textE q.2.1=s then some q.2.1 else none
def Stp (r:List UInt8):Prop:=∀c,r.head?=some c->c=44∨c=41
def sepT:Nat->List (List Nd)->List UInt8
 |_,[]=>[]
 |k,a::cs=>sepW k++textE a++sepT (k+1) cs
theorem sepT_join (cs:List (List Nd)) (k:Nat) (hk:k≠0):sepT k cs=cs.flatMap fun a=>[44,32]++textE a:=by
 induction cs generalizing k with
 |nil=>rfl
 |cons a cs ih=>rw[sepT,ih (k+1) (by omega),List.flatMap_cons,sepW,if_neg hk]
theorem joinC_flat (a:List UInt8) (l:List (List UInt8)):joinC (a::l)=a++l.flatMap fun x=>[44,32]++x:=by
 induction l generalizing a with
 |nil=>simp[joinC]
 |cons x l ih=>
  have:joinC (a::x::l)=a++[44,32]++joinC (x::l):=rfl;rw[this,ih x,List.flatMap_cons];simp
theorem sepT_zero (cs:List (List Nd)) (h:cs≠[]):sepT 0 cs=[40]++joinC (cs.map textE):=by
 cases cs with
 |nil=>exact absurd rfl h
 |cons a cs=>
  rw[sepT,sepT_join _ _ (by omega),List.map_cons,joinC_flat,List.flatMap_map];simp[sepW]
theorem sepT_stp (cs:List (List Nd)) (k:Nat) (hk:k≠0) (r:List UInt8):Stp (sepT k cs++([41]++r)):=by
 intro c hc;cases cs with
 |nil=>
  simp[sepT] at hc;exact .inr hc.symm
 |cons a cs=>
  rw[sepT,sepW,if_neg hk] at hc;simp at hc;exact .inl hc.symm
theorem prefix_app (p r:List UInt8):Lib.hasPrefix (p++r) p=true:=by
 unfold Lib.hasPrefix;rw[List.isPrefixOf_iff_prefix];exact List.prefix_append _ _
theorem opsA_text (p:List UInt8->List Nd->Nat->Option PS) (cs:List (List Nd)) (r:List UInt8)
  (hp:∀e∈cs,∀r ns b,Stp r->b+e.length<=60->p (textE e++r) ns b=some (r,ns++e,b+e.length)) (k:Nat) (ns:List Nd) (b:Nat) (hb:b+cs.flatten.length<=60):
  opsA p cs.length k (sepT k cs++([41]++r)) ns b=some ([41]++r,ns++cs.flatten,b+cs.flatten.length):=by
 induction cs generalizing k ns b with
 |nil=>simp[opsA,sepT]
 |cons a cs ih=>
  rw[List.flatten_cons,List.length_append] at hb;have e1:sepT k (a::cs)++([41]++r)=sepW k++(textE a++(sepT (k+1) cs++([41]++r))):=by rw[sepT];simp
  rw[e1,List.length_cons,opsA,if_pos (prefix_app _ _),List.drop_left,hp a (List.mem_cons_self ..) _ _ _ (sepT_stp _ _ (by omega) _) (by omega)];simp only[Option.bind_some]
  rw[ih (fun e he=>hp e (List.mem_cons_of_mem _ he)) (k+1) _ _ (by omega)];simp[Nat.add_assoc]
theorem stp_num {r:List UInt8} (h:Stp r):∀c,r.head?=some c->numL.contains c=false:=by
 intro c hc;rcases h c hc with rfl|rfl<;>rfl
theorem stp_lett {r:List UInt8} (h:Stp r):∀c,r.head?=some c->lettersL.contains c=false:=by
 intro c hc;rcases h c hc with rfl|rfl<;>rfl
theorem stp_name {r:List UInt8} (h:Stp r):∀c,r.head?=some c->namesL.contains c=false:=by
 intro c hc;rcases h c hc with rfl|rfl<;>rfl
theorem numA_text {a:Ra} (h:okR a=true) {r:List UInt8} (hr:∀c,r.head?=some c->numL.contains c=false):numA ((textR a).data.toList++r)=some (a,r):=by
 obtain⟨h1,h2⟩:=span_app numL _ r (textR_num h) hr;have h3:(⟨(textR a).data.toList.toArray⟩:ByteArray)=textR a:=rfl;unfold numA;rw[h1,h2,h3,ratParse_text a h,if_pos rfl]
theorem litA_letter {c:UInt8} {l:List UInt8} (hc:lettersL.contains c=true):litA (c::l)=some none:=by
 have h:=hc;rw[letters_mem] at h;simp only[letterC,Bool.and_eq_true,decide_eq_true_eq] at h
 have h1:Lib.hasPrefix (c::l) [36]=false:=by
  rw[prefix_one];simp only[List.head?_cons,beq_eq_false_iff_ne,ne_eq,Option.some.injEq]
  rintro rfl;revert h;decide
 have h2:litL.contains c=false:=by
  rw[lit_mem];simp only[isDig,Bool.or_eq_false_iff,Bool.and_eq_false_iff,decide_eq_false_iff_not]
  refine⟨.inr (by omega),?_⟩;rintro rfl;revert h;decide
 unfold litA;rw[h1];simp only[Bool.false_eq_true,if_false,List.headD_cons,h2]
 simp
def wordL (k:Int):List UInt8:=if (shp k).nam then (shp k).word.dropLast else (shp k).word
theorem word_facts (k:Int) (h:5<=k/\k<=24):(shp k).word=wordL k++(if (shp k).nam then [46] else [])/\(∃c l,wordL k=c::l)/\(∀c∈wordL k,lettersL.contains c=true)/\wordL k≠yesL/\wordL k≠noL/\placeOf ⟨(shp k).word.toArray⟩=k:=by
 have hall:∀j∈List.range 25,5<=j->((shp (j:Int)).word=wordL j++(if (shp (j:Int)).nam then [46] else [])/\(wordL j).length≠0/\(wordL j).all (lettersL.contains ·)=true/\wordL j≠yesL/\wordL j≠noL/\placeOf ⟨(shp (j:Int)).word.toArray⟩=j):=by decide+kernel
 obtain⟨h1,h2,h3,h4,h5,h6⟩:=hall k.toNat (List.mem_range.2 (by omega)) (by omega);rw[show ((k.toNat:Nat):Int)=k from by omega] at*;exact⟨h1,List.exists_cons_of_ne_nil (fun h=>h2 (by rw[h];rfl)),List.all_eq_true.1 h3,h4,h5,h6⟩
theorem name_bytes {s:ByteArray} (h:nameB s.data.toList=true):∀c∈s.data.toList,namesL.contains c=true:=by
 unfold nameB at h;simp only[Bool.and_eq_true] at h;intro c hc;rw[names_mem];exact List.all_eq_true.1 h.2 c hc
theorem wrongN_parts {n:Nd} (h:wrongN n=0):1<=n.op/\n.op<=24/\((shp n.op).nam=false->n.name=⟨#[]⟩)/\numOk n=true/\((shp n.op).nam=true->nameB n.name.data.toList=true):=by
 unfold wrongN at h;split at h
 ·cases h
 ·next h1=>
  have h1':=fun x=>h1 (.inl x)
  have h2':=fun x=>h1 (.inr (.inl x))
  refine⟨by omega,by omega,fun hn=>Classical.byContradiction fun hh=>h1 (.inr (.inr (.inl ⟨hn,hh⟩))),?_,?_⟩
  ·cases hk:numOk n
   ·exact absurd (.inr (.inr (.inr hk))) h1
   ·rfl
  ·intro hn;rw[hn] at h;cases hb:nameB n.name.data.toList
   ·rw[hb] at h;simp at h
   ·rfl
theorem op_big {n:Nd} (h:wrongN n=0) (h5:5<=n.op) (J:List (List UInt8)):
  txt n J=(shp n.op).word++n.name.data.toList++(if (shp n.op).stp then [91]++(textR n.num).data.toList++[93] else [])++(if (shp n.op).ops=0 then [] else [40]++joinC J++[41]):=by
 unfold txt;rw[if_neg (by omega),shp_lit,if_neg (by rw[decide_eq_true_eq];omega),if_neg (show ¬n.op=2 by omega)];simp
theorem num_big {n:Nd} (h:wrongN n=0) (h5:5<=n.op):((shp n.op).stp=true->okR n.num=true)/\((shp n.op).stp=false->n.num=zR):=by
 obtain⟨_,_,_,hn,_⟩:=wrongN_parts h;unfold numOk at hn;rw[if_neg (by omega),shp_lit,if_neg (by rw[decide_eq_true_eq];omega)] at hn;constructor
 ·intro hs;rw[if_pos hs] at hn;unfold fitsR at hn;simp only[Bool.and_eq_true] at hn;exact hn.1.1.1
 ·intro hs;rw[hs,if_neg (by simp)] at hn;exact of_decide_eq_true hn
theorem num_lit {n:Nd} (h:wrongN n=0) (h5:n.op<4):okR n.num=true:=by
 obtain⟨h1,_,_,hn,_⟩:=wrongN_parts h;unfold numOk at hn;rw[if_neg (by omega),shp_lit,if_pos (decide_eq_true (by omega))] at hn;unfold fitsR at hn;simp only[Bool.and_eq_true] at hn;exact hn.1.1
theorem big_head (k:Int) (h:5<=k/\k<=24):(shp k).nam=true∨(shp k).ops≠0:=by
 have h1:=shp_nam k;have h2:=shp_ops k;by_cases hn:(5<=k/\k<=8)∨k=24
 ·exact .inl (by rw[h1];exact decide_eq_true hn)
 ·refine .inr ?_;intro h0;rw[h0] at h2;split at h2
  ·omega
  ·split at h2
   ·omega
   ·split at h2<;>omega
theorem drop_one (c:UInt8) (x:List UInt8):([c]++x).drop 1=x:=rfl
theorem nd_eq {n:Nd} {op:Int} {a:Ra} {nm:List UInt8} (h1:op=n.op) (h2:a=n.num) (h3:(⟨nm.toArray⟩:ByteArray)=n.name):nd op a nm=n:=by
 obtain⟨o,x,y⟩:=n;subst h1 h2 h3;rfl
theorem tailA_text (p:List UInt8->List Nd->Nat->Option PS) {n:Nd} (hn:wrongN n=0) (h5:5<=n.op) (cs:List (List Nd)) (hl:cs.length=(shp n.op).ops) (r:List UInt8) (hr:Stp r) (ns:List Nd) (b:Nat)
  (hops:opsA p cs.length 0 (sepT 0 cs++([41]++r)) ns b=some ([41]++r,ns++cs.flatten,b+cs.flatten.length)):
  tailA p n.op (n.name.data.toList++((if (shp n.op).stp then [91]++(textR n.num).data.toList++[93] else [])++((if (shp n.op).ops=0 then [] else [40]++joinC (cs.map textE)++[41])++r))) ns b
   =some (r,ns++(cs.flatten++[n]),b+cs.flatten.length):=by
 obtain⟨_,h24,hne,_,hnb⟩:=wrongN_parts hn;obtain⟨hz1,hz2⟩:=num_big hn h5
 have hO:(if (shp n.op).ops=0 then [] else [40]++joinC (cs.map textE)++[41])++r=if (shp n.op).ops=0 then r else sepT 0 cs++([41]++r):=by
  split
  ·rfl
  ·next h0=>
   rw[sepT_zero cs (by intro h;rw[h] at hl;exact h0 hl.symm)];simp
 rw[hO]
 have hhead:∀c,((if (shp n.op).stp then [91]++(textR n.num).data.toList++[93] else [])++(if (shp n.op).ops=0 then r else sepT 0 cs++([41]++r))).head?=some c->namesL.contains c=false:=by
  intro c hc;cases hs:(shp n.op).stp
  ·rw[hs,if_neg (by simp),List.nil_append] at hc;split at hc
   ·exact stp_name hr c hc
   ·next h0=>
    rw[sepT_zero cs (by intro h;rw[h] at hl;exact h0 hl.symm)] at hc;obtain rfl:40=c:=by simpa using hc
    rfl
  ·rw[hs,if_pos rfl] at hc;obtain rfl:91=c:=by simpa using hc
   rfl
 have hnam:(if (shp n.op).nam then spanR namesL (n.name.data.toList++((if (shp n.op).stp then [91]++(textR n.num).data.toList++[93] else [])++(if (shp n.op).ops=0 then r else sepT 0 cs++([41]++r)))) else (n.name.data.toList++((if (shp n.op).stp then [91]++(textR n.num).data.toList++[93] else [])++(if (shp n.op).ops=0 then r else sepT 0 cs++([41]++r)))))
   =((if (shp n.op).stp then [91]++(textR n.num).data.toList++[93] else [])++(if (shp n.op).ops=0 then r else sepT 0 cs++([41]++r)))/\
   (⟨(if (shp n.op).nam then spanW namesL (n.name.data.toList++((if (shp n.op).stp then [91]++(textR n.num).data.toList++[93] else [])++(if (shp n.op).ops=0 then r else sepT 0 cs++([41]++r)))) else []).toArray⟩:ByteArray)=n.name:=by
  cases hm:(shp n.op).nam
  ·rw[hne hm];simp
  ·obtain⟨s1,s2⟩:=span_app namesL n.name.data.toList _ (name_bytes (hnb hm)) hhead;rw[if_pos rfl,if_pos rfl,s1,s2];exact⟨rfl,rfl⟩
 obtain⟨e1,e2⟩:=hnam
 have hst:stpA (shp n.op).stp ((if (shp n.op).stp then [91]++(textR n.num).data.toList++[93] else [])++(if (shp n.op).ops=0 then r else sepT 0 cs++([41]++r)))=some (n.num,(if (shp n.op).ops=0 then r else sepT 0 cs++([41]++r))):=by
  cases hs:(shp n.op).stp
  ·rw[hz2 hs];rfl
  ·unfold stpA
   rw[if_pos rfl,if_pos rfl,List.append_assoc,List.append_assoc,if_pos (prefix_app _ _),drop_one,
    numA_text (hz1 hs) (by intro c hc;obtain rfl:93=c:=by simpa using hc
                           rfl)]
   simp only[Option.bind_some]
   rw[if_pos (prefix_app _ _)];rfl
 unfold tailA;rw[e1,hst];simp only[Option.bind_some]
 have hnode:nd n.op n.num (if (shp n.op).nam then spanW namesL (n.name.data.toList++((if (shp n.op).stp then [91]++(textR n.num).data.toList++[93] else [])++(if (shp n.op).ops=0 then r else sepT 0 cs++([41]++r)))) else [])=n:=nd_eq rfl rfl e2;rw[hnode];by_cases h0:(shp n.op).ops=0
 ·have hcs:cs=[]:=List.eq_nil_of_length_eq_zero (by omega);subst hcs;rw[if_pos h0,h0];simp[opsA]
 ·rw[if_neg h0,<-hl,hops];simp only[Option.bind_some]
  rw[if_pos (by omega),if_pos (prefix_app _ _)];simp
theorem parA_text (f:Nat):∀e:List Nd,Ex f e->∀r ns b,Stp r->b+e.length<=60->parA f (textE e++r) ns b=some (r,ns++e,b+e.length):=by
 induction f with
 |zero=>intro e h;exact h.elim
 |succ f ih=>
  rintro e ⟨cs,n,rfl,hn,hl,ha⟩ r ns b hr hb;have hlen:(cs.flatten++[n]).length=cs.flatten.length+1:=by simp
  rw[hlen] at hb⊢;rw[textE_node hl ha];have hops:=opsA_text (parA f) cs r (fun e he r ns b hr hb=>ih e (ha e he) r ns b hr hb) 0 ns (b+1) (by omega);rw[parA,if_neg (by omega)];obtain⟨h1,h24,hne,hnum,hnb⟩:=wrongN_parts hn;by_cases h5:5<=n.op
  ·obtain⟨w1,⟨c,l,w2⟩,w3,w4,w5,w6⟩:=word_facts n.op ⟨h5,h24⟩;rw[op_big hn h5];obtain⟨T,hT⟩:=zE (n.name.data.toList++((if (shp n.op).stp then [91]++(textR n.num).data.toList++[93] else [])++((if (shp n.op).ops=0 then [] else [40]++joinC (cs.map textE)++[41])++r)))
   have htx:((shp n.op).word++n.name.data.toList++(if (shp n.op).stp then [91]++(textR n.num).data.toList++[93] else [])++(if (shp n.op).ops=0 then [] else [40]++joinC (cs.map textE)++[41]))++r=wordL n.op++((if (shp n.op).nam then [46] else [])++T):=by
    rw[hT,w1];simp
   rw[htx]
   have hhd:∀c,((if (shp n.op).nam then [46] else [])++T).head?=some c->lettersL.contains c=false/\((shp n.op).nam=false->c≠46):=by
    intro c hc;cases hm:(shp n.op).nam
    ·rw[hm,if_neg (by simp),List.nil_append,hT,hne hm] at hc
     have h0:(shp n.op).ops≠0:=by
      rcases big_head n.op ⟨h5,h24⟩ with h|h
      ·rw[hm] at h;cases h
      ·exact h
     rw[if_neg h0] at hc;cases hs:(shp n.op).stp
     ·rw[hs] at hc;obtain rfl:40=c:=by simpa using hc
      exact⟨rfl,fun _=>by decide⟩
     ·rw[hs] at hc;obtain rfl:91=c:=by simpa using hc
      exact⟨rfl,fun _=>by decide⟩
    ·rw[hm,if_pos rfl] at hc;obtain rfl:46=c:=by simpa using hc
     exact⟨rfl,fun h=>by cases h⟩
   obtain⟨s1,s2⟩:=span_app lettersL (wordL n.op) _ w3 (fun c hc=>(hhd c hc).1)
   have hd:dotA (wordL n.op++((if (shp n.op).nam then [46] else [])++T))=((shp n.op).word,T):=by
    unfold dotA;rw[s1,s2];cases hm:(shp n.op).nam
    ·rw[hm] at w1
     have hp:Lib.hasPrefix ((if false=true then [46] else [])++T) [46]=false:=by
      rw[prefix_one,beq_eq_false_iff_ne];intro hh;exact (hhd 46 (by rw[hm];exact hh)).2 hm rfl
     rw[hp,w1];simp
    ·rw[hm] at w1;rw[if_pos (by rw[if_pos rfl];exact prefix_app _ _),w1];simp
   have hlit:litA (wordL n.op++((if (shp n.op).nam then [46] else [])++T))=some none:=by
    rw[w2,List.cons_append];exact litA_letter (w3 c (by rw[w2];exact List.mem_cons_self ..))
   rw[hlit];simp only[Option.bind_some]
   rw[s1,if_neg w4,if_neg w5,hd,w6,if_neg (by omega),hT,tailA_text (parA f) hn h5 cs hl r hr ns (b+1) hops];simp only[Nat.add_assoc,Nat.add_comm 1]
  ·have h0:(shp n.op).ops=0:=by
    have:=shp_ops n.op;rw[if_neg (by omega),if_neg (by omega),if_neg (by omega)] at this;omega
   have hnam:(shp n.op).nam=false:=by rw[shp_nam];exact decide_eq_false (by omega)
   have hcs:cs=[]:=List.eq_nil_of_length_eq_zero (by omega);subst hcs;have hnm:=hne hnam;obtain⟨op,num,nm⟩:=n;simp only at*;subst hnm;simp only[List.flatten_nil,List.nil_append,List.length_nil,Nat.zero_add,List.map_nil]
   have hop:op=1∨op=2∨op=3∨op=4:=by omega
   rcases hop with rfl|rfl|rfl|rfl
   ·have hk:=num_lit hn (by simp)
    have ht:txt ⟨1,num,⟨#[]⟩⟩ []++r=[36]++((textR num).data.toList++r):=by
     show (([36]++[]++(textR num).data.toList++[]++[]++[]):List UInt8)++r=_;simp
    rw[ht];unfold litA;rw[if_pos (prefix_app _ _),drop_one,numA_text hk (stp_num hr)];rfl
   ·have hk:=num_lit hn (by simp)
    have ht:txt ⟨2,num,⟨#[]⟩⟩ []++r=(textR num).data.toList++([100]++r):=by
     show (([]++[]++(textR num).data.toList++[100]++[]++[]):List UInt8)++r=_;simp
    rw[ht]
    have hna:=numA_text hk (r:=[100]++r) (by intro c hc;obtain rfl:100=c:=by simpa using hc
                                             rfl)
    obtain⟨c,l,hcl,hc⟩:=textR_head hk
    have hc36:c≠36:=by
     rintro rfl;rcases hc with hc|hc
     ·revert hc;decide
     ·cases hc
    have hcl2:litL.contains c=true:=by
     rw[lit_mem];rcases hc with hc|hc
     ·rw[hc];rfl
     ·rw[hc];rfl
    unfold litA;rw[if_neg (by rw[prefix_one,hcl];simp[hc36]),if_neg (by rw[hcl];simp;simpa using hcl2),hna];simp only[Option.map_some,Option.bind_some]
    rw[if_pos (prefix_app _ _)];rfl
   ·have hk:=num_lit hn (by simp)
    have ht:txt ⟨3,num,⟨#[]⟩⟩ []++r=(textR num).data.toList++r:=by
     show (([]++[]++(textR num).data.toList++[]++[]++[]):List UInt8)++r=_;simp
    rw[ht];have hna:=numA_text hk (stp_num hr);obtain⟨c,l,hcl,hc⟩:=textR_head hk
    have hc36:c≠36:=by
     rintro rfl;rcases hc with hc|hc
     ·revert hc;decide
     ·cases hc
    have hcl2:litL.contains c=true:=by
     rw[lit_mem];rcases hc with hc|hc
     ·rw[hc];rfl
     ·rw[hc];rfl
    unfold litA;rw[if_neg (by rw[prefix_one,hcl];simp[hc36]),if_neg (by rw[hcl];simp;simpa using hcl2),hna];simp only[Option.map_some,Option.bind_some]
    rw[if_neg (by
     rw[prefix_one];intro hh;rcases hr 100 (by simpa using hh) with h|h<;>revert h<;>decide)]
    rfl
   ·have hw:(num=ofI 0/\txt ⟨4,num,⟨#[]⟩⟩ []=noL)∨(num=ofI 1/\txt ⟨4,num,⟨#[]⟩⟩ []=yesL):=by
     unfold numOk at hnum;rw[if_pos rfl,Bool.or_eq_true,decide_eq_true_eq,decide_eq_true_eq] at hnum;rcases hnum with rfl|rfl
     ·exact .inl ⟨rfl,by unfold txt;rw[if_pos rfl,if_pos (show (ofI 0).num=⟨#[]⟩ from rfl)];rfl⟩
     ·exact .inr ⟨rfl,by unfold txt;rw[if_pos rfl,if_neg (show ¬(ofI 1).num=⟨#[]⟩ from by decide)];rfl⟩
    rcases hw with⟨rfl,ht⟩|⟨rfl,ht⟩
    ·rw[ht];obtain⟨s1,s2⟩:=span_app lettersL noL r (by decide) (stp_lett hr);rw[show noL++r=110::([111]++r) from rfl,litA_letter (by decide)];simp only[Option.bind_some]
     rw[show 110::([111]++r)=noL++r from rfl,s1,s2,if_neg (by decide),if_pos rfl];rfl
    ·rw[ht];obtain⟨s1,s2⟩:=span_app lettersL yesL r (by decide) (stp_lett hr);rw[show yesL++r=121::([101,115]++r) from rfl,litA_letter (by decide)];simp only[Option.bind_some]
     rw[show 121::([101,115]++r)=yesL++r from rfl,s1,s2,if_pos rfl];rfl
theorem Ex.len (k:Nat):∀e,Ex k e->Ex e.length e:=by
 induction k with
 |zero=>intro e h;exact h.elim
 |succ k ih=>
  rintro e ⟨cs,n,rfl,hn,hl,ha⟩;rw[List.length_append,List.length_singleton];refine⟨cs,n,rfl,hn,hl,fun a hm=>(ih a (ha a hm)).mono ?_⟩;exact (List.sublist_flatten_of_mem hm).length_le
theorem checkE_ex {e:List Nd} (h:checkE e=0):Ex 61 e:=by
 obtain⟨h1,k,hk⟩:=(checkE_iff e).1 h;exact (hk.len k e).mono (by omega)
theorem parseA_iff (s:List UInt8) (e:List Nd):parseA s=some e↔checkE e=0/\textE e=s:=by
 unfold parseA;constructor
 ·intro h;obtain⟨q,_,h2⟩:=Option.bind_eq_some_iff.1 h;split at h2
  ·next hc=>obtain rfl:=Option.some.inj h2;exact hc
  ·cases h2
 ·rintro⟨h1,rfl⟩;have h2:=parA_text 61 e (checkE_ex h1) [] [] 0 (by intro c hc;cases hc) (by have:=((checkE_iff e).1 h1).1;omega);rw[List.append_nil,List.nil_append] at h2;rw[h2];simp only[Option.bind_some]
  rw[if_pos (by exact⟨h1,by trivial⟩)]
def lc (l:List UInt8):List Value:=l.map fun b=>.int .u8 b.toNat
theorem lc_app (a b:List UInt8):lc (a++b)=lc a++lc b:=List.map_append
theorem lc_len (a:List UInt8):(lc a).length=a.length:=List.length_map _
structure Sub (e:List Nd) (args:List (List Nat)) (o:Nat) (a:List Nd):Prop where
 node:∀i,i<a.length->e[o+i]?=a[i]?
 args:∀i,i<a.length->args[o+i]?=(runA a o [])[i]?
theorem flatA_length (o:Nat) (cs:List (List Nd)):(flatA o cs).length=cs.flatten.length:=by
 induction cs generalizing o with
 |nil=>rfl
 |cons a cs ih=>rw[flatA,List.length_append,runA_length,ih,List.flatten_cons,List.length_append]
theorem flatA_append (o:Nat) (cs ds:List (List Nd)):flatA o (cs++ds)=flatA o cs++flatA (o+cs.flatten.length) ds:=by
 induction cs generalizing o with
 |nil=>rfl
 |cons a cs ih=>rw[List.cons_append,flatA,flatA,ih,List.flatten_cons,List.length_append,List.append_assoc,Nat.add_assoc]
theorem roots_append (o:Nat) (cs ds:List (List Nd)):roots o (cs++ds)=roots o cs++roots (o+cs.flatten.length) ds:=by
 induction cs generalizing o with
 |nil=>rfl
 |cons a cs ih=>rw[List.cons_append,roots,roots,ih,List.flatten_cons,List.length_append,List.cons_append,Nat.add_assoc]
theorem Sub.root {e:List Nd} {args:List (List Nat)} {o k:Nat} {cs:List (List Nd)} {n:Nd} (h:Sub e args o (cs.flatten++[n])) (hl:cs.length=(shp n.op).ops) (ha:∀a∈cs,Ex k a):
  e[o+cs.flatten.length]?=some n/\args[o+cs.flatten.length]?=some (roots o cs):=by
 refine⟨?_,?_⟩
 ·rw[h.node _ (by simp),List.getElem?_append_right (Nat.le_refl _)];simp
 ·rw[h.args _ (by simp),argsAt_node hl ha,List.getElem?_append_right (by rw[flatA_length];exact Nat.le_refl _),flatA_length];simp
theorem Sub.child {e:List Nd} {args:List (List Nat)} {o k:Nat} {cs ds:List (List Nd)} {c:List Nd} {n:Nd} (h:Sub e args o ((cs++c::ds).flatten++[n])) (hl:(cs++c::ds).length=(shp n.op).ops) (ha:∀a∈cs++c::ds,Ex k a):
  Sub e args (o+cs.flatten.length) c:=by
 have hf:(cs++c::ds).flatten++[n]=cs.flatten++(c++(ds.flatten++[n])):=by simp
 have hlen:∀i,i<c.length->cs.flatten.length+i<((cs++c::ds).flatten++[n]).length:=fun i hi=>by rw[hf];simp;omega
 refine⟨fun i hi=>?_,fun i hi=>?_⟩
 ·rw[Nat.add_assoc,h.node _ (hlen i hi),hf,List.getElem?_append_right (by omega),Nat.add_sub_cancel_left,List.getElem?_append_left hi]
 ·rw[Nat.add_assoc,h.args _ (hlen i hi),argsAt_node hl ha,flatA_append,flatA,List.append_assoc,List.append_assoc,List.getElem?_append_right (by rw[flatA_length];omega),flatA_length,Nat.add_sub_cancel_left,
   List.getElem?_append_left (by rw[runA_length];exact hi)]
theorem roots_get (o:Nat) (cs ds:List (List Nd)) (c:List Nd):(roots o (cs++c::ds))[cs.length]?=some (o+cs.flatten.length+c.length-1):=by
 rw[roots_append,List.getElem?_append_right (by rw[roots_length];exact Nat.le_refl _),roots_length,Nat.sub_self];rfl
theorem Sub.whole {e:List Nd}:Sub e (argsE e) 0 e:=⟨fun i _=>by rw[Nat.zero_add],fun i _=>by rw[Nat.zero_add];rfl⟩
theorem textE_len (k:Nat):∀a:List Nd,Ex k a->(∀n∈a,Fine n)->(textE a).length+2<=7000002*a.length:=by
 induction k with
 |zero=>intro a h;exact h.elim
 |succ k ih=>
  rintro a ⟨cs,n,rfl,hn,hl,ha⟩ hf;rw[textE_node hl ha];have h1:=txt_len hn (hf n (by simp)) (cs.map textE)
  have h2:∀ds:List (List Nd),(∀a∈ds,Ex k a)->(∀n∈ds.flatten,Fine n)->((ds.map textE).map List.length).sum+2*ds.length<=7000002*ds.flatten.length:=by
   intro ds
   induction ds with
   |nil=>intro _ _;simp
   |cons d ds ihd=>
    intro ha hf;have h3:=ih d (ha d (by simp)) (fun n hn=>hf n (by simp[hn]));have h4:=ihd (fun a h=>ha a (by simp[h])) (fun n hn=>hf n (by simp only[List.flatten_cons,List.mem_append];exact .inr hn));simp only[List.map_cons,List.sum_cons,List.length_cons,List.flatten_cons,List.length_append]
    omega
  have h5:=h2 cs ha (fun n hn=>hf n (by simp only[List.mem_append];exact .inl hn));rw[List.length_map] at h1;rw[List.length_append,List.length_singleton];omega
structure BF (b:Nat) (w w':World):Prop where
 size:w.heap.size<=w'.heap.size
 keep:∀k cs t fr,w.heap[k]?=some (.cells cs t fr)->t≠5->k≠b->w'.heap[k]?=some (.cells cs t fr)
theorem BF.refl (b:Nat) (w:World):BF b w w:=⟨Nat.le_refl _,fun _ _ _ _ h _ _=>h⟩
theorem BF.trans {b:Nat} {w w' w'':World} (h:BF b w w') (k:BF b w' w''):BF b w w'':=⟨Nat.le_trans h.size k.size,fun i cs t fr hi ht hb=>k.keep i cs t fr (h.keep i cs t fr hi ht hb) ht hb⟩
theorem lt_of_some {w:World} {k:Nat} {x:Obj} (h:w.heap[k]?=some x):k<w.heap.size:=(Array.getElem?_eq_some_iff.1 h).1
theorem BF.of_below {b:Nat} {w w':World} (h:Below w.heap.size w w'):BF b w w':=⟨h.size,fun k cs t fr hk _ _=>(h.block k (lt_of_some hk)).trans hk⟩
theorem BF.set {b:Nat} {w w':World} (h:BF b w w') (i:Nat) (u:Value):BF b w (w'.setCell ⟨b,i,none⟩ u):=
 ⟨by simpa [World.setCell] using h.size,fun k cs t fr hk ht hb=>(Below.heap_setCell w' _ u k (by show k≠b;exact hb)).trans (h.keep k cs t fr hk ht hb)⟩
theorem BF.blk {b k:Nat} {w w':World} {t:TypeId} {cs:List Value} (h:BF b w w') (hk:Blk w k t cs) (ht:t≠5) (hb:k≠b):Blk w' k t cs:=h.keep k _ _ _ hk ht hb
theorem BF.grown {b B n:Nat} {w w':World} {v:Value} {xs:List Value} (hown:w.ownsRow B 5 1 v n xs) (hg:w.grownBy w' v.ownBlock):BF b w w':=by
 refine⟨hg.size,fun k cs t fr hk ht _=>(hg.block k (lt_of_some hk) ?_).trans hk⟩;intro he;rcases hown.2 with⟨rfl,_⟩|⟨g,cap,cur,rfl,_,hh,_⟩
 ·cases he
 ·have:k=g:=by simpa [Value.ownBlock] using he
  subst this;rw[hk] at hh;injection hh with hh;injection hh with _ h2;exact ht h2
theorem cc_bf (B b:Nat) (bs:List Value) (w:World) (h:Lib.IsBuilder 78 5 B b bs w):
  Calls Tryz.prog 162 #[.pointer (some ⟨b,0,none⟩)] w fun e w'=>e=.returned (.tuple #[])/\(Lib.BuilderAt 78 5 B b (.pointer (some ⟨b,0,none⟩)) bs w'/\Below B w w'/\BF b w w'):=by
 rcases h with h|h
 ·refine (cc_fresh b w h.cell0 h.shape h.frozen0).mono ?_;rintro e w' ⟨rfl,rfl⟩;exact⟨rfl,h.used _,(Below.refl B w).setCell (p:=⟨b,0,none⟩) h.1 _,(BF.refl b w).set 0 _⟩
 ·refine (cc_used b w h.cell0).mono ?_;rintro e w' ⟨rfl,rfl⟩;exact⟨rfl,h,Below.refl B _,BF.refl b _⟩
theorem wrs_bf (B b:Nat) (bs:List Value) (s:ByteArray) (w:World) (h:Lib.IsBuilder 78 5 B b bs w) (hlen:bs.length+s.size<=140737488355328) (hBw:B<=w.heap.size):
  Calls Tryz.prog 121 #[.pointer (some ⟨b,0,none⟩),.string s] w fun e w'=>e=.returned (.tuple #[.int .i64 s.size,.nilIface])/\(Lib.BuilderAt 78 5 B b (.pointer (some ⟨b,0,none⟩)) (bs++lc s.data.toList) w'/\Below B w w'/\BF b w w'):=by
 obtain⟨i0,hi,hz0,hz1,hz2⟩:=info_parts (show (Tryz.prog.info? 5).map (fun i=>(i.zero,i.size,i.bytes))=some (some (.int .u8 0),1,1) by kernel_rfl);have HC:=zH (cc_bf B b bs w h);go_enter Tryz.func121,Tryz.ntmps121;go_wp2_with fail;refine HC.out.mono ?_;rintro e w1 ⟨rfl,h1,hb1,hf1⟩;obtain⟨hB,v,hbk,hown,hne⟩:=h1;have c0:w1.cell? ⟨b,0,none⟩=some (.pointer (some ⟨b,0,none⟩)):=by rw[Lib.cell_of_heap hbk];rfl
 have c1:w1.cell? ⟨b,1,none⟩=some v:=by rw[Lib.cell_of_heap hbk];rfl
 go_wp2_with (at_builtin;refine Lib.wpList_append_own_string _ rfl _ _ 76 9 rfl B 5 i0 Tryz.underlying76 Tryz.underlying9 hi hz0 hz1 hz2 _ _ _ rfl hown s rfl ?c3 ?c4 ?c5 ?_)
 case c3=>unfold maxLen;omega
 case c4=>omega
 case c5=>have:=hb1.size;omega
 intro v' w2 hown' hgrow _
 have hlt:b<w1.heap.size:=by
  rcases Nat.lt_or_ge b w1.heap.size with h'|h'
  ·exact h'
  ·simp[Array.getElem?_eq_none h'] at hbk
 have hb2:w2.heap[b]?=some (.cells #[.pointer (some ⟨b,0,none⟩),v] 78 (0,0)):=by
  rw[hgrow.block b hlt (fun e=>hne e.symm)];exact hbk
 have d0:w2.cell? ⟨b,0,none⟩=some (.pointer (some ⟨b,0,none⟩)):=by rw[Lib.cell_of_heap hb2];rfl
 have d1:w2.cell? ⟨b,1,none⟩=some v:=by rw[Lib.cell_of_heap hb2];rfl
 have f1:w2.frozen? ⟨b,1,none⟩=false:=Lib.frozen_of_heap hb2 1;have HF:Hid (BF b w w2):=hf1.trans (BF.grown hown hgrow);clear hf1
 obtain⟨ao,n',cap,rfl⟩:∃ao n' cap,v'=.slice ao n' cap:=by
  rcases hown'.2 with⟨hv,_⟩|⟨g,cap,cur,hv,_⟩
  ·exact⟨_,_,_,hv⟩
  ·exact⟨_,_,_,hv⟩
 go_wp2;go_ret2;refine⟨rfl,?_,?_,HF.out.set 1 _⟩
 ·exact Lib.BuilderAt.put (T:=78) (e:=5) hB hb2 (bs':=bs++lc s.data.toList) (by simpa [Lib.strCells_length,lc,Lib.strCells] using hown') (by decide)
 ·exact (hb1.grown hgrow (by have:=hb1.size;omega) (fun k hk=>(hown.lt k hk).1)).setCell (p:=⟨b,1,none⟩) hB _
theorem bld_below {T e:TypeId} {B b:Nat} {p:Value} {bs:List Value} {w w':World} (h:Lib.BuilderAt T e B b p bs w) (hb:Below w.heap.size w w'):Lib.BuilderAt T e B b p bs w':=by
 obtain⟨h1,v,h2,h3,h4⟩:=h;exact⟨h1,v,(hb.block b (lt_of_some h2)).trans h2,own_below h3 hb,h4⟩
theorem isb_below {T e:TypeId} {B b:Nat} {bs:List Value} {w w':World} (h:Lib.IsBuilder T e B b bs w) (hb:Below w.heap.size w w'):Lib.IsBuilder T e B b bs w':=h.imp (fun h=>bld_below h hb) (fun h=>bld_below h hb)
theorem isb_lt {T e:TypeId} {B b:Nat} {bs:List Value} {w:World} (h:Lib.IsBuilder T e B b bs w):b<w.heap.size:=by
 rcases h with h|h<;>exact h.lt
theorem yesno_map (W:World) (r:Nat) (hr:r=W.heap.size):∃W2 W3:World,
  (Instr.mapUpdate 233 (.map (some r)) (.bool true) (.string ⟨#[121,101,115]⟩)).run Tryz.prog (W.alloc (.map #[] 0))=.ok () W2/\
  (Instr.mapUpdate 233 (.map (some r)) (.bool false) (.string ⟨#[110,111]⟩)).run Tryz.prog W2=.ok () W3/\
  (Instr.lookup 233 (.map (some r)) (.bool true) false).run Tryz.prog W3=.ok (.string ⟨#[121,101,115]⟩) W3/\
  (Instr.lookup 233 (.map (some r)) (.bool false) false).run Tryz.prog W3=.ok (.string ⟨#[110,111]⟩) W3/\Below W.heap.size W W3:=by
 subst hr;have hm:=Tryz.underlying233;have hk:=Tryz.underlying4;have hc:∀(x b:Bool) (w:World),(Instr.checkKey b 10000 4 (.bool x)).run Tryz.prog w=.ok () w:=fun x b w=>MapKept.run_checkKey (k:=.bool x) hk (by simp[MapKept.IsKey]) b 9999
 obtain⟨W1,hW1⟩:=zE (W.alloc (.map #[] 0));have hb1:W1.heap[W.heap.size]?=some (.map #[] 0):=by rw[hW1];unfold World.alloc;simp
 have h1:(Instr.mapUpdate 233 (.map (some W.heap.size)) (.bool true) (.string ⟨#[121,101,115]⟩)).run Tryz.prog W1=.ok () {W1 with heap:=W1.heap.setIfInBounds W.heap.size (.map #[{key:=.bool true,val:=.string ⟨#[121,101,115]⟩,born:=0}] 1)}:=by
  have hf:Instr.findNow .bool (.bool true) ([]:List MapEntry) 0=some none:=rfl;simp[Instr.mapUpdate,run_underlying hm,MapKept.run_getObj_map hb1,hc,MapKept.run_findKey hk hf,MapKept.run_setObj_map _ hb1,Result.andThen]
 obtain⟨W2,hW2⟩:=zE (({W1 with heap:=W1.heap.setIfInBounds W.heap.size (.map #[{key:=.bool true,val:=.string ⟨#[121,101,115]⟩,born:=0}] 1)}:World));have hb2:W2.heap[W.heap.size]?=some (.map #[{key:=.bool true,val:=.string ⟨#[121,101,115]⟩,born:=0}] 1):=by rw[hW2];show (W1.heap.setIfInBounds _ _)[_]?=_;rw[Array.getElem?_setIfInBounds,if_pos rfl,if_pos (lt_of_some hb1)]
 rw[<-hW2] at h1
 have h2:(Instr.mapUpdate 233 (.map (some W.heap.size)) (.bool false) (.string ⟨#[110,111]⟩)).run Tryz.prog W2=.ok () {W2 with heap:=W2.heap.setIfInBounds W.heap.size (.map #[{key:=.bool true,val:=.string ⟨#[121,101,115]⟩,born:=0},{key:=.bool false,val:=.string ⟨#[110,111]⟩,born:=1}] 2)}:=by
  have hf:Instr.findNow .bool (.bool false) ([{key:=.bool true,val:=.string ⟨#[121,101,115]⟩,born:=0}]:List MapEntry) 0=some none:=rfl;simp[Instr.mapUpdate,run_underlying hm,MapKept.run_getObj_map hb2,hc,MapKept.run_findKey hk hf,MapKept.run_setObj_map _ hb2,Result.andThen]
 obtain⟨W3,hW3⟩:=zE (({W2 with heap:=W2.heap.setIfInBounds W.heap.size (.map #[{key:=.bool true,val:=.string ⟨#[121,101,115]⟩,born:=0},{key:=.bool false,val:=.string ⟨#[110,111]⟩,born:=1}] 2)}:World));have hb3:W3.heap[W.heap.size]?=some (.map #[{key:=.bool true,val:=.string ⟨#[121,101,115]⟩,born:=0},{key:=.bool false,val:=.string ⟨#[110,111]⟩,born:=1}] 2):=by rw[hW3];show (W2.heap.setIfInBounds _ _)[_]?=_;rw[Array.getElem?_setIfInBounds,if_pos rfl,if_pos (lt_of_some hb2)]
 rw[<-hW3] at h2;refine⟨W2,W3,by rw[<-hW1];exact h1,h2,?_,?_,?_⟩
 ·have hf:Instr.findNow .bool (.bool true) ([{key:=.bool true,val:=.string ⟨#[121,101,115]⟩,born:=0},{key:=.bool false,val:=.string ⟨#[110,111]⟩,born:=1}]:List MapEntry) 0=some (some (0,.string ⟨#[121,101,115]⟩)):=rfl;simp[Instr.lookup,run_underlying hm,MapKept.run_getObj_map hb3,hc,MapKept.run_findKey hk hf,Result.andThen]
 ·have hf:Instr.findNow .bool (.bool false) ([{key:=.bool true,val:=.string ⟨#[121,101,115]⟩,born:=0},{key:=.bool false,val:=.string ⟨#[110,111]⟩,born:=1}]:List MapEntry) 0=some (some (1,.string ⟨#[110,111]⟩)):=rfl;simp[Instr.lookup,run_underlying hm,MapKept.run_getObj_map hb3,hc,MapKept.run_findKey hk hf,Result.andThen]
 ·have ha:Below W.heap.size W W1:=by rw[hW1];exact zB _ _
  refine⟨by rw[hW3,hW2];exact ha.os,by rw[hW3,hW2];exact ha.tape,by rw[hW3,hW2];exact ha.output,by rw[hW3,hW2];simpa using ha.size,fun k hk=>?_⟩;rw[hW3,hW2];simp only[Array.getElem?_setIfInBounds]
  rw[if_neg (by omega),if_neg (by omega)];exact ha.block k hk
def hdT (n:Nd):List UInt8:=
 (shp n.op).word++n.name.data.toList++(if (shp n.op).lit then (textR n.num).data.toList else [])++(if n.op=2 then [100] else [])++(if (shp n.op).stp then [91]++(textR n.num).data.toList++[93] else [])
theorem txt_sep {n:Nd} (h4:n.op≠4) {cs:List (List Nd)} (hl:cs.length=(shp n.op).ops):txt n (cs.map textE)=hdT n++(sepT 0 cs++(if (shp n.op).ops=0 then [] else [41])):=by
 unfold txt hdT;rw[if_neg h4];congr 1;split
 ·next h0=>
  have:cs=[]:=List.eq_nil_of_length_eq_zero (by omega);subst this;rfl
 ·next h0=>rw[sepT_zero cs (by intro h;rw[h] at hl;exact h0 hl.symm)]
theorem sepT_len (k:Nat) (cs:List (List Nd)) (ha:∀a∈cs,Ex k a) (hf:∀n∈cs.flatten,Fine n) (j:Nat):(sepT j cs).length<=7000002*cs.flatten.length:=by
 induction cs generalizing j with
 |nil=>simp[sepT]
 |cons a cs ih=>
  have h1:=textE_len k a (ha a (by simp)) (fun n hn=>hf n (by simp[hn]));have h2:=ih (fun a h=>ha a (by simp[h])) (fun n hn=>hf n (by simp only[List.flatten_cons,List.mem_append];exact .inr hn)) (j+1);have h3:(sepW j).length<=2:=by unfold sepW;split<;>simp
  rw[sepT,List.flatten_cons];simp only[List.length_append]
  omega
theorem flat_take (cs:List (List Nd)) (i:Nat) (h:i<cs.length):(cs.take i).flatten.length+(cs.getD i []).length<=cs.flatten.length:=by
 have h1:cs=cs.take i++(cs.getD i []::cs.drop (i+1)):=by
  conv=>lhs;rw[<-List.take_append_drop i cs,List.drop_eq_getElem_cons h]
  rw[List.getD_eq_getElem?_getD,List.getElem?_eq_getElem h];rfl
 conv=>rhs;rw[h1]
 simp only[List.flatten_append,List.flatten_cons,List.length_append];omega
structure WB (Bb b:Nat) (w0 w:World) (tot:List Value) (R:List UInt8) (X:World):Prop where
 t:∃t0,Lib.BuilderAt 78 5 Bb b (.pointer (some ⟨b,0,none⟩)) t0 X/\t0++lc R=tot
 o:Below w0.heap.size w0 X
 l:Below Bb w X
 f:BF b w X
 hB:Bb<=X.heap.size
section
variable {Bb b:Nat} {w0 w X X':World} {tot:List Value} {R R':List UInt8}
theorem WB.grow (h:WB Bb b w0 w tot R X) (hb:Below X.heap.size X X'):WB Bb b w0 w tot R X':=
 let ⟨t0,h1,h2⟩:=h.t;⟨⟨t0,bld_below h1 hb,h2⟩,bstep h.o hb,h.l.trans (hb.mono h.hB),h.f.trans (BF.of_below hb),Nat.le_trans h.hB hb.size⟩
theorem WB.as (h:WB Bb b w0 w tot R X) (e:R=R'):WB Bb b w0 w tot R' X:=e ▸ h
theorem wbW (s:ByteArray) {t0:List Value} (h1:Lib.IsBuilder 78 5 Bb b t0 X) (h2:t0++lc (s.data.toList++R)=tot) (o:Below w0.heap.size w0 X) (l:Below Bb w X) (f:BF b w X) (hB:Bb<=X.heap.size) (ht:tot.length<=10000000000000) (h0:w0.heap.size<=Bb):
  Calls Tryz.prog 121 #[.pointer (some ⟨b,0,none⟩),.string s] X fun e X'=>e=.returned (.tuple #[.int .i64 s.size,.nilIface])/\WB Bb b w0 w tot R X':=by
 have hl:=congrArg List.length h2;unfold lc at hl;rw[List.length_append,List.length_map,List.length_append] at hl;refine (wrs_bf Bb b t0 s X h1 (by rw[ba_size];omega) hB).mono ?_;rintro e X' ⟨rfl,hx,hb,hf⟩;exact⟨rfl,⟨_,hx,by rw[<-h2];unfold lc;rw[List.map_append,List.append_assoc]⟩,o.trans (hb.mono h0),l.trans hb,f.trans hf,Nat.le_trans hB hb.size⟩
theorem WB.wr (s:ByteArray) (h:WB Bb b w0 w tot (s.data.toList++R) X) (ht:tot.length<=10000000000000) (h0:w0.heap.size<=Bb):
  Calls Tryz.prog 121 #[.pointer (some ⟨b,0,none⟩),.string s] X fun e X'=>e=.returned (.tuple #[.int .i64 s.size,.nilIface])/\WB Bb b w0 w tot R X':=
 let ⟨_,h1,h2⟩:=h.t;wbW s (.inr h1) h2 h.o h.l h.f h.hB ht h0
theorem sepT_cut (cs:List (List Nd)) (i j:Nat):(sepT j cs).length=(sepT j (cs.take i)).length+(sepT (j+i) (cs.drop i)).length:=by
 induction i generalizing cs j with
 |zero=>simp[sepT]
 |succ i ih=>cases cs with
  |nil=>simp[sepT]
  |cons a cs=>rw[List.take_succ_cons,List.drop_succ_cons,sepT,sepT];simp only[List.length_append];rw[ih cs (j+1),show j+(i+1)=j+1+i by omega];omega
theorem sepT_drop {cs:List (List Nd)} {i:Nat} (h:i<cs.length) (R:List UInt8):sepT i (cs.drop i)++R=sepW i++(textE (cs.getD i [])++(sepT (i+1) (cs.drop (i+1))++R)):=by
 rw[List.drop_eq_getElem_cons h,sepT,List.getD_eq_getElem?_getD,List.getElem?_eq_getElem h];simp
end
theorem write_any (es:List Nd) (args:List (List Nat)) (A1 A2:Option Addr) (l1 c1 l2 c2 Bb b:Nat) (w0:World) (hL:LaidE w0) (h1:Es w0 es A1 l1 c1) (hf1:∀n∈es,Fine n) (h2:ArgsAt w0 args A2 l2 c2)
  (hB:w0.heap.size<=Bb) (h60:l1<=60) (hag:args.length=es.length)
  (k:Nat):∀(a:List Nd),Ex k a->∀(o:Nat),Sub es args o a->∀(bs:List Value) (w:World),Below w0.heap.size w0 w->Bb<=w.heap.size->Lib.IsBuilder 78 5 Bb b bs w->bs.length+7000002*a.length<=1000000000000->
    Calls Tryz.prog 126 #[.pointer (some ⟨b,0,none⟩),.slice A1 l1 c1,.slice A2 l2 c2,.int .i64 ((o+a.length-1:Nat):Int)] w fun e w'=>e=.returned (.tuple #[])/\
     (Lib.BuilderAt 78 5 Bb b (.pointer (some ⟨b,0,none⟩)) (bs++lc (textE a)) w'/\Below Bb w w'/\BF b w w'):=by
 have H1:=zH h1;have H2:=zH h2;have HL:=zH hL;have HF:=zH hf1;have hl1:=h1.len;have hl2:=h2.len;rw[hag] at hl2;clear h1 h2 hL hf1;subst hl1 hl2
 induction k with
 |zero=>intro a h;exact h.elim
 |succ k ih=>
  rintro a ⟨cs,n,rfl,hn,hl,ha⟩ o hsub bs w hbw hBw hib hlen;obtain⟨hr1,hr2⟩:=hsub.root hl ha;rw[List.length_append,List.length_singleton] at hlen⊢;obtain⟨p,hp⟩:=zF (o+cs.flatten.length);rw[show o+(cs.flatten.length+1)-1=p from by omega];rw[hp] at hr1 hr2;have hpe:p<es.length:=(List.getElem?_eq_some_iff.1 hr1).1;have hfn:Fine n:=HF.out n (List.mem_of_getElem? hr1)
  have hfc:∀m∈cs.flatten,Fine m:=fun m hm=>by
   obtain⟨i,hi,he⟩:=List.getElem_of_mem hm;have:=hsub.node i (by rw[List.length_append];omega);rw[List.getElem?_append_left hi,List.getElem?_eq_getElem hi,he] at this;exact HF.out m (List.mem_of_getElem? this)
  have HIH:Hid (∀i,i<cs.length->∀(bs':List Value) (w':World),Below w0.heap.size w0 w'->Bb<=w'.heap.size->Lib.IsBuilder 78 5 Bb b bs' w'->bs'.length+7000002*(cs.getD i []).length<=1000000000000->
    Calls Tryz.prog 126 #[.pointer (some ⟨b,0,none⟩),.slice A1 es.length c1,.slice A2 es.length c2,.int .i64 (((roots o cs).getD i 0:Nat):Int)] w' fun e w''=>e=.returned (.tuple #[])/\
     (Lib.BuilderAt 78 5 Bb b (.pointer (some ⟨b,0,none⟩)) (bs'++lc (textE (cs.getD i []))) w''/\Below Bb w' w''/\BF b w' w'')):=by
   intro i hi bs' w' hbw' hBw' hib' hlen';have e1:cs.getD i []=cs[i]:=by rw[List.getD_eq_getElem?_getD,List.getElem?_eq_getElem hi];rfl
   have hcs:cs=cs.take i++cs[i]::cs.drop (i+1):=by rw[<-List.drop_eq_getElem_cons hi,List.take_append_drop]
   have hli:(cs.take i).length=i:=by rw[List.length_take];omega
   have e2:(roots o cs).getD i 0=o+(cs.take i).flatten.length+(cs[i]).length-1:=by
    have:=roots_get o (cs.take i) (cs.drop (i+1)) cs[i];rw[<-hcs,hli] at this;rw[List.getD_eq_getElem?_getD,this];rfl
   rw[e1] at hlen'⊢;rw[e2];refine ih cs[i] (ha _ (List.getElem_mem hi)) (o+(cs.take i).flatten.length) ?_ bs' w' hbw' hBw' hib' hlen';refine Sub.child (k:=k) (cs:=cs.take i) (ds:=cs.drop (i+1)) (n:=n) ?_ ?_ ?_
   ·rw[<-hcs];exact hsub
   ·rw[<-hcs];exact hl
   ·rw[<-hcs];exact ha
  clear ih;have hTX:Hid (textE (cs.flatten++[n])=txt n (cs.map textE)):=textE_node hl ha
  have hSL:∀i,(sepT 0 (cs.take i)).length<=7000002*(cs.take i).flatten.length:=fun i=>
   sepT_len k (cs.take i) (fun a h=>ha a (List.mem_of_mem_take h)) (fun m hm=>hfc m (by
    rw[<-List.take_append_drop i cs,List.flatten_append];exact List.mem_append_left _ hm)) 0
  have HSL:=zH hSL;have HFT:=zH (fun i h=>flat_take cs i h);clear hsub hfc hSL;obtain⟨rows,hrd2,hll⟩:=H2.out.rows;obtain⟨v9,hv9,A9,c9,rfl,h91,h92,h93,_⟩:=hll.row p _ hr2;have HR9:=zH h93;have hpl2:p<args.length:=by rw[hag];exact hpe
  rw[roots_length] at hv9 h91;have hpr:p<rows.length:=(List.getElem?_eq_some_iff.1 hv9).1;obtain⟨b2,off2,rfl,hb2,hc2⟩:=hrd2.at_ hpr;have h9:=hc2 p hpr;rw[(List.getElem?_eq_some_iff.1 hv9).2] at h9;have H9:Hid (∀w',Below w0.heap.size w0 w'->w'.cell? ⟨b2,off2+p,none⟩=some (.slice A9 cs.length c9)):=fun w' hb=>(hb.cell hb2).trans h9
  clear hc2 h9 hv9 hll hrd2 hb2 hr2 h93;obtain⟨b1,off1,hA1,hb1,hnd⟩:=(H1.out.rd.below hbw).nd hpe;subst hA1;rw[(List.getElem?_eq_some_iff.1 hr1).2] at hnd;obtain⟨hc0,hc1,hc2,hc3,hc4⟩:=hnd;obtain⟨w1',w24,hnm0,hnumok,_⟩:=wrongN_parts hn;have hways:=shp_lit n.op;have hways2:=shp_stp n.op;have hops2:=shp_ops n.op;have hol:=shp_ops_le n.op;have hnl:=name_len hn;have hwl:=shp_word_len n.op;have hts:=textR_size n.num hfn.1 hfn.2;have HTX:=zH (fun W hL=>qText_any n.num W hL hfn.1 hfn.2);have HHD:Hid (n.op≠4->textE (cs.flatten++[n])=hdT n++(sepT 0 cs++(if (shp n.op).ops=0 then [] else [41]))):=fun h4=>by rw[hTX.out,txt_sep h4 hl]
  have HD:Hid (hdT n=(shp n.op).word++n.name.data.toList++(if (shp n.op).lit then (textR n.num).data.toList else [])++(if n.op=2 then [100] else [])++(if (shp n.op).stp then [91]++(textR n.num).data.toList++[93] else [])):=rfl
  have HTR:Hid (n.op=4->(n.num=ofI 0/\textE (cs.flatten++[n])=noL)∨(n.num=ofI 1/\textE (cs.flatten++[n])=yesL)):=by
   intro h4;rw[hTX.out];unfold numOk at hnumok;rw[if_pos h4,Bool.or_eq_true,decide_eq_true_eq,decide_eq_true_eq] at hnumok;unfold txt;rcases hnumok with hz|hz
   ·exact .inl ⟨hz,by rw[if_pos h4,hz,if_pos (show (ofI 0).num=⟨#[]⟩ from rfl)];rfl⟩
   ·exact .inr ⟨hz,by rw[if_pos h4,hz,if_neg (show ¬(ofI 1).num=⟨#[]⟩ from by decide)];rfl⟩
  generalize textE (cs.flatten++[n])=TT at*;have hll0:=HL.out.below hbw;clear hTX hnumok hnm0 hn;generalize hdT n=HDT at*;generalize textR n.num=tx at*;obtain⟨op,⟨neg,num,den⟩,nm⟩:=n;simp only at hc0 hc1 hc2 hc3 hc4 w1' w24 hways hways2 hops2 hnl hwl HTX HHD HD HTR hl hol;obtain⟨q,rfl⟩:∃q:Nat,op=q:=⟨op.toNat,by omega⟩
  have hla:=hll0.alloc (.cells #[.int .i64 (q:Int),.bool neg,.string num,.string den,.string nm] 49);have ht0:=hla.cell q 0 (by omega) (by omega);have ht1:=hla.cell q 1 (by omega) (by omega);have ht2:=hla.cell q 2 (by omega) (by omega);have ht3:=hla.cell q 3 (by omega) (by omega);have ht4:=hla.cell q 4 (by omega) (by omega);generalize shp (q:Int)=s at*;obtain⟨wdl,oo,lit,nam,stp⟩:=s;simp only[Sh.cells,List.getElem?_cons_zero,List.getElem?_cons_succ,Nat.add_zero] at ht0 ht1 ht2 ht3 ht4;simp only at hways hways2 hops2 hwl hl HHD HD hol;obtain⟨wd,hwd⟩:∃wd:ByteArray,⟨wdl.toArray⟩=wd:=⟨_,rfl⟩
  have hwdl:wd.data.toList=wdl:=by rw[<-hwd]
  rw[hwd] at ht0;rw[<-hwdl] at HD hwl;have hwd7:wd.size<=7:=by rw[ba_size];exact hwl
  have hsz3:(tx.size:Nat)<=6291460:=hts;have hne0:b<w.heap.size:=isb_lt hib;clear hla hwd hwdl;subst hl;have HSLW:Hid ((sepT 0 cs).length<=7000002*cs.flatten.length):=by have:=HSL.out cs.length;rwa[List.take_length] at this
  have HLEN:=zH hlen;have hlenb:bs.length<=999993000000:=by omega
  have hsm1:¬(9223372036854775807<wd.size+nm.size):=by omega
  have hsm2:¬(9223372036854775807<1+tx.size):=by omega
  have hsm3:¬(9223372036854775807<(⟨#[91]⟩++tx:ByteArray).size+1):=by rw[ByteArray.size_append];show ¬(_<1+tx.size+1);omega
  have hsm4:¬(9223372036854775807<1+tx.size+1):=by omega
  clear hlen;by_cases h4:(q:Int)=4
  ·have e4:((q:Int)==4)=true:=by rw[h4];rfl
   have HT2:∃bx:Bool,(num.toList !=(⟨#[]⟩:ByteArray).toList)=bx/\TT=(if bx then yesL else noL):=by
    rcases HTR.out h4 with⟨hz,ht⟩|⟨hz,ht⟩
    ·injection hz with z1 z2 z3;subst z2;exact⟨false,by decide+kernel,ht⟩
    ·injection hz with z1 z2 z3;subst z2;exact⟨true,by decide+kernel,ht⟩
   obtain⟨bx,e5,ht⟩:=HT2;have e6:=e5;rw[show (⟨#[]⟩:ByteArray).toList=[] by rw[ByteArray.toList_eq]] at e6;have e7:num.toList.isEmpty= !bx:=by rw[<-e6];cases num.toList<;>rfl
   have HT:=zH ht;have hmk:=@run_makeMap Tryz.prog
   have hba:Below w.heap.size w ((w.alloc (.cells #[.int .i64 (q:Int),.bool neg,.string num,.string den,.string nm] 49)).alloc (.cells #[.string wd,.int .i64 (cs.length:Int),.bool lit,.bool nam,.bool stp] 168)):=
    (zB _ _).alloc (by rw[World.size_alloc];omega) _
   obtain⟨W2,W3,hi1,hi2,hi3,hi4,hb3⟩:=yesno_map _ (w.heap.size+1+1) (show w.heap.size+1+1=((w.alloc (.cells #[.int .i64 (q:Int),.bool neg,.string num,.string den,.string nm] 49)).alloc (.cells #[.string wd,.int .i64 (cs.length:Int),.bool lit,.bool nam,.bool stp] 168)).heap.size by rw[World.size_alloc,World.size_alloc]);have hbw3:=bstep hba hb3;have hi:=isb_below hib hbw3;have HI:=zH hi;have HBW:Hid (Below Bb w W3):=hbw3.mono hBw;have HFW:Hid (BF b w W3):=BF.of_below hbw3;have hBW:Bb<=W3.heap.size:=Nat.le_trans hBw hbw3.size;have hkn:Blk ((w.alloc (.cells #[.int .i64 (q:Int),.bool neg,.string num,.string den,.string nm] 49)).alloc (.cells #[.string wd,.int .i64 (cs.length:Int),.bool lit,.bool nam,.bool stp] 168)) w.heap.size 49 [.int .i64 (q:Int),.bool neg,.string num,.string den,.string nm]:=(Blk.new w _ _).alloc _;have hcn:=(hkn.below hb3 hkn.lt).cells;clear hb3 hbw3 hi hib hba hkn;clear hways hways2 hops2 HTR HHD HD hfn hr1 h4 ht;go_enter Tryz.func126,Tryz.ntmps126;cases bx
   ·go_wp2_with fail;refine (wrs_bf Bb b bs ⟨#[110,111]⟩ _ HI.out (by show bs.length+2<=_;omega) hBW).mono ?_;rintro e w1 ⟨rfl,hx1,hb1,hf1⟩;go_wp2
    first|go_end0|refine bodyPost_ret (results_none rfl _ _ _) rfl ?_
    exact⟨rfl,by rw[HT.out];exact hx1,HBW.out.trans hb1,HFW.out.trans hf1⟩
   ·go_wp2_with fail;refine (wrs_bf Bb b bs ⟨#[121,101,115]⟩ _ HI.out (by show bs.length+3<=_;omega) hBW).mono ?_;rintro e w1 ⟨rfl,hx1,hb1,hf1⟩;go_wp2
    first|go_end0|refine bodyPost_ret (results_none rfl _ _ _) rfl ?_
    exact⟨rfl,by rw[HT.out];exact hx1,HBW.out.trans hb1,HFW.out.trans hf1⟩
  ·have e4:((q:Int)==4)=false:=by rw[beq_eq_false_iff_ne];exact h4
   have HT:=zH (HHD.out h4);obtain⟨tot,htot⟩:=zE (bs++lc TT);have hX:bs++lc ((wd++nm).data.toList++((if lit then tx.data.toList else [])++((if (q:Int)=2 then [100] else [])++((if stp then (⟨#[91]⟩++tx++⟨#[93]⟩:ByteArray).data.toList else [])++(sepT 0 cs++(if cs.length=0 then [] else [41]))))))=tot:=by rw[htot,HT.out,HD.out];simp[ByteArray.data_append,lc]
   have htl:tot.length=bs.length+HDT.length+(sepT 0 cs).length+(if cs.length=0 then [] else [41]:List UInt8).length:=by rw[htot,HT.out];unfold lc;simp only[List.length_append,List.length_map];omega
   have hdl:HDT.length<=7000000:=by
    have h1:=ba_size tx;have h2:=ba_size nm;have e1:(lit&&stp)=false:=by rw[hways,hways2,<-Bool.decide_and];exact decide_eq_false (by omega)
    have e3:(if stp=true then [91]++tx.data.toList++[93] else ([]:List UInt8)).length+(if lit=true then tx.data.toList else []).length<=tx.size+2:=by
     clear hX htl hways hways2 HD;cases lit<;>cases stp<;>simp only[Bool.false_eq_true,if_true,if_false,List.length_append,List.length_cons,List.length_nil]<;>first|omega|cases e1
    have e2:(if (q:Int)=2 then [100] else ([]:List UInt8)).length<=1:=by split<;>simp
    rw[HD.out];simp only[List.length_append] at e3⊢;omega
   have HQ:Hid (∀i,i<cs.length->tot.length+2+7000002*(cs.getD i []).length<=1000000000000+(sepT i (cs.drop i)++(if cs.length=0 then [] else [41]:List UInt8)).length):=fun i h=>by
    have h1:=HSL.out i;have h2:=HFT.out i h;have h3:=HLEN.out;have h4:=sepT_cut cs i 0;rw[Nat.zero_add] at h4;rw[htl,List.length_append];omega
   replace htl:tot.length<=10000000000000:=by
    have h4:=HSLW.out;have h5:=HLEN.out;have e5:(if cs.length=0 then ([]:List UInt8) else [41]).length<=1:=by split<;>simp
    omega
   have hib2:=fun X h=>isb_below hib (w':=X) h
   have HTT:Hid (bs++lc TT=tot):=htot.symm;clear hib hdl htot HHD HTR hways hways2 hops2 hfn hr1 h4 hsz3;obtain⟨hk0,hk1,hba,_⟩:=Two.new w 49 168 #[.int .i64 (q:Int),.bool neg,.string num,.string den,.string nm] #[.string wd,.int .i64 (cs.length:Int),.bool lit,.bool nam,.bool stp];go_enter Tryz.func126,Tryz.ntmps126
   go_upto_region 2 with fail
   generalize hW:(w.alloc _).alloc _=W;rw[hW] at hk0 hk1 hba;have n0:w.heap.size≠b:=by omega
   have n1:w.heap.size+1≠b:=by omega
   have hc:=fun (X:World) (k:BF b W X)=>show (X.cell? ⟨w.heap.size,0,none⟩=some (.int .i64 (q:Int))/\X.cell? ⟨w.heap.size,1,none⟩=some (.bool neg)/\X.cell? ⟨w.heap.size,2,none⟩=some (.string num)/\X.cell? ⟨w.heap.size,3,none⟩=some (.string den)/\X.cell? ⟨w.heap.size,4,none⟩=some (.string nm))/\X.cell? ⟨w.heap.size+1,0,none⟩=some (.string wd)/\X.cell? ⟨w.heap.size+1,1,none⟩=some (.int .i64 (cs.length:Int))/\X.cell? ⟨w.heap.size+1,2,none⟩=some (.bool lit)/\X.cell? ⟨w.heap.size+1,3,none⟩=some (.bool nam)/\X.cell? ⟨w.heap.size+1,4,none⟩=some (.bool stp) from
    ⟨⟨(k.blk hk0 (by decide) n0).cells 0,(k.blk hk0 (by decide) n0).cells 1,(k.blk hk0 (by decide) n0).cells 2,(k.blk hk0 (by decide) n0).cells 3,(k.blk hk0 (by decide) n0).cells 4⟩,(k.blk hk1 (by decide) n1).cells 0,(k.blk hk1 (by decide) n1).cells 1,(k.blk hk1 (by decide) n1).cells 2,(k.blk hk1 (by decide) n1).cells 3,(k.blk hk1 (by decide) n1).cells 4⟩
   clear hW hk0 hk1 n0 n1 ht0 ht1 ht2 ht3 ht4 hc0 hc1 hc2 hc3 hc4;have hl0:=hc _ (BF.refl b W);go_wp2_with fail;refine (wbW (wd++nm) (hib2 _ hba) hX (bstep hbw hba) (Below.refl _ _) (BF.refl _ _) (Nat.le_trans hBw hba.size) htl hB).mono ?_;clear hX;rintro e w1 ⟨rfl,hX⟩;clear hl0;have hl0:=hc _ hX.f
   go_upto_if 40 with fail
   go_cut [] from 39 to 45 (fun X=>WB Bb b w0 W tot ((if (q:Int)=2 then [100] else [])++((if stp then (⟨#[91]⟩++tx++⟨#[93]⟩:ByteArray).data.toList else [])++(sepT 0 cs++(if cs.length=0 then [] else [41])))) X)
   case first=>
    cases lit
    ·go_wp2
     go_meet
     case rel=>exact hX
    ·go_wp2_with fail;refine (HTX.out w1 (HL.out.below hX.o).base).mono ?_;rintro e w2 ⟨rfl,hb⟩;go_wp2_with fail;refine (WB.wr tx (hX.grow hb) htl hB).mono ?_;rintro e w3 ⟨rfl,hX⟩;go_wp2
     go_meet
     case rel=>exact hX
   case rest=>
    clear hX hl0;have hX:=hcut;clear hcut;have hl0:=hc _ hX.f;obtain⟨x2,e2⟩:=zF ((q:Int)==2)
    go_upto_if 48 with fail
    go_cut [] from 46 to 50 (fun X=>WB Bb b w0 W tot ((if stp then (⟨#[91]⟩++tx++⟨#[93]⟩:ByteArray).data.toList else [])++(sepT 0 cs++(if cs.length=0 then [] else [41]))) X)
    case first=>
     cases x2
     ·rw[if_neg (beq_eq_false_iff_ne.1 e2)] at hX;go_wp2
      go_meet
      case rel=>exact hX
     ·rw[if_pos (eq_of_beq e2)] at hX;go_wp2_with fail;refine (WB.wr ⟨#[100]⟩ hX htl hB).mono ?_;rintro e w3 ⟨rfl,hX⟩;go_wp2
      go_meet
      case rel=>exact hX
    case rest=>
     clear hX hl0;have hX:=hcut;clear hcut;have hl0:=hc _ hX.f
     go_upto_if 52 with fail
     go_cut [] from 51 to 59 (fun X=>WB Bb b w0 W tot (sepT 0 (cs.drop 0)++(if cs.length=0 then [] else [41])) X)
     case first=>
      cases stp
      ·go_wp2
       go_meet
       case rel=>exact hX
      ·rw[if_pos rfl] at hX;go_wp2_with fail;refine (HTX.out _ (HL.out.below hX.o).base).mono ?_;rintro e w2 ⟨rfl,hb⟩;go_wp2_with fail;replace hX:=hX.grow hb;generalize (⟨#[91]⟩++tx++⟨#[93]⟩:ByteArray)=z at hX⊢;refine (WB.wr z hX htl hB).mono ?_;rintro e w3 ⟨rfl,hX⟩;go_wp2
       go_meet
       case rel=>exact hX
     case rest=>
      clear hX hl0;have hX:=hcut;clear hcut;have h9:=H9.out _ hX.o;go_wp2;clear h9
      go_loopg [65] cs.length (fun g iv X=>∃i,i+g=cs.length/\iv=.int .i64 (i:Int)/\WB Bb b w0 W tot (sepT i (cs.drop i)++(if cs.length=0 then [] else [41])) X)
      case atStart=>exact⟨0,by omega,rfl,hX⟩
      case round=>
       clear hX;obtain⟨i,hi,rfl,hX⟩:=hrel;by_cases hlt:i<cs.length
       ·have hrt:i<(I (roots o cs)).length:=by rw[I_length,roots_length];exact hlt
        obtain⟨b3,off3,rfl,hb3,hcc⟩:=(HR9.out.below hX.o).at_ hrt;have hcell:=hcc i hrt;rw[I_get] at hcell;have hih:=HIH.out i hlt;have hq:=zH (HQ.out i hlt);rw[sepT_drop hlt] at hX hq;generalize (roots o cs).getD i 0=rt at*;generalize cs.getD i []=c at*;clear hcc hb3 hrt;obtain⟨xi,ei⟩:=zF ((i:Int)==0)
        go_upto_if 71 with fail
        go_cut [] from 70 to 75 (fun X=>WB Bb b w0 W tot (textE c++(sepT (i+1) (cs.drop (i+1))++(if cs.length=0 then [] else [41]))) X)
        case first=>
         cases xi
         ·rw[show sepW i=[44,32] by unfold sepW;rw[if_neg (by simpa using ei)]] at hX;clear hq hih;go_wp2_with fail;refine (WB.wr ⟨#[44,32]⟩ hX htl hB).mono ?_;rintro e w3 ⟨rfl,hX⟩;go_wp2
          go_meet
          case rel=>exact hX
         ·rw[show sepW i=[40] by unfold sepW;rw[if_pos (by simpa using ei)]] at hX;clear hq hih;go_wp2_with fail;refine (WB.wr ⟨#[40]⟩ hX htl hB).mono ?_;rintro e w3 ⟨rfl,hX⟩;go_wp2
          go_meet
          case rel=>exact hX
        case rest=>
         clear hX hcell ei;have hX:=hcut;clear hcut;go_wp2_with fail;obtain⟨t0,h1,h2⟩:=hX.t;have hsw:(sepW i).length<=2:=by unfold sepW;split<;>simp
         refine (hih t0 _ hX.o hX.hB (.inr h1) (by have h3:=congrArg List.length h2;have h4:=hq.out;rw[List.length_append,lc_len] at h3;rw[List.length_append] at h4;omega)).mono ?_;rintro e w4 ⟨rfl,h5,h6,h7⟩;replace hX:WB Bb b w0 W tot (sepT (i+1) (cs.drop (i+1))++(if cs.length=0 then [] else [41])) w4:=⟨⟨_,h5,by rw[<-h2,lc_app (textE c),List.append_assoc]⟩,hX.o.trans (h6.mono hB),hX.l.trans h6,hX.f.trans h7,Nat.le_trans hX.hB h6.size⟩
         clear h1 h2 h5 h6 h7 hih hq hsw;go_wp2
         go_roundg (cs.length-(i+1))
         case measure=>omega
         case rel=>exact⟨i+1,by omega,by go_num,hX⟩
       ·obtain rfl:i=cs.length:=by omega
        rw[List.drop_length] at hX;have hl0:=hc _ hX.f;have hx1:decide ((cs.length:Int)<cs.length)=false:=decide_eq_false (by omega);by_cases ho:cs.length=0
        ·rw[if_pos ho] at hX;go_wp2;go_end0;obtain⟨t0,h1,h2⟩:=hX.t;exact⟨rfl,by rw[HTT.out,<-h2];simpa [sepT,lc] using h1,(hba.mono hBw).trans hX.l,(BF.of_below hba).trans hX.f⟩
        ·have hop:0<cs.length:=by omega
         rw[if_neg ho] at hX;go_wp2_with fail;refine (WB.wr ⟨#[41]⟩ hX htl hB).mono ?_;rintro e wz ⟨rfl,hX⟩;go_wp2;go_end0;obtain⟨t0,h1,h2⟩:=hX.t;exact⟨rfl,by rw[HTT.out,<-h2];simpa [sepT,lc] using h1,(hba.mono hBw).trans hX.l,(BF.of_below hba).trans hX.f⟩
theorem ex_pos {k:Nat} {e:List Nd} (h:Ex k e):0<e.length:=by
 cases k with
 |zero=>exact h.elim
 |succ k=>
  obtain⟨cs,n,rfl,_⟩:=h;simp
theorem write_all (es:List Nd) (A1 A2:Option Addr) (l1 c1 l2 c2 B:Nat) (w2 W3:World) (hL:LaidE w2) (h1:Es w2 es A1 l1 c1) (hf:∀n∈es,Fine n) (h2:ArgsAt w2 (argsE es) A2 l2 c2) (hz:checkE es=0)
  (hB:w2.heap.size=B) (hb:Below w2.heap.size w2 W3) (hs:B<=W3.heap.size) (hib:Lib.IsBuilder 78 5 B B [] W3) (i:Int) (hi:i=(l1:Int)-1):
  Calls Tryz.prog 126 #[.pointer (some ⟨B,0,none⟩),.slice A1 l1 c1,.slice A2 l2 c2,.int .i64 i] W3 fun e w'=>e=.returned (.tuple #[])/\
    (Lib.BuilderAt 78 5 B B (.pointer (some ⟨B,0,none⟩)) (lc (textE es)) w'/\Below B W3 w'):=by
 have hk:=((checkE_iff es).1 hz).1;have hl:=h1.len;have hEx:=checkE_ex hz;have hpos:=ex_pos hEx;have h60:l1<=60:=by omega
 have hlen:([]:List Value).length+7000002*es.length<=1000000000000:=by rw[List.length_nil];omega
 have hle:w2.heap.size<=B:=Nat.le_of_eq hB;have h:=write_any es (argsE es) A1 A2 l1 c1 l2 c2 B B w2 hL h1 hf h2 hle h60 (runA_length _ _ _) 61 es hEx 0 Sub.whole [] W3 hb hs hib hlen;have hi2:((0+es.length-1:Nat):Int)=i:=by omega
 rw[hi2,List.nil_append] at h;exact h.mono (fun e w' h=>⟨h.1,h.2.1,h.2.2.1⟩)
theorem eText_any (es:List Nd) (A1:Option Addr) (l1 c1:Nat) (w:World) (hL:LaidE w) (h1:Es w es A1 l1 c1) (hf1:∀n∈es,Fine n):
  Calls Tryz.prog 84 #[.slice A1 l1 c1] w (RetText es w):=by
 obtain rfl:=h1.len;have HC:=zH (check_any es A1 es.length c1 w hL h1.len h1.cap h1.max h1.rd hf1);have H1:=zH h1;have HL:=zH hL;have HF:=zH hf1;by_cases hz:checkE es=0
 ·have hk:=((checkE_iff es).1 hz).1;have HZ:=zH hz
  have HA:Hid (∀W,LaidE W->Es W es A1 es.length c1->Calls Tryz.prog 125 #[.slice A1 es.length c1] W (RetArgs true (argsE es) W)):=fun W hL h=>by
   have:=eArgs_any es A1 es.length c1 W hL h hf1;rw[hz] at this;exact this
  have HRT:Hid (∀w',Below w.heap.size w w'->RetText es w (.returned (.tuple #[.string ⟨(textE es).toArray⟩,.int .i64 0])) w'):=fun w' hb=>⟨by rw[if_pos hz,hz],hb⟩
  rw[hz] at HC;clear hz h1 hf1 hL;go_enter Tryz.func84,Tryz.ntmps84;go_wp2_with fail;refine HC.out.mono ?_;rintro e w1 ⟨rfl,hb1⟩;go_wp2_with fail;refine (HA.out _ (HL.out.below hb1) (H1.out.below hb1)).mono ?_;rintro e w2 ⟨A2,l2,c2,rfl,hag,hb2⟩;have hB2:=bstep hb1 hb2;have hib:=Lib.fresh_isBuilder 78 5 w2;have hwr:=write_all es A1 A2 es.length c1 l2 c2 w2.heap.size w2 _ (HL.out.below hB2) (H1.out.below hB2) HF.out hag HZ.out rfl ((Below.refl _ _).alloc (Nat.le_refl _) (.cells #[.pointer none,.slice none 0 0] 78)) (by rw[World.size_alloc];omega) hib ((es.length:Int)-1) rfl;have HWR:=zH hwr;have HB2:=zH hB2;clear hag hib hwr hb1 hb2 hB2;go_wp2_with fail;refine HWR.out.mono ?_;rintro e w3 ⟨rfl,hx,hb3⟩;have hs3:w2.heap.size<=w3.heap.size:=by have:=hb3.size;rw[World.size_alloc] at this;omega
  have HST:=zH (Tryz.Builder_String_any w2.heap.size w2.heap.size (textE es) w3 (.inr hx) hs3);have HB3:Hid (Below w.heap.size w w3):=HB2.out.trans (((zB _ _).trans hb3).mono HB2.out.size);clear hx hb3 HWR;go_wp2_with fail;refine HST.out.mono ?_;rintro e w4 ⟨rfl,hb4⟩;go_wp2;go_ret2;exact HRT.out _ (HB3.out.trans (hb4.mono HB2.out.size))
 ·obtain⟨zz,hzz⟩:=zF (checkE es);have HRT:Hid (∀w',Below w.heap.size w w'->RetText es w (.returned (.tuple #[.string ⟨#[]⟩,.int .i64 zz])) w'):=fun w' hb=>⟨by rw[if_neg hz,hzz],hb⟩
  rw[hzz] at hz HC;have e1:(zz !=0)=true:=by simp[hz]
  clear hz h1 hf1 hzz hL;go_enter Tryz.func84,Tryz.ntmps84;go_wp2_with fail;refine HC.out.mono ?_;rintro e w1 ⟨rfl,hb1⟩;go_wp2;go_ret2;exact HRT.out _ hb1
end Go.Proofs.YtimokmplkpbmdaaGreatDoor
