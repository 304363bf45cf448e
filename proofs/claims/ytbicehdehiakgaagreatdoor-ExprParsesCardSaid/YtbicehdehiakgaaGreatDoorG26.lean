/- A part of the proof: Eh Ei P1 P2 P3 Ej Ey Sq. -/
import Derived.Handy
import Derived.Shelf.SlSortCmp.WholeK
import Derived.Test.YtbicehdehiakgaaGreatDoorG00
import Derived.Test.YtbicehdehiakgaaGreatDoorG25
set_option linter.unusedVariables false
set_option linter.unusedSimpArgs false
namespace Go.Proofs.YtbicehdehiakgaaGreatDoor
open Go.RowKit
def orI (x y:Int):Int:=if x=0 then y else x
set_option maxRecDepth 100000 in
set_option maxHeartbeats 800000 in
theorem cmpOr_two (x y:Int) (b:Nat) (t:TypeId) (c:Nat) (w:World) (hb:Blk w b t [.int .i64 x,.int .i64 y]):
  Calls Tryz.prog 61 #[.slice (some ⟨b,0,none⟩) 2 c] w fun e w'=>e=.returned (.int .i64 (orI x y))∧w'=w:=by
 have hc:=hb.cells;have hx:w.cell? ⟨b,0,none⟩=some (.int .i64 x):=hc 0;have hy:w.cell? ⟨b,1,none⟩=some (.int .i64 y):=hc 1;clear hb;by_cases h1:x=0
 ·by_cases h2:y=0
  ·subst h1 h2;go_enter Tryz.func61,Tryz.ntmps61;go_wp2
   go_rounds 3
   go_ret;exact⟨rfl,rfl⟩
  ·subst h1;have h3:(y==0)=false:=beq_eq_false_iff_ne.2 h2;have h4:orI 0 y=y:=rfl;rw[h4];go_enter Tryz.func61,Tryz.ntmps61;go_wp2
   go_rounds 3
   go_ret;exact⟨rfl,rfl⟩
 ·have h3:(x==0)=false:=beq_eq_false_iff_ne.2 h1;have h4:orI x y=x:=if_neg h1;rw[h4];go_enter Tryz.func61,Tryz.ntmps61;go_wp2
  go_rounds 3
  go_ret;exact⟨rfl,rfl⟩
def ordN (a b:Nd):Int:=orI (Lib.compareInt a.op b.op) (Lib.compareBytes a.name.data.toList b.name.data.toList)
theorem ofNat_toNat (n:Nat) (h:n<256):(UInt8.ofNat n).toNat=n:=by simp;omega
theorem decDigits_digits (n:Nat):(Lib.decDigits n).all isDig=true:=by
 induction n using Nat.strongRecOn with
 |_ n ih=>
  rw[Lib.decDigits];split
  ·next h=>
   simp only[List.all_cons,List.all_nil,Bool.and_true,isDig,Bool.and_eq_true,decide_eq_true_eq,ofNat_toNat (48+n) (by omega)]
   omega
  ·next h=>
   rw[List.all_append,ih (n / 10) (by omega)];simp only[List.all_cons,List.all_nil,Bool.and_true,Bool.true_and,isDig,Bool.and_eq_true,decide_eq_true_eq,ofNat_toNat (48+n % 10) (by omega)]
   omega
theorem decVal_dec (n:Nat):decVal (Lib.decDigits n)=n:=by
 induction n using Nat.strongRecOn with
 |_ n ih=>
  rw[Lib.decDigits];split
  ·next h=>
   simp only[decVal,List.foldl_cons,List.foldl_nil,ofNat_toNat (48+n) (by omega)]
   omega
  ·next h=>
   rw[decVal_append,ih (n / 10) (by omega)];simp only[decVal,List.foldl_cons,List.foldl_nil,ofNat_toNat (48+n % 10) (by omega),List.length_cons,List.length_nil]
   omega
theorem dec_head (n:Nat) (h0:n≠0):(Lib.decDigits n).head?≠some 48:=by
 induction n using Nat.strongRecOn with
 |_ n ih=>
  rw[Lib.decDigits];split
  ·next h=>
   intro he;have he':=congrArg UInt8.toNat (Option.some.inj he);rw[ofNat_toNat (48+n) (by omega)] at he';have:(48:UInt8).toNat=48:=rfl;omega
  ·next h=>
   rw[List.head?_append,Option.or_of_isSome (by rw[List.isSome_head?];simp[decDigits_ne])];exact ih (n / 10) (by omega) (by omega)
theorem parseOk_dec (n:Nat):parseOk (Lib.decDigits n)=true:=by
 unfold parseOk;rw[decDigits_digits];have h1:(Lib.decDigits n).isEmpty=false:=by simp[decDigits_ne]
 rw[h1];by_cases h0:n=0
 ·subst h0;decide+kernel
 ·have:=dec_head n h0;have h2:((Lib.decDigits n).head?==some 48)=false:=by rw[beq_eq_false_iff_ne];exact this
  rw[h2];simp
theorem natParse_dec (n:Nat):natParse (Lib.decDigits n)=(nbs n,true):=by
 unfold natParse;rw[if_pos (parseOk_dec n),decVal_dec]
theorem cut_none (l:List UInt8) (h:∀c∈l,c≠47):Lib.cut l [47]=(l,[],false):=by
 have hi:Lib.index l [47]= -1:=Lib.index_none (fun j hj=>by
  unfold Lib.occAt;cases hd:(l.drop j) with
  |nil=>rfl
  |cons c m=>
   have hc:c∈l:=List.mem_of_mem_drop (i:=j) (by rw[hd];exact List.mem_cons_self ..);have:=h c hc;show ((47:UInt8)==c&&_)=false;rw[show ((47:UInt8)==c)=false from beq_eq_false_iff_ne.2 (fun e=>this e.symm)];rfl)
 unfold Lib.cut;rw[hi,if_neg (by decide)]
theorem cut_at (l m:List UInt8) (h:∀c∈l,c≠47):Lib.cut (l++([47]++m)) [47]=(l,m,true):=by
 have hi:Lib.index (l++([47]++m)) [47]=(l.length:Nat):=Lib.index_first (by simp) (by unfold Lib.occAt;simp) (fun j hj=>by
  unfold Lib.occAt
  have hd:(l++([47]++m)).drop j=l[j]::((l++([47]++m)).drop (j+1)):=by
   rw[List.drop_eq_getElem_cons (by simp;omega),List.getElem_append_left hj]
  have:=h l[j] (List.getElem_mem hj);rw[hd];show ((47:UInt8)==l[j]&&_)=false;rw[show ((47:UInt8)==l[j])=false from beq_eq_false_iff_ne.2 (fun e=>this e.symm)];rfl)
 unfold Lib.cut;rw[hi,if_pos (by omega)];simp
theorem prefix_one (c:UInt8) (l:List UInt8):Lib.hasPrefix l [c]=(l.head?==some c):=by
 cases l with
 |nil=>rfl
 |cons d l=>
  unfold Lib.hasPrefix;simp[List.isPrefixOf];exact Bool.eq_iff_iff.2 (by simp;exact eq_comm)
theorem okR_parts {a:Ra} (h:okR a=true):a.num=nbs (vbs a.num)∧a.den=nbs (vbs a.den)∧0<vbs a.den∧low a.neg (vbs a.num) (vbs a.den)=a∧valR a=a:=by
 have hv:valR a=a:=by unfold valR;rw[if_pos h]
 unfold okR at h;simp only[Bool.and_eq_true,decide_eq_true_eq] at h;exact⟨(rightS_iff _).1 h.1.2,(rightS_iff _).1 h.1.1.1,h.1.1.2,h.2,hv⟩
theorem textR_list {a:Ra} (h:okR a=true):(textR a).data.toList=(if a.neg then [45] else [])++(Lib.decDigits (vbs a.num)++(if a.den=nbs 1 then [] else [47]++Lib.decDigits (vbs a.den))):=by
 obtain⟨_,_,_,_,hv⟩:=okR_parts h;have hx:∀x y:ByteArray,(x++y).data.toList=x.data.toList++y.data.toList:=fun x y=>by rw[ByteArray.data_append,Array.toList_append]
 unfold textR;rw[hv];simp only
 split<;>split<;>simp[hx,decS]
theorem dec_no {n:Nat} (x:UInt8) (hx:isDig x=false):∀c∈Lib.decDigits n,c≠x:=by
 intro c hc h;have:=List.all_eq_true.1 (decDigits_digits n) c hc;rw[h,hx] at this;cases this
theorem cutR_text {a:Ra} (h:okR a=true):cutR (textR a).data.toList=(a.neg,Lib.decDigits (vbs a.num),Lib.decDigits (vbs a.den)):=by
 obtain⟨_,hd,_,_,_⟩:=okR_parts h;rw[textR_list h];obtain⟨c,m,hcm⟩:∃c m,Lib.decDigits (vbs a.num)=c::m:=List.exists_cons_of_ne_nil (decDigits_ne _);have hc:c≠45:=dec_no 45 (by decide) c (by rw[hcm];exact List.mem_cons_self ..)
 have hp:Lib.hasPrefix ((if a.neg then [45] else [])++(Lib.decDigits (vbs a.num)++(if a.den=nbs 1 then [] else [47]++Lib.decDigits (vbs a.den)))) [45]=a.neg:=by
  rw[prefix_one,hcm];cases a.neg
  ·simp[hc]
  ·simp
 have ht:Lib.trimPrefix ((if a.neg then [45] else [])++(Lib.decDigits (vbs a.num)++(if a.den=nbs 1 then [] else [47]++Lib.decDigits (vbs a.den)))) [45]=Lib.decDigits (vbs a.num)++(if a.den=nbs 1 then [] else [47]++Lib.decDigits (vbs a.den)):=by
  unfold Lib.trimPrefix;rw[hp];cases a.neg<;>simp
 unfold cutR;rw[hp,ht];by_cases h1:a.den=nbs 1
 ·rw[if_pos h1,List.append_nil,cut_none _ (dec_no 47 (by decide))];have:vbs a.den=1:=by rw[h1,vbs_nbs]
  rw[this];simp[show Lib.decDigits 1=[49] from by decide+kernel]
 ·rw[if_neg h1,cut_at _ _ (dec_no 47 (by decide))];simp
theorem ratParse_text (a:Ra) (h:okR a=true):ratParse (textR a)=(a,true):=by
 obtain⟨hn,hd,h0,hl,_⟩:=okR_parts h
 have hm:mkR a.neg (nbs (vbs a.num)) (nbs (vbs a.den))=(a,true):=by
  unfold mkR;rw[if_pos (by rw[←hn,←hd];unfold okR at h;simp only[Bool.and_eq_true,decide_eq_true_eq] at h⊢;exact⟨⟨h.1.1.1,h0⟩,h.1.2⟩),vbs_nbs,vbs_nbs,hl]
 unfold ratParse;simp only[cutR_text h,natParse_dec,hm]
 simp
def numL:List UInt8:=[45,47,48,49,50,51,52,53,54,55,56,57]
theorem num_mem (c:UInt8):numL.contains c=(isDig c||decide (c=45)||decide (c=47)):=mem_small (numL.contains ·) (fun c=>isDig c||decide (c=45)||decide (c=47)) (by decide+kernel) c
theorem textR_num {a:Ra} (h:okR a=true):∀c∈(textR a).data.toList,numL.contains c=true:=by
 rw[textR_list h]
 have hd:∀(n:Nat),∀c∈Lib.decDigits n,numL.contains c=true:=fun n c hc=>by
  rw[num_mem,List.all_eq_true.1 (decDigits_digits n) c hc];rfl
 intro c hc;rcases List.mem_append.1 hc with hc|hc
 ·split at hc
  ·obtain rfl:c=45:=by simpa using hc
   rfl
  ·cases hc
 ·rcases List.mem_append.1 hc with hc|hc
  ·exact hd _ c hc
  ·split at hc
   ·cases hc
   ·rcases List.mem_append.1 hc with hc|hc
    ·obtain rfl:c=47:=by simpa using hc
     rfl
    ·exact hd _ c hc
theorem textR_head {a:Ra} (h:okR a=true):∃c l,(textR a).data.toList=c::l∧(isDig c=true∨c=45):=by
 rw[textR_list h];obtain⟨c,m,hcm⟩:∃c m,Lib.decDigits (vbs a.num)=c::m:=List.exists_cons_of_ne_nil (decDigits_ne _);have hc:=List.all_eq_true.1 (decDigits_digits (vbs a.num)) c (by rw[hcm];exact List.mem_cons_self ..);cases a.neg
 ·exact⟨c,_,by rw[hcm];rfl,.inl hc⟩
 ·exact⟨45,_,rfl,.inr rfl⟩
def spanW (cs s:List UInt8):List UInt8:=s.takeWhile (cs.contains ·)
def spanR (cs s:List UInt8):List UInt8:=s.dropWhile (cs.contains ·)
theorem span_eq (cs s:List UInt8):spanW cs s++spanR cs s=s:=List.takeWhile_append_dropWhile
theorem span_app (cs x r:List UInt8) (hx:∀c∈x,cs.contains c=true) (hr:∀c,r.head?=some c→cs.contains c=false):spanW cs (x++r)=x∧spanR cs (x++r)=r:=by
 have hp:∀r:List UInt8,(∀c,r.head?=some c→cs.contains c=false)→spanW cs r=[]∧spanR cs r=r:=by
  intro r hr;cases r with
  |nil=>exact⟨rfl,rfl⟩
  |cons c r=>
   have hcc:¬(cs.contains c=true):=by rw[hr c rfl];simp
   exact⟨List.takeWhile_cons_of_neg hcc,List.dropWhile_cons_of_neg hcc⟩
 induction x with
 |nil=>exact hp r hr
 |cons c x ih=>
  have hc:=hx c (List.mem_cons_self ..);obtain⟨h1,h2⟩:=ih (fun d hd=>hx d (List.mem_cons_of_mem _ hd));unfold spanW spanR at*;rw[List.cons_append,List.takeWhile_cons_of_pos (by exact hc),List.dropWhile_cons_of_pos (by exact hc),h1,h2];exact⟨rfl,rfl⟩
def litL:List UInt8:=[45,48,49,50,51,52,53,54,55,56,57]
theorem lit_mem (c:UInt8):litL.contains c=(isDig c||decide (c=45)):=mem_small (litL.contains ·) (fun c=>isDig c||decide (c=45)) (by decide+kernel) c
def nd (op:Int) (a:Ra) (nm:List UInt8):Nd:=⟨op,a,⟨nm.toArray⟩⟩
def numA (s:List UInt8):Option (Ra × List UInt8):=
 if (ratParse ⟨(spanW numL s).toArray⟩).2 then some ((ratParse ⟨(spanW numL s).toArray⟩).1,spanR numL s) else none
def litA (s:List UInt8):Option (Option (Nd × List UInt8)):=
 if Lib.hasPrefix s [36] then (numA (s.drop 1)).map fun q=>some (nd 1 q.1 [],q.2)
 else if s.isEmpty|| !(litL.contains (s.headD 0)) then some none
 else (numA s).map fun q=>if Lib.hasPrefix q.2 [100] then some (nd 2 q.1 [],q.2.drop 1) else some (nd 3 q.1 [],q.2)
abbrev PS:=List UInt8 × List Nd × Nat
def sepW (k:Nat):List UInt8:=if k=0 then [40] else [44,32]
def opsA (p:List UInt8→List Nd→Nat→Option PS):Nat→Nat→List UInt8→List Nd→Nat→Option PS
 |0,_,s,ns,b=>some (s,ns,b)
 |m+1,k,s,ns,b=>if Lib.hasPrefix s (sepW k) then (p (s.drop (sepW k).length) ns b).bind fun q=>opsA p m (k+1) q.1 q.2.1 q.2.2 else none
def yesL:List UInt8:=[121,101,115]
def noL:List UInt8:=[110,111]
def stpA (y:Bool) (s:List UInt8):Option (Ra × List UInt8):=
 if y then (if Lib.hasPrefix s [91] then (numA (s.drop 1)).bind fun q=>if Lib.hasPrefix q.2 [93] then some (q.1,q.2.drop 1) else none else none) else some (zR,s)
def dotA (s:List UInt8):List UInt8 × List UInt8:=
 if Lib.hasPrefix (spanR lettersL s) [46] then (spanW lettersL s++[46],(spanR lettersL s).drop 1) else (spanW lettersL s,spanR lettersL s)
def tailA (p:List UInt8→List Nd→Nat→Option PS) (k:Int) (s:List UInt8) (ns:List Nd) (b:Nat):Option PS:=
 (stpA (shp k).stp (if (shp k).nam then spanR namesL s else s)).bind fun q=>
 (opsA p (shp k).ops 0 q.2 ns b).bind fun t=>
 if 0<(shp k).ops then (if Lib.hasPrefix t.1 [41] then some (t.1.drop 1,t.2.1++[nd k q.1 (if (shp k).nam then spanW namesL s else [])],t.2.2) else none)
 else some (t.1,t.2.1++[nd k q.1 (if (shp k).nam then spanW namesL s else [])],t.2.2)
def parA:Nat→List UInt8→List Nd→Nat→Option PS
 |0,_,_,_=>none
 |f+1,s,ns,b=>
  if 60<b+1 then none else
  (litA s).bind fun
    |some q=>some (q.2,ns++[q.1],b+1)
    |none=>
     if spanW lettersL s=yesL then some (spanR lettersL s,ns++[nd 4 (ofI 1) []],b+1)
     else if spanW lettersL s=noL then some (spanR lettersL s,ns++[nd 4 (ofI 0) []],b+1)
     else if placeOf ⟨(dotA s).1.toArray⟩<0 then none
     else tailA (parA f) (placeOf ⟨(dotA s).1.toArray⟩) (dotA s).2 ns (b+1)
def parseA (s:List UInt8):Option (List Nd):=
 (parA 61 s [] 0).bind fun q=>if checkE q.2.1=0∧textE q.2.1=s then some q.2.1 else none
def Stp (r:List UInt8):Prop:=∀c,r.head?=some c→c=44∨c=41
def sepT:Nat→List (List Nd)→List UInt8
 |_,[]=>[]
 |k,a::cs=>sepW k++textE a++sepT (k+1) cs
theorem sepT_join (cs:List (List Nd)) (k:Nat) (hk:k≠0):sepT k cs=cs.flatMap fun a=>[44,32]++textE a:=by
 induction cs generalizing k with
 |nil=>rfl
 |cons a cs ih=>rw[sepT,ih (k+1) (by omega),List.flatMap_cons,sepW,if_neg hk]
theorem joinC_flat (a:List UInt8) (l:List (List UInt8)):joinC (a::l)=a++l.flatMap fun x=>[44,32]++x:=by
 induction l generalizing a with
 |nil=>simp[joinC]
 |cons x l ih=>
  have:joinC (a::x::l)=a++[44,32]++joinC (x::l):=rfl;rw[this,ih x,List.flatMap_cons];simp
theorem sepT_zero (cs:List (List Nd)) (h:cs≠[]):sepT 0 cs=[40]++joinC (cs.map textE):=by
 cases cs with
 |nil=>exact absurd rfl h
 |cons a cs=>
  rw[sepT,sepT_join _ _ (by omega),List.map_cons,joinC_flat,List.flatMap_map];simp[sepW]
theorem sepT_stp (cs:List (List Nd)) (k:Nat) (hk:k≠0) (r:List UInt8):Stp (sepT k cs++([41]++r)):=by
 intro c hc;cases cs with
 |nil=>
  simp[sepT] at hc;exact .inr hc.symm
 |cons a cs=>
  rw[sepT,sepW,if_neg hk] at hc;simp at hc;exact .inl hc.symm
theorem prefix_app (p r:List UInt8):Lib.hasPrefix (p++r) p=true:=by
 unfold Lib.hasPrefix;rw[List.isPrefixOf_iff_prefix];exact List.prefix_append _ _
theorem opsA_text (p:List UInt8→List Nd→Nat→Option PS) (cs:List (List Nd)) (r:List UInt8)
  (hp:∀e∈cs,∀r ns b,Stp r→b+e.length≤60→p (textE e++r) ns b=some (r,ns++e,b+e.length)) (k:Nat) (ns:List Nd) (b:Nat) (hb:b+cs.flatten.length≤60):
  opsA p cs.length k (sepT k cs++([41]++r)) ns b=some ([41]++r,ns++cs.flatten,b+cs.flatten.length):=by
 induction cs generalizing k ns b with
 |nil=>simp[opsA,sepT]
 |cons a cs ih=>
  rw[List.flatten_cons,List.length_append] at hb;have e1:sepT k (a::cs)++([41]++r)=sepW k++(textE a++(sepT (k+1) cs++([41]++r))):=by rw[sepT];simp
  rw[e1,List.length_cons,opsA,if_pos (prefix_app _ _),List.drop_left,hp a (List.mem_cons_self ..) _ _ _ (sepT_stp _ _ (by omega) _) (by omega)];simp only[Option.bind_some]
  rw[ih (fun e he=>hp e (List.mem_cons_of_mem _ he)) (k+1) _ _ (by omega)];simp[Nat.add_assoc]
theorem stp_num {r:List UInt8} (h:Stp r):∀c,r.head?=some c→numL.contains c=false:=by
 intro c hc;rcases h c hc with rfl|rfl<;>rfl
theorem stp_lett {r:List UInt8} (h:Stp r):∀c,r.head?=some c→lettersL.contains c=false:=by
 intro c hc;rcases h c hc with rfl|rfl<;>rfl
theorem stp_name {r:List UInt8} (h:Stp r):∀c,r.head?=some c→namesL.contains c=false:=by
 intro c hc;rcases h c hc with rfl|rfl<;>rfl
theorem numA_text {a:Ra} (h:okR a=true) {r:List UInt8} (hr:∀c,r.head?=some c→numL.contains c=false):numA ((textR a).data.toList++r)=some (a,r):=by
 obtain⟨h1,h2⟩:=span_app numL _ r (textR_num h) hr;have h3:(⟨(textR a).data.toList.toArray⟩:ByteArray)=textR a:=rfl;unfold numA;rw[h1,h2,h3,ratParse_text a h,if_pos rfl]
theorem litA_letter {c:UInt8} {l:List UInt8} (hc:lettersL.contains c=true):litA (c::l)=some none:=by
 have h:=hc;rw[letters_mem] at h;simp only[letterC,Bool.and_eq_true,decide_eq_true_eq] at h
 have h1:Lib.hasPrefix (c::l) [36]=false:=by
  rw[prefix_one];simp only[List.head?_cons,beq_eq_false_iff_ne,ne_eq,Option.some.injEq]
  rintro rfl;revert h;decide
 have h2:litL.contains c=false:=by
  rw[lit_mem];simp only[isDig,Bool.or_eq_false_iff,Bool.and_eq_false_iff,decide_eq_false_iff_not]
  refine⟨.inr (by omega),?_⟩;rintro rfl;revert h;decide
 unfold litA;rw[h1];simp only[Bool.false_eq_true,if_false,List.headD_cons,h2]
 simp
def wordL (k:Int):List UInt8:=if (shp k).nam then (shp k).word.dropLast else (shp k).word
theorem word_facts (k:Int) (h:5≤k∧k≤24):(shp k).word=wordL k++(if (shp k).nam then [46] else [])∧(∃c l,wordL k=c::l)∧(∀c∈wordL k,lettersL.contains c=true)∧wordL k≠yesL∧wordL k≠noL∧placeOf ⟨(shp k).word.toArray⟩=k:=by
 have hall:∀j∈List.range 25,5≤j→((shp (j:Int)).word=wordL j++(if (shp (j:Int)).nam then [46] else [])∧(wordL j).length≠0∧(wordL j).all (lettersL.contains ·)=true∧wordL j≠yesL∧wordL j≠noL∧placeOf ⟨(shp (j:Int)).word.toArray⟩=j):=by decide+kernel
 obtain⟨h1,h2,h3,h4,h5,h6⟩:=hall k.toNat (List.mem_range.2 (by omega)) (by omega);rw[show ((k.toNat:Nat):Int)=k from by omega] at*;exact⟨h1,List.exists_cons_of_ne_nil (fun h=>h2 (by rw[h];rfl)),List.all_eq_true.1 h3,h4,h5,h6⟩
theorem name_bytes {s:ByteArray} (h:nameB s.data.toList=true):∀c∈s.data.toList,namesL.contains c=true:=by
 unfold nameB at h;simp only[Bool.and_eq_true] at h;intro c hc;rw[names_mem];exact List.all_eq_true.1 h.2 c hc
theorem wrongN_parts {n:Nd} (h:wrongN n=0):1≤n.op∧n.op≤24∧((shp n.op).nam=false→n.name=⟨#[]⟩)∧numOk n=true∧((shp n.op).nam=true→nameB n.name.data.toList=true):=by
 unfold wrongN at h;split at h
 ·cases h
 ·next h1=>
  have h1':=fun x=>h1 (.inl x)
  have h2':=fun x=>h1 (.inr (.inl x))
  refine⟨by omega,by omega,fun hn=>Classical.byContradiction fun hh=>h1 (.inr (.inr (.inl ⟨hn,hh⟩))),?_,?_⟩
  ·cases hk:numOk n
   ·exact absurd (.inr (.inr (.inr hk))) h1
   ·rfl
  ·intro hn;rw[hn] at h;cases hb:nameB n.name.data.toList
   ·rw[hb] at h;simp at h
   ·rfl
theorem op_big {n:Nd} (h:wrongN n=0) (h5:5≤n.op) (J:List (List UInt8)):
  txt n J=(shp n.op).word++n.name.data.toList++(if (shp n.op).stp then [91]++(textR n.num).data.toList++[93] else [])++(if (shp n.op).ops=0 then [] else [40]++joinC J++[41]):=by
 unfold txt;rw[if_neg (by omega),shp_lit,if_neg (by rw[decide_eq_true_eq];omega),if_neg (show ¬n.op=2 by omega)];simp
theorem num_big {n:Nd} (h:wrongN n=0) (h5:5≤n.op):((shp n.op).stp=true→okR n.num=true)∧((shp n.op).stp=false→n.num=zR):=by
 obtain⟨_,_,_,hn,_⟩:=wrongN_parts h;unfold numOk at hn;rw[if_neg (by omega),shp_lit,if_neg (by rw[decide_eq_true_eq];omega)] at hn;constructor
 ·intro hs;rw[if_pos hs] at hn;unfold fitsR at hn;simp only[Bool.and_eq_true] at hn;exact hn.1.1.1
 ·intro hs;rw[hs,if_neg (by simp)] at hn;exact of_decide_eq_true hn
theorem num_lit {n:Nd} (h:wrongN n=0) (h5:n.op<4):okR n.num=true:=by
 obtain⟨h1,_,_,hn,_⟩:=wrongN_parts h;unfold numOk at hn;rw[if_neg (by omega),shp_lit,if_pos (decide_eq_true (by omega))] at hn;unfold fitsR at hn;simp only[Bool.and_eq_true] at hn;exact hn.1.1
theorem big_head (k:Int) (h:5≤k∧k≤24):(shp k).nam=true∨(shp k).ops≠0:=by
 have h1:=shp_nam k;have h2:=shp_ops k;by_cases hn:(5≤k∧k≤8)∨k=24
 ·exact .inl (by rw[h1];exact decide_eq_true hn)
 ·refine .inr ?_;intro h0;rw[h0] at h2;split at h2
  ·omega
  ·split at h2
   ·omega
   ·split at h2<;>omega
theorem drop_one (c:UInt8) (x:List UInt8):([c]++x).drop 1=x:=rfl
theorem nd_eq {n:Nd} {op:Int} {a:Ra} {nm:List UInt8} (h1:op=n.op) (h2:a=n.num) (h3:(⟨nm.toArray⟩:ByteArray)=n.name):nd op a nm=n:=by
 obtain⟨o,x,y⟩:=n;subst h1 h2 h3;rfl
theorem tailA_text (p:List UInt8→List Nd→Nat→Option PS) {n:Nd} (hn:wrongN n=0) (h5:5≤n.op) (cs:List (List Nd)) (hl:cs.length=(shp n.op).ops) (r:List UInt8) (hr:Stp r) (ns:List Nd) (b:Nat)
  (hops:opsA p cs.length 0 (sepT 0 cs++([41]++r)) ns b=some ([41]++r,ns++cs.flatten,b+cs.flatten.length)):
  tailA p n.op (n.name.data.toList++((if (shp n.op).stp then [91]++(textR n.num).data.toList++[93] else [])++((if (shp n.op).ops=0 then [] else [40]++joinC (cs.map textE)++[41])++r))) ns b
   =some (r,ns++(cs.flatten++[n]),b+cs.flatten.length):=by
 obtain⟨_,h24,hne,_,hnb⟩:=wrongN_parts hn;obtain⟨hz1,hz2⟩:=num_big hn h5
 have hO:(if (shp n.op).ops=0 then [] else [40]++joinC (cs.map textE)++[41])++r=if (shp n.op).ops=0 then r else sepT 0 cs++([41]++r):=by
  split
  ·rfl
  ·next h0=>
   rw[sepT_zero cs (by intro h;rw[h] at hl;exact h0 hl.symm)];simp
 rw[hO]
 have hhead:∀c,((if (shp n.op).stp then [91]++(textR n.num).data.toList++[93] else [])++(if (shp n.op).ops=0 then r else sepT 0 cs++([41]++r))).head?=some c→namesL.contains c=false:=by
  intro c hc;cases hs:(shp n.op).stp
  ·rw[hs,if_neg (by simp),List.nil_append] at hc;split at hc
   ·exact stp_name hr c hc
   ·next h0=>
    rw[sepT_zero cs (by intro h;rw[h] at hl;exact h0 hl.symm)] at hc;obtain rfl:40=c:=by simpa using hc
    rfl
  ·rw[hs,if_pos rfl] at hc;obtain rfl:91=c:=by simpa using hc
   rfl
 have hnam:(if (shp n.op).nam then spanR namesL (n.name.data.toList++((if (shp n.op).stp then [91]++(textR n.num).data.toList++[93] else [])++(if (shp n.op).ops=0 then r else sepT 0 cs++([41]++r)))) else (n.name.data.toList++((if (shp n.op).stp then [91]++(textR n.num).data.toList++[93] else [])++(if (shp n.op).ops=0 then r else sepT 0 cs++([41]++r)))))
   =((if (shp n.op).stp then [91]++(textR n.num).data.toList++[93] else [])++(if (shp n.op).ops=0 then r else sepT 0 cs++([41]++r)))∧
   (⟨(if (shp n.op).nam then spanW namesL (n.name.data.toList++((if (shp n.op).stp then [91]++(textR n.num).data.toList++[93] else [])++(if (shp n.op).ops=0 then r else sepT 0 cs++([41]++r)))) else []).toArray⟩:ByteArray)=n.name:=by
  cases hm:(shp n.op).nam
  ·rw[hne hm];simp
  ·obtain⟨s1,s2⟩:=span_app namesL n.name.data.toList _ (name_bytes (hnb hm)) hhead;rw[if_pos rfl,if_pos rfl,s1,s2];exact⟨rfl,rfl⟩
 obtain⟨e1,e2⟩:=hnam
 have hst:stpA (shp n.op).stp ((if (shp n.op).stp then [91]++(textR n.num).data.toList++[93] else [])++(if (shp n.op).ops=0 then r else sepT 0 cs++([41]++r)))=some (n.num,(if (shp n.op).ops=0 then r else sepT 0 cs++([41]++r))):=by
  cases hs:(shp n.op).stp
  ·rw[hz2 hs];rfl
  ·unfold stpA
   rw[if_pos rfl,if_pos rfl,List.append_assoc,List.append_assoc,if_pos (prefix_app _ _),drop_one,
    numA_text (hz1 hs) (by intro c hc;obtain rfl:93=c:=by simpa using hc
                           rfl)]
   simp only[Option.bind_some]
   rw[if_pos (prefix_app _ _)];rfl
 unfold tailA;rw[e1,hst];simp only[Option.bind_some]
 have hnode:nd n.op n.num (if (shp n.op).nam then spanW namesL (n.name.data.toList++((if (shp n.op).stp then [91]++(textR n.num).data.toList++[93] else [])++(if (shp n.op).ops=0 then r else sepT 0 cs++([41]++r)))) else [])=n:=nd_eq rfl rfl e2;rw[hnode];by_cases h0:(shp n.op).ops=0
 ·have hcs:cs=[]:=List.eq_nil_of_length_eq_zero (by omega);subst hcs;rw[if_pos h0,h0];simp[opsA]
 ·rw[if_neg h0,←hl,hops];simp only[Option.bind_some]
  rw[if_pos (by omega),if_pos (prefix_app _ _)];simp
theorem parA_text (f:Nat):∀e:List Nd,Ex f e→∀r ns b,Stp r→b+e.length≤60→parA f (textE e++r) ns b=some (r,ns++e,b+e.length):=by
 induction f with
 |zero=>intro e h;exact h.elim
 |succ f ih=>
  rintro e ⟨cs,n,rfl,hn,hl,ha⟩ r ns b hr hb;have hlen:(cs.flatten++[n]).length=cs.flatten.length+1:=by simp
  rw[hlen] at hb⊢;rw[textE_node hl ha];have hops:=opsA_text (parA f) cs r (fun e he r ns b hr hb=>ih e (ha e he) r ns b hr hb) 0 ns (b+1) (by omega);rw[parA,if_neg (by omega)];obtain⟨h1,h24,hne,hnum,hnb⟩:=wrongN_parts hn;by_cases h5:5≤n.op
  ·obtain⟨w1,⟨c,l,w2⟩,w3,w4,w5,w6⟩:=word_facts n.op ⟨h5,h24⟩;rw[op_big hn h5];obtain⟨T,hT⟩:∃T,T=n.name.data.toList++((if (shp n.op).stp then [91]++(textR n.num).data.toList++[93] else [])++((if (shp n.op).ops=0 then [] else [40]++joinC (cs.map textE)++[41])++r)):=⟨_,rfl⟩
   have htx:((shp n.op).word++n.name.data.toList++(if (shp n.op).stp then [91]++(textR n.num).data.toList++[93] else [])++(if (shp n.op).ops=0 then [] else [40]++joinC (cs.map textE)++[41]))++r=wordL n.op++((if (shp n.op).nam then [46] else [])++T):=by
    rw[hT,w1];simp
   rw[htx]
   have hhd:∀c,((if (shp n.op).nam then [46] else [])++T).head?=some c→lettersL.contains c=false∧((shp n.op).nam=false→c≠46):=by
    intro c hc;cases hm:(shp n.op).nam
    ·rw[hm,if_neg (by simp),List.nil_append,hT,hne hm] at hc
     have h0:(shp n.op).ops≠0:=by
      rcases big_head n.op ⟨h5,h24⟩ with h|h
      ·rw[hm] at h;cases h
      ·exact h
     rw[if_neg h0] at hc;cases hs:(shp n.op).stp
     ·rw[hs] at hc;obtain rfl:40=c:=by simpa using hc
      exact⟨rfl,fun _=>by decide⟩
     ·rw[hs] at hc;obtain rfl:91=c:=by simpa using hc
      exact⟨rfl,fun _=>by decide⟩
    ·rw[hm,if_pos rfl] at hc;obtain rfl:46=c:=by simpa using hc
     exact⟨rfl,fun h=>by cases h⟩
   obtain⟨s1,s2⟩:=span_app lettersL (wordL n.op) _ w3 (fun c hc=>(hhd c hc).1)
   have hd:dotA (wordL n.op++((if (shp n.op).nam then [46] else [])++T))=((shp n.op).word,T):=by
    unfold dotA;rw[s1,s2];cases hm:(shp n.op).nam
    ·rw[hm] at w1
     have hp:Lib.hasPrefix ((if false=true then [46] else [])++T) [46]=false:=by
      rw[prefix_one,beq_eq_false_iff_ne];intro hh;exact (hhd 46 (by rw[hm];exact hh)).2 hm rfl
     rw[hp,w1];simp
    ·rw[hm] at w1;rw[if_pos (by rw[if_pos rfl];exact prefix_app _ _),w1];simp
   have hlit:litA (wordL n.op++((if (shp n.op).nam then [46] else [])++T))=some none:=by
    rw[w2,List.cons_append];exact litA_letter (w3 c (by rw[w2];exact List.mem_cons_self ..))
   rw[hlit];simp only[Option.bind_some]
   rw[s1,if_neg w4,if_neg w5,hd,w6,if_neg (by omega),hT,tailA_text (parA f) hn h5 cs hl r hr ns (b+1) hops];simp only[Nat.add_assoc,Nat.add_comm 1]
  ·have h0:(shp n.op).ops=0:=by
    have:=shp_ops n.op;rw[if_neg (by omega),if_neg (by omega),if_neg (by omega)] at this;omega
   have hnam:(shp n.op).nam=false:=by rw[shp_nam];exact decide_eq_false (by omega)
   have hcs:cs=[]:=List.eq_nil_of_length_eq_zero (by omega);subst hcs;have hnm:=hne hnam;obtain⟨op,num,nm⟩:=n;simp only at*;subst hnm;simp only[List.flatten_nil,List.nil_append,List.length_nil,Nat.zero_add,List.map_nil]
   have hop:op=1∨op=2∨op=3∨op=4:=by omega
   rcases hop with rfl|rfl|rfl|rfl
   ·have hk:=num_lit hn (by simp)
    have ht:txt ⟨1,num,⟨#[]⟩⟩ []++r=[36]++((textR num).data.toList++r):=by
     show (([36]++[]++(textR num).data.toList++[]++[]++[]):List UInt8)++r=_;simp
    rw[ht];unfold litA;rw[if_pos (prefix_app _ _),drop_one,numA_text hk (stp_num hr)];rfl
   ·have hk:=num_lit hn (by simp)
    have ht:txt ⟨2,num,⟨#[]⟩⟩ []++r=(textR num).data.toList++([100]++r):=by
     show (([]++[]++(textR num).data.toList++[100]++[]++[]):List UInt8)++r=_;simp
    rw[ht]
    have hna:=numA_text hk (r:=[100]++r) (by intro c hc;obtain rfl:100=c:=by simpa using hc
                                             rfl)
    obtain⟨c,l,hcl,hc⟩:=textR_head hk
    have hc36:c≠36:=by
     rintro rfl;rcases hc with hc|hc
     ·revert hc;decide
     ·cases hc
    have hcl2:litL.contains c=true:=by
     rw[lit_mem];rcases hc with hc|hc
     ·rw[hc];rfl
     ·rw[hc];rfl
    unfold litA;rw[if_neg (by rw[prefix_one,hcl];simp[hc36]),if_neg (by rw[hcl];simp;simpa using hcl2),hna];simp only[Option.map_some,Option.bind_some]
    rw[if_pos (prefix_app _ _)];rfl
   ·have hk:=num_lit hn (by simp)
    have ht:txt ⟨3,num,⟨#[]⟩⟩ []++r=(textR num).data.toList++r:=by
     show (([]++[]++(textR num).data.toList++[]++[]++[]):List UInt8)++r=_;simp
    rw[ht];have hna:=numA_text hk (stp_num hr);obtain⟨c,l,hcl,hc⟩:=textR_head hk
    have hc36:c≠36:=by
     rintro rfl;rcases hc with hc|hc
     ·revert hc;decide
     ·cases hc
    have hcl2:litL.contains c=true:=by
     rw[lit_mem];rcases hc with hc|hc
     ·rw[hc];rfl
     ·rw[hc];rfl
    unfold litA;rw[if_neg (by rw[prefix_one,hcl];simp[hc36]),if_neg (by rw[hcl];simp;simpa using hcl2),hna];simp only[Option.map_some,Option.bind_some]
    rw[if_neg (by
     rw[prefix_one];intro hh;rcases hr 100 (by simpa using hh) with h|h<;>revert h<;>decide)]
    rfl
   ·have hw:(num=ofI 0∧txt ⟨4,num,⟨#[]⟩⟩ []=noL)∨(num=ofI 1∧txt ⟨4,num,⟨#[]⟩⟩ []=yesL):=by
     unfold numOk at hnum;rw[if_pos rfl,Bool.or_eq_true,decide_eq_true_eq,decide_eq_true_eq] at hnum;rcases hnum with rfl|rfl
     ·exact .inl ⟨rfl,by unfold txt;rw[if_pos rfl,if_pos (show (ofI 0).num=⟨#[]⟩ from rfl)];rfl⟩
     ·exact .inr ⟨rfl,by unfold txt;rw[if_pos rfl,if_neg (show ¬(ofI 1).num=⟨#[]⟩ from by decide)];rfl⟩
    rcases hw with⟨rfl,ht⟩|⟨rfl,ht⟩
    ·rw[ht];obtain⟨s1,s2⟩:=span_app lettersL noL r (by decide) (stp_lett hr);rw[show noL++r=110::([111]++r) from rfl,litA_letter (by decide)];simp only[Option.bind_some]
     rw[show 110::([111]++r)=noL++r from rfl,s1,s2,if_neg (by decide),if_pos rfl];rfl
    ·rw[ht];obtain⟨s1,s2⟩:=span_app lettersL yesL r (by decide) (stp_lett hr);rw[show yesL++r=121::([101,115]++r) from rfl,litA_letter (by decide)];simp only[Option.bind_some]
     rw[show 121::([101,115]++r)=yesL++r from rfl,s1,s2,if_pos rfl];rfl
theorem Ex.len (k:Nat):∀e,Ex k e→Ex e.length e:=by
 induction k with
 |zero=>intro e h;exact h.elim
 |succ k ih=>
  rintro e ⟨cs,n,rfl,hn,hl,ha⟩;rw[List.length_append,List.length_singleton];refine⟨cs,n,rfl,hn,hl,fun a hm=>(ih a (ha a hm)).mono ?_⟩;exact (List.sublist_flatten_of_mem hm).length_le
theorem checkE_ex {e:List Nd} (h:checkE e=0):Ex 61 e:=by
 obtain⟨h1,k,hk⟩:=(checkE_iff e).1 h;exact (hk.len k e).mono (by omega)
theorem parseA_iff (s:List UInt8) (e:List Nd):parseA s=some e↔checkE e=0∧textE e=s:=by
 unfold parseA;constructor
 ·intro h;obtain⟨q,_,h2⟩:=Option.bind_eq_some_iff.1 h;split at h2
  ·next hc=>obtain rfl:=Option.some.inj h2;exact hc
  ·cases h2
 ·rintro⟨h1,rfl⟩;have h2:=parA_text 61 e (checkE_ex h1) [] [] 0 (by intro c hc;cases hc) (by have:=((checkE_iff e).1 h1).1;omega);rw[List.append_nil,List.nil_append] at h2;rw[h2];simp only[Option.bind_some]
  rw[if_pos (by exact⟨h1,by trivial⟩)]
theorem textE_inj {e d:List Nd} (he:checkE e=0) (hd:checkE d=0) (h:textE e=textE d):e=d:=by
 have h1:=(parseA_iff (textE e) e).2 ⟨he,rfl⟩;have h2:=(parseA_iff (textE e) d).2 ⟨hd,h.symm⟩;rw[h1] at h2;exact Option.some.inj h2
def lc (l:List UInt8):List Value:=l.map fun b=>.int .u8 b.toNat
theorem lc_app (a b:List UInt8):lc (a++b)=lc a++lc b:=List.map_append
theorem lc_len (a:List UInt8):(lc a).length=a.length:=List.length_map _
structure Sub (e:List Nd) (args:List (List Nat)) (o:Nat) (a:List Nd):Prop where
 node:∀i,i<a.length→e[o+i]?=a[i]?
 args:∀i,i<a.length→args[o+i]?=(runA a o [])[i]?
theorem flatA_length (o:Nat) (cs:List (List Nd)):(flatA o cs).length=cs.flatten.length:=by
 induction cs generalizing o with
 |nil=>rfl
 |cons a cs ih=>rw[flatA,List.length_append,runA_length,ih,List.flatten_cons,List.length_append]
theorem flatA_append (o:Nat) (cs ds:List (List Nd)):flatA o (cs++ds)=flatA o cs++flatA (o+cs.flatten.length) ds:=by
 induction cs generalizing o with
 |nil=>rfl
 |cons a cs ih=>rw[List.cons_append,flatA,flatA,ih,List.flatten_cons,List.length_append,List.append_assoc,Nat.add_assoc]
theorem roots_append (o:Nat) (cs ds:List (List Nd)):roots o (cs++ds)=roots o cs++roots (o+cs.flatten.length) ds:=by
 induction cs generalizing o with
 |nil=>rfl
 |cons a cs ih=>rw[List.cons_append,roots,roots,ih,List.flatten_cons,List.length_append,List.cons_append,Nat.add_assoc]
theorem Sub.root {e:List Nd} {args:List (List Nat)} {o k:Nat} {cs:List (List Nd)} {n:Nd} (h:Sub e args o (cs.flatten++[n])) (hl:cs.length=(shp n.op).ops) (ha:∀a∈cs,Ex k a):
  e[o+cs.flatten.length]?=some n∧args[o+cs.flatten.length]?=some (roots o cs):=by
 refine⟨?_,?_⟩
 ·rw[h.node _ (by simp),List.getElem?_append_right (Nat.le_refl _)];simp
 ·rw[h.args _ (by simp),argsAt_node hl ha,List.getElem?_append_right (by rw[flatA_length];exact Nat.le_refl _),flatA_length];simp
theorem Sub.child {e:List Nd} {args:List (List Nat)} {o k:Nat} {cs ds:List (List Nd)} {c:List Nd} {n:Nd} (h:Sub e args o ((cs++c::ds).flatten++[n])) (hl:(cs++c::ds).length=(shp n.op).ops) (ha:∀a∈cs++c::ds,Ex k a):
  Sub e args (o+cs.flatten.length) c:=by
 have hf:(cs++c::ds).flatten++[n]=cs.flatten++(c++(ds.flatten++[n])):=by simp
 have hlen:∀i,i<c.length→cs.flatten.length+i<((cs++c::ds).flatten++[n]).length:=fun i hi=>by rw[hf];simp;omega
 refine⟨fun i hi=>?_,fun i hi=>?_⟩
 ·rw[Nat.add_assoc,h.node _ (hlen i hi),hf,List.getElem?_append_right (by omega),Nat.add_sub_cancel_left,List.getElem?_append_left hi]
 ·rw[Nat.add_assoc,h.args _ (hlen i hi),argsAt_node hl ha,flatA_append,flatA,List.append_assoc,List.append_assoc,List.getElem?_append_right (by rw[flatA_length];omega),flatA_length,Nat.add_sub_cancel_left,
   List.getElem?_append_left (by rw[runA_length];exact hi)]
theorem roots_get (o:Nat) (cs ds:List (List Nd)) (c:List Nd):(roots o (cs++c::ds))[cs.length]?=some (o+cs.flatten.length+c.length-1):=by
 rw[roots_append,List.getElem?_append_right (by rw[roots_length];exact Nat.le_refl _),roots_length,Nat.sub_self];rfl
theorem Sub.whole {e:List Nd}:Sub e (argsE e) 0 e:=⟨fun i _=>by rw[Nat.zero_add],fun i _=>by rw[Nat.zero_add];rfl⟩
theorem sepT_snoc (cs:List (List Nd)) (k:Nat) (c:List Nd):sepT k (cs++[c])=sepT k cs++(sepW (k+cs.length)++textE c):=by
 induction cs generalizing k with
 |nil=>simp[sepT]
 |cons a cs ih=>rw[List.cons_append,sepT,ih,sepT,List.length_cons];simp[Nat.add_assoc,Nat.add_comm 1]
theorem textE_len (k:Nat):∀a:List Nd,Ex k a→(∀n∈a,Fine n)→(textE a).length+2≤7000002*a.length:=by
 induction k with
 |zero=>intro a h;exact h.elim
 |succ k ih=>
  rintro a ⟨cs,n,rfl,hn,hl,ha⟩ hf;rw[textE_node hl ha];have h1:=txt_len hn (hf n (by simp)) (cs.map textE)
  have h2:∀ds:List (List Nd),(∀a∈ds,Ex k a)→(∀n∈ds.flatten,Fine n)→((ds.map textE).map List.length).sum+2*ds.length≤7000002*ds.flatten.length:=by
   intro ds
   induction ds with
   |nil=>intro _ _;simp
   |cons d ds ihd=>
    intro ha hf;have h3:=ih d (ha d (by simp)) (fun n hn=>hf n (by simp[hn]));have h4:=ihd (fun a h=>ha a (by simp[h])) (fun n hn=>hf n (by simp only[List.flatten_cons,List.mem_append];exact .inr hn));simp only[List.map_cons,List.sum_cons,List.length_cons,List.flatten_cons,List.length_append]
    omega
  have h5:=h2 cs ha (fun n hn=>hf n (by simp only[List.mem_append];exact .inl hn));rw[List.length_map] at h1;rw[List.length_append,List.length_singleton];omega
structure BF (b:Nat) (w w':World):Prop where
 size:w.heap.size≤w'.heap.size
 keep:∀k cs t fr,w.heap[k]?=some (.cells cs t fr)→t≠5→k≠b→w'.heap[k]?=some (.cells cs t fr)
theorem BF.refl (b:Nat) (w:World):BF b w w:=⟨Nat.le_refl _,fun _ _ _ _ h _ _=>h⟩
theorem BF.trans {b:Nat} {w w' w'':World} (h:BF b w w') (k:BF b w' w''):BF b w w'':=⟨Nat.le_trans h.size k.size,fun i cs t fr hi ht hb=>k.keep i cs t fr (h.keep i cs t fr hi ht hb) ht hb⟩
theorem lt_of_some {w:World} {k:Nat} {x:Obj} (h:w.heap[k]?=some x):k<w.heap.size:=(Array.getElem?_eq_some_iff.1 h).1
theorem BF.of_below {b:Nat} {w w':World} (h:Below w.heap.size w w'):BF b w w':=⟨h.size,fun k cs t fr hk _ _=>(h.block k (lt_of_some hk)).trans hk⟩
theorem BF.set {b:Nat} {w w':World} (h:BF b w w') (i:Nat) (u:Value):BF b w (w'.setCell ⟨b,i,none⟩ u):=
 ⟨by simpa [World.setCell] using h.size,fun k cs t fr hk ht hb=>(Below.heap_setCell w' _ u k (by show k≠b;exact hb)).trans (h.keep k cs t fr hk ht hb)⟩
theorem BF.blk {b k:Nat} {w w':World} {t:TypeId} {cs:List Value} (h:BF b w w') (hk:Blk w k t cs) (ht:t≠5) (hb:k≠b):Blk w' k t cs:=h.keep k _ _ _ hk ht hb
theorem BF.grown {b B n:Nat} {w w':World} {v:Value} {xs:List Value} (hown:w.ownsRow B 5 1 v n xs) (hg:w.grownBy w' v.ownBlock):BF b w w':=by
 refine⟨hg.size,fun k cs t fr hk ht _=>(hg.block k (lt_of_some hk) ?_).trans hk⟩;intro he;rcases hown.2 with⟨rfl,_⟩|⟨g,cap,cur,rfl,_,hh,_⟩
 ·cases he
 ·have:k=g:=by simpa [Value.ownBlock] using he
  subst this;rw[hk] at hh;injection hh with hh;injection hh with _ h2;exact ht h2
theorem cc_bf (B b:Nat) (bs:List Value) (w:World) (h:Lib.IsBuilder 91 5 B b bs w):
  Calls Tryz.prog 121 #[.pointer (some ⟨b,0,none⟩)] w fun e w'=>e=.returned (.tuple #[])∧(Lib.BuilderAt 91 5 B b (.pointer (some ⟨b,0,none⟩)) bs w'∧Below B w w'∧BF b w w'):=by
 rcases h with h|h
 ·refine (cc_fresh b w h.cell0 h.shape h.frozen0).mono ?_;rintro e w' ⟨rfl,rfl⟩;exact⟨rfl,h.used _,(Below.refl B w).setCell (p:=⟨b,0,none⟩) h.1 _,(BF.refl b w).set 0 _⟩
 ·refine (cc_used b w h.cell0).mono ?_;rintro e w' ⟨rfl,rfl⟩;exact⟨rfl,h,Below.refl B _,BF.refl b _⟩
set_option maxHeartbeats 1000000 in
set_option maxRecDepth 100000 in
theorem wrs_bf (B b:Nat) (bs:List Value) (s:ByteArray) (w:World) (h:Lib.IsBuilder 91 5 B b bs w) (hlen:bs.length+s.size≤140737488355328) (hBw:B≤w.heap.size):
  Calls Tryz.prog 94 #[.pointer (some ⟨b,0,none⟩),.string s] w fun e w'=>e=.returned (.tuple #[.int .i64 s.size,.nilIface])∧(Lib.BuilderAt 91 5 B b (.pointer (some ⟨b,0,none⟩)) (bs++lc s.data.toList) w'∧Below B w w'∧BF b w w'):=by
 obtain⟨i0,hi,hz0,hz1,hz2⟩:=info_parts (show (Tryz.prog.info? 5).map (fun i=>(i.zero,i.size,i.bytes))=some (some (.int .u8 0),1,1) by kernel_rfl);have HC:=Lib.hid (cc_bf B b bs w h);go_enter Tryz.func94,Tryz.ntmps94;go_wp2_with fail;refine HC.out.mono ?_;rintro e w1 ⟨rfl,h1,hb1,hf1⟩;obtain⟨hB,v,hbk,hown,hne⟩:=h1;have c0:w1.cell? ⟨b,0,none⟩=some (.pointer (some ⟨b,0,none⟩)):=by rw[Lib.cell_of_heap hbk];rfl
 have c1:w1.cell? ⟨b,1,none⟩=some v:=by rw[Lib.cell_of_heap hbk];rfl
 go_wp2_with (at_builtin;refine Lib.wpList_append_own_string _ rfl _ _ 89 9 rfl B 5 i0 Tryz.underlying89 Tryz.underlying9 hi hz0 hz1 hz2 _ _ _ rfl hown s rfl ?c3 ?c4 ?c5 ?_)
 case c3=>unfold maxLen;omega
 case c4=>omega
 case c5=>have:=hb1.size;omega
 intro v' w2 hown' hgrow _
 have hlt:b<w1.heap.size:=by
  rcases Nat.lt_or_ge b w1.heap.size with h'|h'
  ·exact h'
  ·simp[Array.getElem?_eq_none h'] at hbk
 have hb2:w2.heap[b]?=some (.cells #[.pointer (some ⟨b,0,none⟩),v] 91 (0,0)):=by
  rw[hgrow.block b hlt (fun e=>hne e.symm)];exact hbk
 have d0:w2.cell? ⟨b,0,none⟩=some (.pointer (some ⟨b,0,none⟩)):=by rw[Lib.cell_of_heap hb2];rfl
 have d1:w2.cell? ⟨b,1,none⟩=some v:=by rw[Lib.cell_of_heap hb2];rfl
 have f1:w2.frozen? ⟨b,1,none⟩=false:=Lib.frozen_of_heap hb2 1;have HF:Hid (BF b w w2):=hf1.trans (BF.grown hown hgrow);clear hf1
 obtain⟨ao,n',cap,rfl⟩:∃ao n' cap,v'=.slice ao n' cap:=by
  rcases hown'.2 with⟨hv,_⟩|⟨g,cap,cur,hv,_⟩
  ·exact⟨_,_,_,hv⟩
  ·exact⟨_,_,_,hv⟩
 go_wp2;go_ret2;refine⟨rfl,?_,?_,HF.out.set 1 _⟩
 ·exact Lib.BuilderAt.put (T:=91) (e:=5) hB hb2 (bs':=bs++lc s.data.toList) (by simpa [Lib.strCells_length,lc,Lib.strCells] using hown') (by decide)
 ·exact (hb1.grown hgrow (by have:=hb1.size;omega) (fun k hk=>(hown.lt k hk).1)).setCell (p:=⟨b,1,none⟩) hB _
set_option maxRecDepth 100000 in
set_option maxHeartbeats 800000 in
theorem ordN_dr (a b:Nd) (w:World):Calls Tryz.prog 60 #[a.v,b.v] w fun e w'=>e=.returned (.int .i64 (ordN a b))∧Below w.heap.size w w'∧w.drawn≤w'.drawn:=by
 have HP:Hid (ordN a b=orI (Lib.compareInt a.op b.op) (Lib.compareBytes a.name.data.toList b.name.data.toList)):=rfl;generalize ordN a b=r at*;obtain⟨op,⟨neg,num,den⟩,nm⟩:=a;obtain⟨op',⟨neg',num',den'⟩,nm'⟩:=b;unfold Nd.v;simp only at HP⊢;have HC:=Lib.hid (fun W=>Tryz.cmp_Compare_int op op' W);have HT:=Lib.hid (fun W=>Tryz.strings_Compare nm nm' W);generalize Lib.compareInt op op'=x at*;generalize Lib.compareBytes nm.data.toList nm'.data.toList=y at*;obtain⟨W,hW⟩:∃W,W=(w.alloc (.cells #[.int .i64 op,.bool neg,.string num,.string den,.string nm] 33)).alloc (.cells #[.int .i64 op',.bool neg',.string num',.string den',.string nm'] 33):=⟨_,rfl⟩
 have htwo:=Two.new w 33 33 #[.int .i64 op,.bool neg,.string num,.string den,.string nm] #[.int .i64 op',.bool neg',.string num',.string den',.string nm'];rw[←hW] at htwo;obtain⟨hk0,hk1,hba,hsz⟩:=htwo;obtain⟨B,hB⟩:∃B,B=w.heap.size:=⟨_,rfl⟩
 have HB:=Lib.hid hB;rw[←hB] at hba hsz hk0 hk1;have hdrn:w.drawn≤W.drew.drawn:=by rw[hW];exact Nat.le_succ _
 have HA:Hid (∀(w':World) (o:Obj),((∀i,w'.cell? ⟨B,i,none⟩=([.int .i64 op,.bool neg,.string num,.string den,.string nm]:List Value)[i]?)∧(∀i,w'.cell? ⟨B+1,i,none⟩=([.int .i64 op',.bool neg',.string num',.string den',.string nm']:List Value)[i]?)∧B+1<w'.heap.size∧Below B w w'∧w.drawn≤w'.drawn)→((∀i,(w'.alloc o).cell? ⟨B,i,none⟩=([.int .i64 op,.bool neg,.string num,.string den,.string nm]:List Value)[i]?)∧(∀i,(w'.alloc o).cell? ⟨B+1,i,none⟩=([.int .i64 op',.bool neg',.string num',.string den',.string nm']:List Value)[i]?)∧B+1<(w'.alloc o).heap.size∧Below B w (w'.alloc o)∧w.drawn≤(w'.alloc o).drawn)):=by
  rintro w' o ⟨h0,h1,h2,h3,h4⟩;have hb:Below w'.heap.size w' (w'.alloc o):=(Below.refl _ _).alloc (Nat.le_refl _) _;exact⟨fun i=>(hb.cell (Nat.lt_of_succ_lt h2)).trans (h0 i),fun i=>(hb.cell h2).trans (h1 i),Nat.lt_of_lt_of_le h2 hb.size,h3.trans (hb.mono (by omega)),h4⟩
 have HS:Hid ((∀i,W.drew.cell? ⟨B,i,none⟩=([.int .i64 op,.bool neg,.string num,.string den,.string nm]:List Value)[i]?)∧(∀i,W.drew.cell? ⟨B+1,i,none⟩=([.int .i64 op',.bool neg',.string num',.string den',.string nm']:List Value)[i]?)∧B+1<W.drew.heap.size∧Below B w W.drew∧w.drawn≤W.drew.drawn):=⟨hk0.cells,hk1.cells,hk1.lt,below_drewN hba 1,hdrn⟩
 have HOr:Hid (Calls Tryz.prog 61 #[.slice (some ⟨B+2,0,none⟩) 2 2] (W.alloc (.cells #[.int .i64 x,.int .i64 y] 3)).drew fun e w'=>e=.returned (.int .i64 (orI x y))∧w'=(W.alloc (.cells #[.int .i64 x,.int .i64 y] 3)).drew):=by
  show Calls _ _ _ _ _;rw[←hsz];exact cmpOr_two x y _ _ 2 _ (Blk.drew (Blk.new W 3 #[.int .i64 x,.int .i64 y]))
 clear hba hk0 hk1;go_enter Tryz.func60,Tryz.ntmps60;go_wp2_with fail;simp only[←hW,←hB]
 clear hW hB
 go_region_held3 (fun w'=>((∀i,w'.cell? ⟨B,i,none⟩=([.int .i64 op,.bool neg,.string num,.string den,.string nm]:List Value)[i]?)∧(∀i,w'.cell? ⟨B+1,i,none⟩=([.int .i64 op',.bool neg',.string num',.string den',.string nm']:List Value)[i]?)∧B+1<w'.heap.size∧Below B w w'∧w.drawn≤w'.drawn)) (first|exact HS.out|assumption|exact HA.out _ _ (by assumption))
  ((first|(go_at_call 62;(with_reducible refine (HC.out _).mono ?_);rintro e w1 ⟨rfl,rfl⟩)|(go_at_call 63;(with_reducible refine (HT.out _).mono ?_);rintro e w1 ⟨rfl,rfl⟩)|(go_at_call 61;with_reducible refine HOr.out.mono ?_;rintro e w1 ⟨rfl,rfl⟩)))
 rename_i hH;go_wp2;go_ret;exact⟨by rw[HP.out];rfl,by rw[←HB.out];exact hH.2.2.2.1,hH.2.2.2.2⟩
open Go.Sort in
theorem grow_of {w w':World} (hb:Below w.heap.size w w') (hd:w.drawn≤w'.drawn):∃q os',w'=grow (w.drewN q) os':=by
 refine⟨w'.drawn-w.drawn,w'.heap.extract w.heap.size w'.heap.size,?_⟩
 have hh:w'.heap=w.heap++w'.heap.extract w.heap.size w'.heap.size:=by
  apply Array.ext_getElem?;intro i;rw[Array.getElem?_append];split
  ·next h=>exact hb.block i h
  ·next h=>
   rw[Array.getElem?_extract];have:=hb.size;split
   ·congr 1;omega
   ·exact Array.getElem?_eq_none (by omega)
 have h1:=hb.os;have h2:=hb.tape;have h3:=hb.output;obtain⟨a,b,c,d,e⟩:=w;obtain⟨a',b',c',d',e'⟩:=w';simp only at*;subst h1 h2 h3;unfold grow World.drewN;simp only[World.mk.injEq,true_and,and_true]
 exact⟨hh,by omega⟩
open Go.Sort in
theorem ordN_gr (a b:Nd) (w:World):Calls Tryz.prog 60 #[a.v,b.v] w fun e w'=>e=.returned (.int .i64 (ordN a b))∧∃q os',w'=grow (w.drewN q) os':=
 (ordN_dr a b w).mono (fun _ _ h=>⟨h.1,grow_of h.2.1 h.2.2⟩)
theorem cell_other3 {b C:Nat} (w:World) (x y z:Value) (h:b≠C) (i:Nat):(((w.setCell ⟨C,0,none⟩ x).setCell ⟨C,1,none⟩ y).setCell ⟨C,2,none⟩ z).cell? ⟨b,i,none⟩=w.cell? ⟨b,i,none⟩:=
 World.cell?_of_block (((Below.heap_setCell _ ⟨C,2,none⟩ z b h).trans (Below.heap_setCell _ ⟨C,1,none⟩ y b h)).trans (Below.heap_setCell _ ⟨C,0,none⟩ x b h))
def halfR:Ra:=⟨false,nbs 1,nbs 2⟩
theorem valR_ofI1:valR (ofI 1)=ofI 1:=by decide+kernel
theorem valR_ofI2:valR (ofI 2)=ofI 2:=by decide+kernel
theorem nbs1_size:(nbs 1).size=1:=by decide+kernel
theorem nbs2_size:(nbs 2).size=1:=by decide+kernel
set_option maxRecDepth 100000 in
set_option maxHeartbeats 3200000 in
theorem sQuo_half (w:World):Calls Tryz.prog 36 #[(ofI 1).v,(ofI 2).v] w fun e w'=>e=.returned (.tuple #[halfR.v,.bool true])∧Below w.heap.size w w':=by
 have HV1:=Lib.hid (fun W=>svalue_any (ofI 1) W (by show (nbs 1).size≤_;rw[nbs1_size];omega) (by show (nbs 1).size≤_;rw[nbs1_size];omega));have HV2:=Lib.hid (fun W=>svalue_any (ofI 2) W (by show (nbs 2).size≤_;rw[nbs2_size];omega) (by show (nbs 1).size≤_;rw[nbs1_size];omega));rw[valR_ofI1] at HV1;rw[valR_ofI2] at HV2;have HM1:Hid (∀W,Calls Tryz.prog 66 #[.string (nbs 1),.string (nbs 1)] W fun e w'=>e=.returned (.string (nbs 1))∧Below W.heap.size W w'):=fun W=>rMul_nb 1 1 W (by rw[nbs1_size];omega) (by rw[nbs1_size];omega)
 have HM2:Hid (∀W,Calls Tryz.prog 66 #[.string (nbs 1),.string (nbs 2)] W fun e w'=>e=.returned (.string (nbs 2))∧Below W.heap.size W w'):=fun W=>rMul_nb 1 2 W (by rw[nbs1_size];omega) (by rw[nbs2_size];omega)
 have HLW:Hid (∀W,Calls Tryz.prog 67 #[.bool false,.string (nbs 1),.string (nbs 2)] W fun e w'=>e=.returned (.agg #[.bool false,.string (nbs 1),.string (nbs 2)])∧Below W.heap.size W w'):=fun W=>slowest_any false 1 2 1 W (by omega) (by omega) (by omega) (by omega)
 have e1:(nbs 2).toList.isEmpty=false:=nbs_emp 2 false (by decide);have HV1':Hid (∀W,Calls Tryz.prog 72 #[.agg #[.bool false,.string (nbs 1),.string (nbs 1)]] W fun e w'=>e=.returned (.agg #[.bool false,.string (nbs 1),.string (nbs 1)])∧Below W.heap.size W w'):=HV1;have HV2':Hid (∀W,Calls Tryz.prog 72 #[.agg #[.bool false,.string (nbs 2),.string (nbs 1)]] W fun e w'=>e=.returned (.agg #[.bool false,.string (nbs 2),.string (nbs 1)])∧Below W.heap.size W w'):=HV2;show Calls Tryz.prog 36 #[.agg #[.bool false,.string (nbs 1),.string (nbs 1)],.agg #[.bool false,.string (nbs 2),.string (nbs 1)]] w fun e w'=>e=.returned (.tuple #[.agg #[.bool false,.string (nbs 1),.string (nbs 2)],.bool true])∧Below w.heap.size w w'
 clear HV1 HV2;generalize nbs 1=N1 at*;generalize nbs 2=N2 at*;obtain⟨W,hW⟩:∃W,W=((w.alloc (.cells #[.bool false,.string N1,.string N1] 31)).alloc (.cells #[.bool false,.string N2,.string N1] 31)).alloc (.cells #[.bool false,.string ⟨#[]⟩,.string ⟨#[]⟩] 31):=⟨_,rfl⟩
 have htwo:=Three.new w 31 31 31 #[.bool false,.string N1,.string N1] #[.bool false,.string N2,.string N1] #[.bool false,.string ⟨#[]⟩,.string ⟨#[]⟩];rw[←hW] at htwo;obtain⟨hk0,hk1,hk2,hba,hsz⟩:=htwo;obtain⟨B,hB⟩:∃B,B=w.heap.size:=⟨_,rfl⟩
 have HB:=Lib.hid hB;rw[←hB] at hba hsz hk0 hk1 hk2;have hc0:=hk0.cells;go_enter Tryz.func36,Tryz.ntmps36;go_wp2_with fail;simp only[←hW,←hB]
 clear hW hB;refine (HV1'.out _).mono ?_;rintro e w1 ⟨rfl,hb1⟩;have ha1:=hk0.below hb1 hk0.lt;have hx1:=hk1.below hb1 hk1.lt;have hr1:=hk2.below hb1 hk2.lt;have hB1:Below B w w1:=hba.trans (hb1.mono (by omega));have hsz1:B+3≤w1.heap.size:=by have:=hb1.size;omega
 have hc1:=ha1.cells;have hf1:=ha1.froz;have hd1:=hx1.cells;have ha2:=((ha1.set 0 (.bool false)).set 1 (.string N1)).set 2 (.string N1);have hx2:=((hx1.other (p:=⟨B,0,none⟩) (by show B+1≠B;omega) (.bool false)).other (p:=⟨B,1,none⟩) (by show B+1≠B;omega) (.string N1)).other (p:=⟨B,2,none⟩) (by show B+1≠B;omega) (.string N1);have hr2:=((hr1.other (p:=⟨B,0,none⟩) (by show B+2≠B;omega) (.bool false)).other (p:=⟨B,1,none⟩) (by show B+2≠B;omega) (.string N1)).other (p:=⟨B,2,none⟩) (by show B+2≠B;omega) (.string N1);have hB2:=below_set3 hB1 (.bool false) (.string N1) (.string N1);have hz2:B+3≤(((w1.setCell ⟨B,0,none⟩ (.bool false)).setCell ⟨B,1,none⟩ (.string N1)).setCell ⟨B,2,none⟩ (.string N1)).heap.size:=by simp only[World.size_setCell];exact hsz1
 clear hc0 hk0 hk1 hk2 hba hb1;obtain⟨w2,hw2⟩:∃x,x=(((w1.setCell ⟨B,0,none⟩ (.bool false)).setCell ⟨B,1,none⟩ (.string N1)).setCell ⟨B,2,none⟩ (.string N1)):=⟨_,rfl⟩
 rw[←hw2] at ha2 hx2 hr2 hB2 hz2;have hd2:=hx2.cells;go_wp2_with fail;simp only[←hw2]
 clear hw2 hc1 hf1 hd1 ha1 hx1 hr1 hB1;refine (HV2'.out _).mono ?_;rintro e w3 ⟨rfl,hb3⟩;have ha3:=ha2.below hb3 ha2.lt;have hx3:=hx2.below hb3 hx2.lt;have hr3:=hr2.below hb3 hr2.lt;have hB3:Below B w w3:=hB2.trans (hb3.mono (by omega));have hz3:B+3≤w3.heap.size:=by have:=hb3.size;omega
 have hc3:=hx3.cells;have hf3:=hx3.froz;have ha4:=((ha3.other (p:=⟨B+1,0,none⟩) (by show B≠B+1;omega) (.bool false)).other (p:=⟨B+1,1,none⟩) (by show B≠B+1;omega) (.string N2)).other (p:=⟨B+1,2,none⟩) (by show B≠B+1;omega) (.string N1);have hr4:=((hr3.other (p:=⟨B+1,0,none⟩) (by show B+2≠B+1;omega) (.bool false)).other (p:=⟨B+1,1,none⟩) (by show B+2≠B+1;omega) (.string N2)).other (p:=⟨B+1,2,none⟩) (by show B+2≠B+1;omega) (.string N1);have hx4:=((hx3.set 0 (.bool false)).set 1 (.string N2)).set 2 (.string N1);have hB4:=below_at hB3 (Nat.le_succ B) (.bool false) (.string N2) (.string N1);have hz4:B+3≤(((w3.setCell ⟨B+1,0,none⟩ (.bool false)).setCell ⟨B+1,1,none⟩ (.string N2)).setCell ⟨B+1,2,none⟩ (.string N1)).heap.size:=by simp only[World.size_setCell];exact hz3
 have hd4:=hx4.cells;have hv4:=ha4.cells;simp only[List.set_cons_zero,List.set_cons_succ] at hd4 hv4 ha4 hx4;clear hb3 hd2;obtain⟨w4,hw4⟩:∃x,x=(((w3.setCell ⟨B+1,0,none⟩ (.bool false)).setCell ⟨B+1,1,none⟩ (.string N2)).setCell ⟨B+1,2,none⟩ (.string N1)):=⟨_,rfl⟩
 rw[←hw4] at ha4 hx4 hr4 hB4 hz4 hd4 hv4
 have HK:Hid (∀w' w1:World,((∀i,w'.cell? ⟨B,i,none⟩=([.bool false,.string N1,.string N1]:List Value)[i]?)∧(∀i,w'.cell? ⟨B+1,i,none⟩=([.bool false,.string N2,.string N1]:List Value)[i]?)∧(∃c0 c1 c2,Blk w' (B+2) 31 [c0,c1,c2])∧B+1<w'.heap.size∧Below B w w')→Below w'.heap.size w' w1→((∀i,w1.cell? ⟨B,i,none⟩=([.bool false,.string N1,.string N1]:List Value)[i]?)∧(∀i,w1.cell? ⟨B+1,i,none⟩=([.bool false,.string N2,.string N1]:List Value)[i]?)∧(∃c0 c1 c2,Blk w1 (B+2) 31 [c0,c1,c2])∧B+1<w1.heap.size∧Below B w w1)):=by
  rintro w' w1 ⟨h0,h1,h2,h3,h4⟩ hb1;exact⟨fun i=>(hb1.cell (by show B<_;omega)).trans (h0 i),fun i=>(hb1.cell h3).trans (h1 i),(by obtain⟨c0,c1,c2,h2⟩:=h2;exact⟨c0,c1,c2,h2.below hb1 h2.lt⟩),Nat.lt_of_lt_of_le h3 hb1.size,h4.trans (hb1.mono (by omega))⟩
 have HS:Hid ((∀i,w4.drew.cell? ⟨B,i,none⟩=([.bool false,.string N1,.string N1]:List Value)[i]?)∧(∀i,w4.drew.cell? ⟨B+1,i,none⟩=([.bool false,.string N2,.string N1]:List Value)[i]?)∧(∃c0 c1 c2,Blk w4.drew (B+2) 31 [c0,c1,c2])∧B+1<w4.drew.heap.size∧Below B w w4.drew):=⟨hv4,hd4,⟨_,_,_,hr4⟩,by show B+1<w4.heap.size;omega,below_drewN hB4 1⟩
 clear ha2 hx2 hr2 hB2 hz2 ha3 hx3 hr3 hB3 hz3 hr4 hB4;go_wp2_with fail;simp only[←hw4]
 clear hw4 hc3 hf3 ha4 hx4;go_wp2_with fail;refine wp_region_noPanic ?_;refine wp_region_held_drew (S:=fun w'=>(∀i,w'.cell? ⟨B,i,none⟩=([.bool false,.string N1,.string N1]:List Value)[i]?)∧(∀i,w'.cell? ⟨B+1,i,none⟩=([.bool false,.string N2,.string N1]:List Value)[i]?)∧(∃c0 c1 c2,Blk w' (B+2) 31 [c0,c1,c2])∧B+1<w'.heap.size∧Below B w w') (by kernel_rfl) HS.out (fun hHeld=>?_);refine tkY 0 ?_ rfl ?_ ?_;rotate_left
 ·intro w hSw;(try dsimp only at hSw);go_simp
  all_goals with_reducible rfl
 try simp only[Act.put,tk1,tk2,tk3,tk4,tk5,tk6]
 refine tkY 1 ?_ rfl ?_ ?_;rotate_left
 ·intro w hSw;(try dsimp only at hSw);go_simp
  all_goals with_reducible rfl
 try simp only[Act.put,tk1,tk2,tk3,tk4,tk5,tk6]
 refine tkY 2 ?_ rfl ?_ ?_;rotate_left
 ·intro w hSw;(try dsimp only at hSw);go_simp
  all_goals with_reducible rfl
 try simp only[Act.put,tk1,tk2,tk3,tk4,tk5,tk6]
 refine tkY 3 ?_ rfl ?_ ?_;rotate_left
 ·intro w hSw;(try dsimp only at hSw);go_simp
  all_goals with_reducible rfl
 try simp only[Act.put,tk1,tk2,tk3,tk4,tk5,tk6]
 refine tkY 4 ?_ rfl ?_ ?_;rotate_left
 ·intro w hSw;(try dsimp only at hSw);go_simp
  all_goals with_reducible rfl
 try simp only[Act.put,tk1,tk2,tk3,tk4,tk5,tk6]
 refine tkY 5 ?_ rfl ?_ ?_;rotate_left
 ·intro w hSw;(try dsimp only at hSw);go_simp
  all_goals with_reducible rfl
 try simp only[Act.put,tk1,tk2,tk3,tk4,tk5,tk6]
 refine tkY 6 ?_ rfl ?_ ?_;rotate_left
 ·intro w hSw;(try dsimp only at hSw);go_simp
  all_goals with_reducible rfl
 try simp only[Act.put,tk1,tk2,tk3,tk4,tk5,tk6]
 refine tkY 7 ?_ rfl ?_ ?_;rotate_left
 ·intro w hSw;(try dsimp only at hSw);go_simp
  all_goals with_reducible rfl
 try simp only[Act.put,tk1,tk2,tk3,tk4,tk5,tk6]
 refine tkY 8 ?_ rfl ?_ ?_;rotate_left
 ·intro w hSw;(try dsimp only at hSw);go_simp
  all_goals with_reducible rfl
 try simp only[Act.put,tk1,tk2,tk3,tk4,tk5,tk6]
 refine tkY 10 ?_ rfl ?_ ?_;rotate_left
 ·intro w hSw;(try dsimp only at hSw);go_simp
  all_goals with_reducible rfl
 try simp only[Act.put,tk1,tk2,tk3,tk4,tk5,tk6]
 refine tkY 11 ?_ rfl ?_ ?_;rotate_left
 ·intro w hSw;(try dsimp only at hSw);go_simp
  all_goals with_reducible rfl
 try simp only[Act.put,tk1,tk2,tk3,tk4,tk5,tk6]
 refine tkY 12 ?_ rfl ?_ ?_;rotate_left
 ·intro w hSw;(try dsimp only at hSw);go_simp
  all_goals with_reducible rfl
 try simp only[Act.put,tk1,tk2,tk3,tk4,tk5,tk6]
 refine tkY 13 ?_ rfl ?_ ?_;rotate_left
 ·intro w hSw;(try dsimp only at hSw);go_simp
  all_goals with_reducible rfl
 try simp only[Act.put,tk1,tk2,tk3,tk4,tk5,tk6]
 refine wpAnyH_ready (rs:=[9]) (by kernel_rfl) (by simp) ?_;refine AllReadyH.cons rfl (fun K hK=>?_) AllReadyH.nil;go_simp;refine (HM1.out _).mono ?_;rintro e w1 ⟨rfl,hb1⟩;go_wp2_with fail;refine hK.out _ _ ?_ (fun hHeld=>?_)
 ·exact HK.out _ _ (by assumption) hb1
 clear hK K
 try simp only[Act.put,tk1,tk2,tk3,tk4,tk5,tk6]
 refine wpAnyH_ready (rs:=[14]) (by kernel_rfl) (by simp) ?_;refine AllReadyH.cons rfl (fun K hK=>?_) AllReadyH.nil;go_simp;refine (HM2.out _).mono ?_;rintro e w1 ⟨rfl,hb1⟩;go_wp2_with fail;refine hK.out _ _ ?_ (fun hHeld=>?_)
 ·exact HK.out _ _ (by assumption) hb1
 clear hK K
 try simp only[Act.put,tk1,tk2,tk3,tk4,tk5,tk6]
 refine wpAnyH_ready (rs:=[15]) (by kernel_rfl) (by simp) ?_;refine AllReadyH.cons rfl (fun K hK=>?_) AllReadyH.nil;go_simp;refine (HLW.out _).mono ?_;rintro e w1 ⟨rfl,hb1⟩;go_wp2_with fail;refine hK.out _ _ ?_ (fun hHeld=>?_)
 ·exact HK.out _ _ (by assumption) hb1
 clear hK K
 try simp only[Act.put,tk1,tk2,tk3,tk4,tk5,tk6]
 obtain⟨q0,q1,⟨c0,c1,c2,q2⟩,q3,q4⟩:=hHeld;have hr9:=q2.cells;have hf9:=q2.froz;refine wpAnyH_ready (rs:=[16]) (by kernel_rfl) (by simp) ?_;refine AllReadyH.cons rfl (fun K hK=>?_) AllReadyH.nil;go_simp;go_wp2_with fail;refine hK.out _ _ ?_ (fun _=>?_)
 ·have x2:=((q2.set 0 (.bool false)).set 1 (.string N1)).set 2 (.string N2);refine⟨fun i=>?_,fun i=>?_,⟨_,_,_,x2⟩,?_,below_at q4 (by omega) _ _ _⟩
  ·exact (cell_other3 _ _ _ _ (by omega) i).trans (q0 i)
  ·exact (cell_other3 _ _ _ _ (by omega) i).trans (q1 i)
  ·simp only[World.size_setCell];exact q3
 clear hK K
 try simp only[Act.put,tk1,tk2,tk3,tk4,tk5,tk6]
 refine tkY 17 ?_ rfl ?_ ?_;rotate_left
 ·intro w hSw;(try dsimp only at hSw);go_simp
  all_goals with_reducible rfl
 try simp only[Act.put,tk1,tk2,tk3,tk4,tk5,tk6]
 refine wpAnyH_done (by kernel_rfl) ?_ _;refine NoPanic.normal ?_;have HB9:=Lib.hid q4;clear q0 q1 q3 q4 HK HS;go_wp2;refine bodyPost_ret (v:=.tuple #[.agg #[.bool false,.string N1,.string N2],.bool true]) (by simp[results,Tryz.results36,go_sem,hr9]) rfl ⟨rfl,?_⟩;rw[←HB.out];exact below_at HB9.out (by omega) _ _ _
end Go.Proofs.YtbicehdehiakgaaGreatDoor
