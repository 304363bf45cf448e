/- A part of the proof: Eh Ei P1 P2 P3 Ej. -/
import Derived.Handy
import Derived.Test.YtmmbjngbeiokeaaGreatDoorF01
import Derived.Test.YtmmbjngbeiokeaaGreatDoorF22
set_option linter.unusedVariables false
set_option linter.unusedSimpArgs false
set_option maxRecDepth 100000
set_option maxHeartbeats 40000000
namespace Go.Proofs.YtmmbjngbeiokeaaGreatDoor
open Go.RowKit
theorem ofNat_toNat (n:Nat) (h:n<256):(UInt8.ofNat n).toNat=n:=by simp;omega
def numL:List UInt8:=[45,47,48,49,50,51,52,53,54,55,56,57]
def spanW (cs s:List UInt8):List UInt8:=s.takeWhile (cs.contains ·)
def spanR (cs s:List UInt8):List UInt8:=s.dropWhile (cs.contains ·)
theorem span_eq (cs s:List UInt8):spanW cs s++spanR cs s=s:=List.takeWhile_append_dropWhile
def litL:List UInt8:=[45,48,49,50,51,52,53,54,55,56,57]
def nd (op:Int) (a:Ra) (nm:List UInt8):Nd:=⟨op,a,⟨nm.toArray⟩⟩
def numA (s:List UInt8):Option (Ra × List UInt8):=
 if (ratParse ⟨(spanW numL s).toArray⟩).2 then some ((ratParse ⟨(spanW numL s).toArray⟩).1,spanR numL s) else none
def litA (s:List UInt8):Option (Option (Nd × List UInt8)):=
 if Lib.hasPrefix s [36] then (numA (s.drop 1)).map fun q=>some (nd 1 q.1 [],q.2)
 else if s.isEmpty|| !(litL.contains (s.headD 0)) then some none
 else (numA s).map fun q=>if Lib.hasPrefix q.2 [100] then some (nd 2 q.1 [],q.2.drop 1) else some (nd 3 q.1 [],q.2)
abbrev PS:=List UInt8 × List Nd × Nat
def sepW (k:Nat):List UInt8:=if k=0 then [40] else [44,32]
def opsA (p:List UInt8→List Nd→Nat→Option PS):Nat→Nat→List UInt8→List Nd→Nat→Option PS
 |0,_,s,ns,b=>some (s,ns,b)
 |m+1,k,s,ns,b=>if Lib.hasPrefix s (sepW k) then (p (s.drop (sepW k).length) ns b).bind fun q=>opsA p m (k+1) q.1 q.2.1 q.2.2 else none
def yesL:List UInt8:=[121,101,115]
def noL:List UInt8:=[110,111]
def stpA (y:Bool) (s:List UInt8):Option (Ra × List UInt8):=
 if y then (if Lib.hasPrefix s [91] then (numA (s.drop 1)).bind fun q=>if Lib.hasPrefix q.2 [93] then some (q.1,q.2.drop 1) else none else none) else some (zR,s)
def dotA (s:List UInt8):List UInt8 × List UInt8:=
 if Lib.hasPrefix (spanR lettersL s) [46] then (spanW lettersL s++[46],(spanR lettersL s).drop 1) else (spanW lettersL s,spanR lettersL s)
def tailA (p:List UInt8→List Nd→Nat→Option PS) (k:Int) (s:List UInt8) (ns:List Nd) (b:Nat):Option PS:=
 (stpA (shp k).stp (if (shp k).nam then spanR namesL s else s)).bind fun q=>
 (opsA p (shp k).ops 0 q.2 ns b).bind fun t=>
 if 0<(shp k).ops then (if Lib.hasPrefix t.1 [41] then some (t.1.drop 1,t.2.1++[nd k q.1 (if (shp k).nam then spanW namesL s else [])],t.2.2) else none)
 else some (t.1,t.2.1++[nd k q.1 (if (shp k).nam then spanW namesL s else [])],t.2.2)
def parA:Nat→List UInt8→List Nd→Nat→Option PS
 |0,_,_,_=>none
 |f+1,s,ns,b=>
  if 60<b+1 then none else
  (litA s).bind fun
    |some q=>some (q.2,ns++[q.1],b+1)
    |none=>
     if spanW lettersL s=yesL then some (spanR lettersL s,ns++[nd 4 (ofI 1) []],b+1)
     else if spanW lettersL s=noL then some (spanR lettersL s,ns++[nd 4 (ofI 0) []],b+1)
     else if placeOf ⟨(dotA s).1.toArray⟩<0 then none
     else tailA (parA f) (placeOf ⟨(dotA s).1.toArray⟩) (dotA s).2 ns (b+1)
def parseA (s:List UInt8):Option (List Nd):=
 (parA 61 s [] 0).bind fun q=>if checkE q.2.1=0∧textE q.2.1=s then some q.2.1 else none
def sepT:Nat→List (List Nd)→List UInt8
 |_,[]=>[]
 |k,a::cs=>sepW k++textE a++sepT (k+1) cs
theorem sepT_join (cs:List (List Nd)) (k:Nat) (hk:k≠0):sepT k cs=cs.flatMap fun a=>[44,32]++textE a:=by
 induction cs generalizing k with
 |nil=>rfl
 |cons a cs ih=>rw[sepT,ih (k+1) (by omega),List.flatMap_cons,sepW,if_neg hk]
theorem joinC_flat (a:List UInt8) (l:List (List UInt8)):joinC (a::l)=a++l.flatMap fun x=>[44,32]++x:=by
 induction l generalizing a with
 |nil=>simp[joinC]
 |cons x l ih=>
  have:joinC (a::x::l)=a++[44,32]++joinC (x::l):=rfl;rw[this,ih x,List.flatMap_cons];simp
theorem sepT_zero (cs:List (List Nd)) (h:cs≠[]):sepT 0 cs=[40]++joinC (cs.map textE):=by
 cases cs with
 |nil=>exact absurd rfl h
 |cons a cs=>
  rw[sepT,sepT_join _ _ (by omega),List.map_cons,joinC_flat,List.flatMap_map];simp[sepW]
theorem wrongN_parts {n:Nd} (h:wrongN n=0):1≤n.op∧n.op≤24∧((shp n.op).nam=false→n.name=⟨#[]⟩)∧numOk n=true∧((shp n.op).nam=true→nameB n.name.data.toList=true):=by
 unfold wrongN at h;split at h
 ·cases h
 ·next h1=>
  have h1':=fun x=>h1 (.inl x)
  have h2':=fun x=>h1 (.inr (.inl x))
  refine⟨by omega,by omega,fun hn=>Classical.byContradiction fun hh=>h1 (.inr (.inr (.inl ⟨hn,hh⟩))),?_,?_⟩
  ·cases hk:numOk n
   ·exact absurd (.inr (.inr (.inr hk))) h1
   ·rfl
  ·intro hn;rw[hn] at h;cases hb:nameB n.name.data.toList
   ·rw[hb] at h;simp at h
   ·rfl
theorem Ex.len (k:Nat):∀e,Ex k e→Ex e.length e:=by
 induction k with
 |zero=>intro e h;exact h.elim
 |succ k ih=>
  rintro e ⟨cs,n,rfl,hn,hl,ha⟩;rw[List.length_append,List.length_singleton];refine⟨cs,n,rfl,hn,hl,fun a hm=>(ih a (ha a hm)).mono ?_⟩;exact (List.sublist_flatten_of_mem hm).length_le
theorem checkE_ex {e:List Nd} (h:checkE e=0):Ex 61 e:=by
 obtain⟨h1,k,hk⟩:=(checkE_iff e).1 h;exact (hk.len k e).mono (by omega)
def lc (l:List UInt8):List Value:=l.map fun b=>.int .u8 b.toNat
theorem lc_app (a b:List UInt8):lc (a++b)=lc a++lc b:=List.map_append
theorem lc_len (a:List UInt8):(lc a).length=a.length:=List.length_map _
structure Sub (e:List Nd) (args:List (List Nat)) (o:Nat) (a:List Nd):Prop where
 node:∀i,i<a.length→e[o+i]?=a[i]?
 args:∀i,i<a.length→args[o+i]?=(runA a o [])[i]?
theorem flatA_length (o:Nat) (cs:List (List Nd)):(flatA o cs).length=cs.flatten.length:=by
 induction cs generalizing o with
 |nil=>rfl
 |cons a cs ih=>rw[flatA,List.length_append,runA_length,ih,List.flatten_cons,List.length_append]
theorem flatA_append (o:Nat) (cs ds:List (List Nd)):flatA o (cs++ds)=flatA o cs++flatA (o+cs.flatten.length) ds:=by
 induction cs generalizing o with
 |nil=>rfl
 |cons a cs ih=>rw[List.cons_append,flatA,flatA,ih,List.flatten_cons,List.length_append,List.append_assoc,Nat.add_assoc]
theorem roots_append (o:Nat) (cs ds:List (List Nd)):roots o (cs++ds)=roots o cs++roots (o+cs.flatten.length) ds:=by
 induction cs generalizing o with
 |nil=>rfl
 |cons a cs ih=>rw[List.cons_append,roots,roots,ih,List.flatten_cons,List.length_append,List.cons_append,Nat.add_assoc]
theorem Sub.root {e:List Nd} {args:List (List Nat)} {o k:Nat} {cs:List (List Nd)} {n:Nd} (h:Sub e args o (cs.flatten++[n])) (hl:cs.length=(shp n.op).ops) (ha:∀a∈cs,Ex k a):
  e[o+cs.flatten.length]?=some n∧args[o+cs.flatten.length]?=some (roots o cs):=by
 refine⟨?_,?_⟩
 ·rw[h.node _ (by simp),List.getElem?_append_right (Nat.le_refl _)];simp
 ·rw[h.args _ (by simp),argsAt_node hl ha,List.getElem?_append_right (by rw[flatA_length];exact Nat.le_refl _),flatA_length];simp
theorem Sub.child {e:List Nd} {args:List (List Nat)} {o k:Nat} {cs ds:List (List Nd)} {c:List Nd} {n:Nd} (h:Sub e args o ((cs++c::ds).flatten++[n])) (hl:(cs++c::ds).length=(shp n.op).ops) (ha:∀a∈cs++c::ds,Ex k a):
  Sub e args (o+cs.flatten.length) c:=by
 have hf:(cs++c::ds).flatten++[n]=cs.flatten++(c++(ds.flatten++[n])):=by simp
 have hlen:∀i,i<c.length→cs.flatten.length+i<((cs++c::ds).flatten++[n]).length:=fun i hi=>by rw[hf];simp;omega
 refine⟨fun i hi=>?_,fun i hi=>?_⟩
 ·rw[Nat.add_assoc,h.node _ (hlen i hi),hf,List.getElem?_append_right (by omega),Nat.add_sub_cancel_left,List.getElem?_append_left hi]
 ·rw[Nat.add_assoc,h.args _ (hlen i hi),argsAt_node hl ha,flatA_append,flatA,List.append_assoc,List.append_assoc,List.getElem?_append_right (by rw[flatA_length];omega),flatA_length,Nat.add_sub_cancel_left,
   List.getElem?_append_left (by rw[runA_length];exact hi)]
theorem roots_get (o:Nat) (cs ds:List (List Nd)) (c:List Nd):(roots o (cs++c::ds))[cs.length]?=some (o+cs.flatten.length+c.length-1):=by
 rw[roots_append,List.getElem?_append_right (by rw[roots_length];exact Nat.le_refl _),roots_length,Nat.sub_self];rfl
theorem Sub.whole {e:List Nd}:Sub e (argsE e) 0 e:=⟨fun i _=>by rw[Nat.zero_add],fun i _=>by rw[Nat.zero_add];rfl⟩
theorem textE_len (k:Nat):∀a:List Nd,Ex k a→(∀n∈a,Fine n)→(textE a).length+2≤7000002*a.length:=by
 induction k with
 |zero=>intro a h;exact h.elim
 |succ k ih=>
  rintro a ⟨cs,n,rfl,hn,hl,ha⟩ hf;rw[textE_node hl ha];have h1:=txt_len hn (hf n (by simp)) (cs.map textE)
  have h2:∀ds:List (List Nd),(∀a∈ds,Ex k a)→(∀n∈ds.flatten,Fine n)→((ds.map textE).map List.length).sum+2*ds.length≤7000002*ds.flatten.length:=by
   intro ds
   induction ds with
   |nil=>intro _ _;simp
   |cons d ds ihd=>
    intro ha hf;have h3:=ih d (ha d (by simp)) (fun n hn=>hf n (by simp[hn]));have h4:=ihd (fun a h=>ha a (by simp[h])) (fun n hn=>hf n (by simp only[List.flatten_cons,List.mem_append];exact .inr hn));simp only[List.map_cons,List.sum_cons,List.length_cons,List.flatten_cons,List.length_append]
    omega
  have h5:=h2 cs ha (fun n hn=>hf n (by simp only[List.mem_append];exact .inl hn));rw[List.length_map] at h1;rw[List.length_append,List.length_singleton];omega
structure BF (b:Nat) (w w':World):Prop where
 size:w.heap.size≤w'.heap.size
 keep:∀k cs t fr,w.heap[k]?=some (.cells cs t fr)→t≠5→k≠b→w'.heap[k]?=some (.cells cs t fr)
theorem BF.refl (b:Nat) (w:World):BF b w w:=⟨Nat.le_refl _,fun _ _ _ _ h _ _=>h⟩
theorem BF.trans {b:Nat} {w w' w'':World} (h:BF b w w') (k:BF b w' w''):BF b w w'':=⟨Nat.le_trans h.size k.size,fun i cs t fr hi ht hb=>k.keep i cs t fr (h.keep i cs t fr hi ht hb) ht hb⟩
theorem lt_of_some {w:World} {k:Nat} {x:Obj} (h:w.heap[k]?=some x):k<w.heap.size:=(Array.getElem?_eq_some_iff.1 h).1
theorem BF.of_below {b:Nat} {w w':World} (h:Below w.heap.size w w'):BF b w w':=⟨h.size,fun k cs t fr hk _ _=>(h.block k (lt_of_some hk)).trans hk⟩
theorem BF.set {b:Nat} {w w':World} (h:BF b w w') (i:Nat) (u:Value):BF b w (w'.setCell ⟨b,i,none⟩ u):=
 ⟨by simpa [World.setCell] using h.size,fun k cs t fr hk ht hb=>(Below.heap_setCell w' _ u k (by show k≠b;exact hb)).trans (h.keep k cs t fr hk ht hb)⟩
theorem BF.blk {b k:Nat} {w w':World} {t:TypeId} {cs:List Value} (h:BF b w w') (hk:Blk w k t cs) (ht:t≠5) (hb:k≠b):Blk w' k t cs:=h.keep k _ _ _ hk ht hb
theorem BF.grown {b B n:Nat} {w w':World} {v:Value} {xs:List Value} (hown:w.ownsRow B 5 1 v n xs) (hg:w.grownBy w' v.ownBlock):BF b w w':=by
 refine⟨hg.size,fun k cs t fr hk ht _=>(hg.block k (lt_of_some hk) ?_).trans hk⟩;intro he;rcases hown.2 with⟨rfl,_⟩|⟨g,cap,cur,rfl,_,hh,_⟩
 ·cases he
 ·have:k=g:=by simpa [Value.ownBlock] using he
  subst this;rw[hk] at hh;injection hh with hh;injection hh with _ h2;exact ht h2
theorem cc_bf (B b:Nat) (bs:List Value) (w:World) (h:Lib.IsBuilder 69 5 B b bs w):
  Calls Tryz.prog 131 #[.pointer (some ⟨b,0,none⟩)] w fun e w'=>e=.returned (.tuple #[])∧(Lib.BuilderAt 69 5 B b (.pointer (some ⟨b,0,none⟩)) bs w'∧Below B w w'∧BF b w w'):=by
 rcases h with h|h
 ·refine (cc_fresh b w h.cell0 h.shape h.frozen0).mono ?_;rintro e w' ⟨rfl,rfl⟩;exact⟨rfl,h.used _,(Below.refl B w).setCell (p:=⟨b,0,none⟩) h.1 _,(BF.refl b w).set 0 _⟩
 ·refine (cc_used b w h.cell0).mono ?_;rintro e w' ⟨rfl,rfl⟩;exact⟨rfl,h,Below.refl B _,BF.refl b _⟩
theorem wrs_bf (B b:Nat) (bs:List Value) (s:ByteArray) (w:World) (h:Lib.IsBuilder 69 5 B b bs w) (hlen:bs.length+s.size≤140737488355328) (hBw:B≤w.heap.size):
  Calls Tryz.prog 95 #[.pointer (some ⟨b,0,none⟩),.string s] w fun e w'=>e=.returned (.tuple #[.int .i64 s.size,.nilIface])∧(Lib.BuilderAt 69 5 B b (.pointer (some ⟨b,0,none⟩)) (bs++lc s.data.toList) w'∧Below B w w'∧BF b w w'):=by
 obtain⟨i0,hi,hz0,hz1,hz2⟩:=info_parts (show (Tryz.prog.info? 5).map (fun i=>(i.zero,i.size,i.bytes))=some (some (.int .u8 0),1,1) by kernel_rfl);have HC:=zH (cc_bf B b bs w h);go_enter Tryz.func95,Tryz.ntmps95;go_wp2_with fail;refine HC.out.mono ?_;rintro e w1 ⟨rfl,h1,hb1,hf1⟩;obtain⟨hB,v,hbk,hown,hne⟩:=h1;have c0:w1.cell? ⟨b,0,none⟩=some (.pointer (some ⟨b,0,none⟩)):=by rw[Lib.cell_of_heap hbk];rfl
 have c1:w1.cell? ⟨b,1,none⟩=some v:=by rw[Lib.cell_of_heap hbk];rfl
 go_wp2_with (at_builtin;refine Lib.wpList_append_own_string _ rfl _ _ 67 9 rfl B 5 i0 Tryz.underlying67 Tryz.underlying9 hi hz0 hz1 hz2 _ _ _ rfl hown s rfl ?c3 ?c4 ?c5 ?_)
 case c3=>unfold maxLen;omega
 case c4=>omega
 case c5=>have:=hb1.size;omega
 intro v' w2 hown' hgrow _
 have hlt:b<w1.heap.size:=by
  rcases Nat.lt_or_ge b w1.heap.size with h'|h'
  ·exact h'
  ·simp[Array.getElem?_eq_none h'] at hbk
 have hb2:w2.heap[b]?=some (.cells #[.pointer (some ⟨b,0,none⟩),v] 69 (0,0)):=by
  rw[hgrow.block b hlt (fun e=>hne e.symm)];exact hbk
 have d0:w2.cell? ⟨b,0,none⟩=some (.pointer (some ⟨b,0,none⟩)):=by rw[Lib.cell_of_heap hb2];rfl
 have d1:w2.cell? ⟨b,1,none⟩=some v:=by rw[Lib.cell_of_heap hb2];rfl
 have f1:w2.frozen? ⟨b,1,none⟩=false:=Lib.frozen_of_heap hb2 1;have HF:Hid (BF b w w2):=hf1.trans (BF.grown hown hgrow);clear hf1
 obtain⟨ao,n',cap,rfl⟩:∃ao n' cap,v'=.slice ao n' cap:=by
  rcases hown'.2 with⟨hv,_⟩|⟨g,cap,cur,hv,_⟩
  ·exact⟨_,_,_,hv⟩
  ·exact⟨_,_,_,hv⟩
 go_wp2;go_ret2;refine⟨rfl,?_,?_,HF.out.set 1 _⟩
 ·exact Lib.BuilderAt.put (T:=69) (e:=5) hB hb2 (bs':=bs++lc s.data.toList) (by simpa [Lib.strCells_length,lc,Lib.strCells] using hown') (by decide)
 ·exact (hb1.grown hgrow (by have:=hb1.size;omega) (fun k hk=>(hown.lt k hk).1)).setCell (p:=⟨b,1,none⟩) hB _
end Go.Proofs.YtmmbjngbeiokeaaGreatDoor
