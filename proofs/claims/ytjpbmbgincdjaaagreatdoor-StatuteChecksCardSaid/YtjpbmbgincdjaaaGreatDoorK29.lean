/- Part: P1 P2 P3 Ej Ek El Em Eo Tg Ep. -/
import Derived.Test.YtjpbmbgincdjaaaGreatDoorK27
import Derived.Test.YtjpbmbgincdjaaaGreatDoorK28
set_option linter.all false
set_option maxRecDepth 100000
set_option maxHeartbeats 0
namespace Go.Proofs.YtjpbmbgincdjaaaGreatDoor
open Go.RowKit List World Tryz
theorem ofNat_toNat (n:Nat) (h:n<256):(UInt8.ofNat n).toNat=n:=by simp;omega
def zh:List UInt8:=[45,47,48,49,50,51,52,53,54,55,56,57]
def gu (cs s:List UInt8):List UInt8:=s.takeWhile (cs.contains ·)
def jc (cs s:List UInt8):List UInt8:=s.dropWhile (cs.contains ·)
theorem aec (cs s:List UInt8):gu cs s++jc cs s=s:=takeWhile_append_dropWhile
def IY:List UInt8:=[45,48,49,50,51,52,53,54,55,56,57]
def nd (op:Int) (a:Ra) (nm:List UInt8):Nd:=⟨op,a,⟨nm.toArray⟩⟩
def jE (s:List UInt8):Option (Ra × List UInt8):=
 if (fG ⟨(gu zh s).toArray⟩).2 then some ((fG ⟨(gu zh s).toArray⟩).1,jc zh s) else none
def zl (s:List UInt8):Option (Option (Nd × List UInt8)):=
 if Lib.hasPrefix s [36] then (jE (s.drop 1)).map fun q=>some (nd 1 q.1 [],q.2)
 else if s.isEmpty|| !(IY.contains (s.headD 0)) then some none
 else (jE s).map fun q=>if Lib.hasPrefix q.2 [100] then some (nd 2 q.1 [],q.2.drop 1) else some (nd 3 q.1 [],q.2)
abbrev PS:=List UInt8 × List Nd × Nat
def l7 (k:Nat):List UInt8:=if k=0 then [40] else [44,32]
def wE (p:List UInt8->List Nd->Nat->Option PS):Nat->Nat->List UInt8->List Nd->Nat->Option PS
 |0,_,s,ns,b=>some (s,ns,b)
 |m+1,k,s,ns,b=>if Lib.hasPrefix s (l7 k) then (p (s.drop (l7 k).length) ns b).bind fun q=>wE p m (k+1) q.1 q.2.1 q.2.2 else none
def Vy:List UInt8:=[121,101,115]
def noL:List UInt8:=[110,111]
def zo (y:Bool) (s:List UInt8):Option (Ra × List UInt8):=
 if y then (if Lib.hasPrefix s [91] then (jE (s.drop 1)).bind fun q=>if Lib.hasPrefix q.2 [93] then some (q.1,q.2.drop 1) else none else none) else some (zR,s)
def kY (s:List UInt8):List UInt8 × List UInt8:=
 if Lib.hasPrefix (jc dF s) [46] then (gu dF s++[46],(jc dF s).drop 1) else (gu dF s,jc dF s)
def tailA (p:List UInt8->List Nd->Nat->Option PS) (k:Int) (s:List UInt8) (ns:List Nd) (b:Nat):Option PS:=
 (zo (aG k).fQ (if (aG k).eH then jc jm s else s)).bind fun q=>
 (wE p (aG k).ops 0 q.2 ns b).bind fun t=>
 if 0<(aG k).ops then (if Lib.hasPrefix t.1 [41] then some (t.1.drop 1,t.2.1++[nd k q.1 (if (aG k).eH then gu jm s else [])],t.2.2) else none)
 else some (t.1,t.2.1++[nd k q.1 (if (aG k).eH then gu jm s else [])],t.2.2)
def nY:Nat->List UInt8->List Nd->Nat->Option PS
 |0,_,_,_=>none
 |f+1,s,ns,b=>
  if 60<b+1 then none else
  (zl s).bind fun
    |some q=>some (q.2,ns++[q.1],b+1)
    |none=>
     if gu dF s=Vy then some (jc dF s,ns++[nd 4 (aK 1) []],b+1)
     else if gu dF s=noL then some (jc dF s,ns++[nd 4 (aK 0) []],b+1)
     else if placeOf ⟨(kY s).1.toArray⟩<0 then none
     else tailA (nY f) (placeOf ⟨(kY s).1.toArray⟩) (kY s).2 ns (b+1)
def Yn (s:List UInt8):Option (List Nd):=
 (nY 61 s [] 0).bind fun q=>if aX q.2.1=0/\textE q.2.1=s then some q.2.1 else none
def iq:Nat->List (List Nd)->List UInt8
 |_,[]=>[]
 |k,a::cs=>l7 k++textE a++iq (k+1) cs
theorem Yo (cs:List (List Nd)) (k:Nat) (hk:k≠0):iq k cs=cs.flatMap fun a=>[44,32]++textE a:=by
 induction cs generalizing k with
 |nil=>rfl
 |cons a cs ih=>rw[iq,ih (k+1) (by omega),flatMap_cons,l7,if_neg hk]
theorem Vz (a:List UInt8) (l:List (List UInt8)):iI (a::l)=a++l.flatMap fun x=>[44,32]++x:=by
 induction l generalizing a with
 |nil=>simp[iI]
 |cons x l ih=>
  have:iI (a::x::l)=a++[44,32]++iI (x::l):=rfl;rw[this,ih x,flatMap_cons];simp
theorem Yp (cs:List (List Nd)) (h:cs≠[]):iq 0 cs=[40]++iI (cs.map textE):=by
 cases cs with
 |nil=>exact absurd rfl h
 |cons a cs=>
  rw[iq,Yo _ _ (by omega),map_cons,Vz,flatMap_map];simp[l7]
theorem wF {n:Nd} (h:aQ n=0):1<=n.op/\n.op<=24/\((aG n.op).eH=false->n.name=⟨#[]⟩)/\iC n=true/\((aG n.op).eH=true->nameB n.name.data.toList=true):=by
 unfold aQ at h;split at h
 ·cases h
 ·next h1=>
  have h1':=fun x=>h1 (.inl x)
  have h2':=fun x=>h1 (.inr (.inl x))
  refine⟨by omega,by omega,fun hn=>Classical.byContradiction fun hh=>h1 (.inr (.inr (.inl ⟨hn,hh⟩))),?_,?_⟩
  ·cases hk:iC n
   ·exact absurd (.inr (.inr (.inr hk))) h1
   ·rfl
  ·intro hn;rw[hn] at h;cases hb:nameB n.name.data.toList
   ·rw[hb] at h;simp at h
   ·rfl
theorem Ex.len (k:Nat):∀e,Ex k e->Ex e.length e:=by
 induction k with
 |zero=>intro e h;exact h.elim
 |succ k ih=>
  rintro e ⟨cs,n,rfl,hn,hl,ha⟩;rw[length_append,length_singleton];refine⟨cs,n,rfl,hn,hl,fun a hm=>(ih a (ha a hm)).mono ?_⟩;exact (sublist_flatten_of_mem hm).length_le
theorem Kr {e:List Nd} (h:aX e=0):Ex 61 e:=by
 obtain⟨h1,k,hk⟩:=(oZ e).1 h;exact (hk.len k e).mono (by omega)
def lc (l:List UInt8):List Value:=l.map fun b=>.int .u8 b.toNat
theorem Yq (a b:List UInt8):lc (a++b)=lc a++lc b:=map_append
theorem Ot (a:List UInt8):(lc a).length=a.length:=length_map _
structure Sub (e:List Nd) (args:List (List Nat)) (o:Nat) (a:List Nd):Prop where
 node:∀i,i<a.length->e[o+i]?=a[i]?
 args:∀i,i<a.length->args[o+i]?=(ig a o [])[i]?
theorem rE (o:Nat) (cs:List (List Nd)):(oz o cs).length=cs.flatten.length:=by
 induction cs generalizing o with
 |nil=>rfl
 |cons a cs ih=>rw[oz,length_append,lZ,ih,flatten_cons,length_append]
theorem Ou (o:Nat) (cs ds:List (List Nd)):oz o (cs++ds)=oz o cs++oz (o+cs.flatten.length) ds:=by
 induction cs generalizing o with
 |nil=>rfl
 |cons a cs ih=>rw[cons_append,oz,oz,ih,flatten_cons,length_append,append_assoc,Nat.add_assoc]
theorem Ov (o:Nat) (cs ds:List (List Nd)):roots o (cs++ds)=roots o cs++roots (o+cs.flatten.length) ds:=by
 induction cs generalizing o with
 |nil=>rfl
 |cons a cs ih=>rw[cons_append,roots,roots,ih,flatten_cons,length_append,cons_append,Nat.add_assoc]
theorem Sub.root {e:List Nd} {args:List (List Nat)} {o k:Nat} {cs:List (List Nd)} {n:Nd} (h:Sub e args o (cs.flatten++[n])) (hl:cs.length=(aG n.op).ops) (ha:∀a∈cs,Ex k a):
  e[o+cs.flatten.length]?=some n/\args[o+cs.flatten.length]?=some (roots o cs):=by
 refine⟨?_,?_⟩
 ·rw[h.node _ (by simp),getElem?_append_right (Nat.le_refl _)];simp
 ·rw[h.args _ (by simp),DZ hl ha,getElem?_append_right (by rw[rE];exact Nat.le_refl _),rE];simp
theorem Sub.child {e:List Nd} {args:List (List Nat)} {o k:Nat} {cs ds:List (List Nd)} {c:List Nd} {n:Nd} (h:Sub e args o ((cs++c::ds).flatten++[n])) (hl:(cs++c::ds).length=(aG n.op).ops) (ha:∀a∈cs++c::ds,Ex k a):
  Sub e args (o+cs.flatten.length) c:=by
 have hf:(cs++c::ds).flatten++[n]=cs.flatten++(c++(ds.flatten++[n])):=by simp
 have hlen:∀i,i<c.length->cs.flatten.length+i<((cs++c::ds).flatten++[n]).length:=fun i hi=>by rw[hf];simp;omega
 refine⟨fun i hi=>?_,fun i hi=>?_⟩
 ·rw[Nat.add_assoc,h.node _ (hlen i hi),hf,getElem?_append_right (by omega),Nat.add_sub_cancel_left,getElem?_append_left hi]
 ·rw[Nat.add_assoc,h.args _ (hlen i hi),DZ hl ha,Ou,oz,append_assoc,append_assoc,getElem?_append_right (by rw[rE];omega),rE,Nat.add_sub_cancel_left,
   getElem?_append_left (by rw[lZ];exact hi)]
theorem Yr (o:Nat) (cs ds:List (List Nd)) (c:List Nd):(roots o (cs++c::ds))[cs.length]?=some (o+cs.flatten.length+c.length-1):=by
 rw[Ov,getElem?_append_right (by rw[oJ];exact Nat.le_refl _),oJ,Nat.sub_self];rfl
theorem Sub.whole {e:List Nd}:Sub e (iZ e) 0 e:=⟨fun i _=>by rw[Nat.zero_add],fun i _=>by rw[Nat.zero_add];rfl⟩
theorem Kt (k:Nat):∀a:List Nd,Ex k a->(∀n∈a,Fine n)->(textE a).length+2<=7000002*a.length:=by
 induction k with
 |zero=>intro a h;exact h.elim
 |succ k ih=>
  rintro a ⟨cs,n,rfl,hn,hl,ha⟩ hf;rw[Gx hl ha];have h1:=RY hn (hf n (by simp)) (cs.map textE)
  have h2:∀ds:List (List Nd),(∀a∈ds,Ex k a)->(∀n∈ds.flatten,Fine n)->((ds.map textE).map List.length).sum+2*ds.length<=7000002*ds.flatten.length:=by
   intro ds
   induction ds with
   |nil=>intro _ _;simp
   |cons d ds ihd=>
    intro ha hf;have h3:=ih d (ha d (by simp)) (fun n hn=>hf n (by simp[hn]));have h4:=ihd (fun a h=>ha a (by simp[h])) (fun n hn=>hf n (by simp only[flatten_cons,mem_append];exact .inr hn));simp only[map_cons,sum_cons,length_cons,flatten_cons,length_append]
    omega
  have h5:=h2 cs ha (fun n hn=>hf n (by simp only[mem_append];exact .inl hn));rw[length_map] at h1;rw[length_append,length_singleton];omega
structure BF (b:Nat) (w w':World):Prop where
 size:w.heap.size<=w'.heap.size
 keep:∀k cs t fr,w.heap[k]?=some (.cells cs t fr)->t≠5->k≠b->w'.heap[k]?=some (.cells cs t fr)
theorem BF.refl (b:Nat) (w:World):BF b w w:=⟨Nat.le_refl _,fun _ _ _ _ h _ _=>h⟩
theorem BF.trans {b:Nat} {w w' w'':World} (h:BF b w w') (k:BF b w' w''):BF b w w'':=⟨Nat.le_trans h.size k.size,fun i cs t fr hi ht hb=>k.keep i cs t fr (h.keep i cs t fr hi ht hb) ht hb⟩
theorem lt_of_some {w:World} {k:Nat} {x:Obj} (h:w.heap[k]?=some x):k<w.heap.size:=(Array.getElem?_eq_some_iff.1 h).1
theorem BF.of_below {b:Nat} {w w':World} (h:Below w.heap.size w w'):BF b w w':=⟨h.size,fun k cs t fr hk _ _=>(h.block k (lt_of_some hk)).trans hk⟩
theorem BF.set {b:Nat} {w w':World} (h:BF b w w') (i:Nat) (u:Value):BF b w (w'.setCell ⟨b,i,none⟩ u):=
 ⟨by simpa [World.setCell] using h.size,fun k cs t fr hk ht hb=>(Below.heap_setCell w' _ u k (by show k≠b;exact hb)).trans (h.keep k cs t fr hk ht hb)⟩
theorem BF.blk {b k:Nat} {w w':World} {t:TypeId} {cs:List Value} (h:BF b w w') (hk:aj w k t cs) (ht:t≠5) (hb:k≠b):aj w' k t cs:=h.keep k _ _ _ hk ht hb
theorem BF.grown {b B n:Nat} {w w':World} {v:Value} {xs:List Value} (hown:w.ownsRow B 5 1 v n xs) (hg:w.grownBy w' v.ownBlock):BF b w w':=by
 refine⟨hg.size,fun k cs t fr hk ht _=>(hg.block k (lt_of_some hk) ?_).trans hk⟩;intro he;rcases hown.2 with⟨rfl,_⟩|⟨g,cap,cur,rfl,_,hh,_⟩
 ·cases he
 ·have:k=g:=by simpa [Value.ownBlock] using he
  subst this;rw[hk] at hh;injection hh with hh;injection hh with _ h2;exact ht h2
theorem aiJ (B b:Nat) (bs:List Value) (w:World) (h:Lib.IsBuilder 93 5 B b bs w):
  Calls prog 205 #[.pointer (some ⟨b,0,none⟩)] w fun e w'=>e=.returned (.tuple #[])/\(Lib.BuilderAt 93 5 B b (.pointer (some ⟨b,0,none⟩)) bs w'/\Below B w w'/\BF b w w'):=by
 rcases h with h|h
 ·refine (aaO b w h.cell0 h.shape h.frozen0).mono ?_;rintro e w' ⟨rfl,rfl⟩;exact⟨rfl,h.used _,(Below.refl B w).setCell (p:=⟨b,0,none⟩) h.1 _,(BF.refl b w).set 0 _⟩
 ·refine (Sl b w h.cell0).mono ?_;rintro e w' ⟨rfl,rfl⟩;exact⟨rfl,h,Below.refl B _,BF.refl b _⟩
theorem Ox (B b:Nat) (bs:List Value) (s:ByteArray) (w:World) (h:Lib.IsBuilder 93 5 B b bs w) (hlen:bs.length+s.size<=140737488355328) (hBw:B<=w.heap.size):
  Calls prog 153 #[.pointer (some ⟨b,0,none⟩),.string s] w fun e w'=>e=.returned (.tuple #[.int .i64 s.size,.nilIface])/\(Lib.BuilderAt 93 5 B b (.pointer (some ⟨b,0,none⟩)) (bs++lc s.data.toList) w'/\Below B w w'/\BF b w w'):=by
 obtain⟨i0,hi,hz0,hz1,hz2⟩:=info_parts (show (prog.info? 5).map (fun i=>(i.zero,i.size,i.bytes))=some (some (.int .u8 0),1,1) by kernel_rfl);have HC:=zH (aiJ B b bs w h);go_enter func153,ntmps153;go_wp2_with fail;refine HC.out.mono ?_;rintro e w1 ⟨rfl,h1,hb1,hf1⟩;obtain⟨hB,v,hbk,hown,hne⟩:=h1;have c0:w1.cell? ⟨b,0,none⟩=some (.pointer (some ⟨b,0,none⟩)):=by rw[Lib.cell_of_heap hbk];rfl
 have c1:w1.cell? ⟨b,1,none⟩=some v:=by rw[Lib.cell_of_heap hbk];rfl
 go_wp2_with (at_builtin;refine Lib.wpList_append_own_string _ rfl _ _ 41 9 rfl B 5 i0 underlying41 underlying9 hi hz0 hz1 hz2 _ _ _ rfl hown s rfl ?c3 ?c4 ?c5 ?_)
 case c3=>unfold maxLen;omega
 case c4=>omega
 case c5=>have:=hb1.size;omega
 intro v' w2 hown' hgrow _
 have hlt:b<w1.heap.size:=by
  rcases Nat.lt_or_ge b w1.heap.size with h'|h'
  ·exact h'
  ·simp[Array.getElem?_eq_none h'] at hbk
 have hb2:w2.heap[b]?=some (.cells #[.pointer (some ⟨b,0,none⟩),v] 93 (0,0)):=by
  rw[hgrow.block b hlt (fun e=>hne e.symm)];exact hbk
 have d0:w2.cell? ⟨b,0,none⟩=some (.pointer (some ⟨b,0,none⟩)):=by rw[Lib.cell_of_heap hb2];rfl
 have d1:w2.cell? ⟨b,1,none⟩=some v:=by rw[Lib.cell_of_heap hb2];rfl
 have f1:w2.frozen? ⟨b,1,none⟩=false:=Lib.frozen_of_heap hb2 1;have HF:Hid (BF b w w2):=hf1.trans (BF.grown hown hgrow);clear hf1
 obtain⟨ao,n',cap,rfl⟩:∃ao n' cap,v'=.slice ao n' cap:=by
  rcases hown'.2 with⟨hv,_⟩|⟨g,cap,cur,hv,_⟩
  ·exact⟨_,_,_,hv⟩
  ·exact⟨_,_,_,hv⟩
 go_wp2;go_ret2;refine⟨rfl,?_,?_,HF.out.set 1 _⟩
 ·exact Lib.BuilderAt.put (T:=93) (e:=5) hB hb2 (bs':=bs++lc s.data.toList) (by simpa [Lib.strCells_length,lc,Lib.strCells] using hown') (by decide)
 ·exact (hb1.grown hgrow (by have:=hb1.size;omega) (fun k hk=>(hown.lt k hk).1)).setCell (p:=⟨b,1,none⟩) hB _
theorem BH {T e:TypeId} {B b:Nat} {p:Value} {bs:List Value} {w w':World} (h:Lib.BuilderAt T e B b p bs w) (hb:Below w.heap.size w w'):Lib.BuilderAt T e B b p bs w':=by
 obtain⟨h1,v,h2,h3,h4⟩:=h;exact⟨h1,v,(hb.block b (lt_of_some h2)).trans h2,own_below h3 hb,h4⟩
theorem BI {T e:TypeId} {B b:Nat} {bs:List Value} {w w':World} (h:Lib.IsBuilder T e B b bs w) (hb:Below w.heap.size w w'):Lib.IsBuilder T e B b bs w':=h.imp (fun h=>BH h hb) (fun h=>BH h hb)
theorem Yt {T e:TypeId} {B b:Nat} {bs:List Value} {w:World} (h:Lib.IsBuilder T e B b bs w):b<w.heap.size:=by
 rcases h with h|h<;>exact h.lt
theorem Yu (W:World) (r:Nat) (hr:r=W.heap.size):∃W2 W3:World,
  (Instr.mapUpdate 254 (.map (some r)) (.bool true) (.string ⟨#[121,101,115]⟩)).run prog (W.alloc (.map #[] 0))=.ok () W2/\
  (Instr.mapUpdate 254 (.map (some r)) (.bool false) (.string ⟨#[110,111]⟩)).run prog W2=.ok () W3/\
  (Instr.lookup 254 (.map (some r)) (.bool true) false).run prog W3=.ok (.string ⟨#[121,101,115]⟩) W3/\
  (Instr.lookup 254 (.map (some r)) (.bool false) false).run prog W3=.ok (.string ⟨#[110,111]⟩) W3/\Below W.heap.size W W3:=by
 subst hr;have hm:=underlying254;have hk:=underlying4;have hc:∀(x b:Bool) (w:World),(Instr.checkKey b 10000 4 (.bool x)).run prog w=.ok () w:=fun x b w=>MapKept.run_checkKey (k:=.bool x) hk (by simp[MapKept.IsKey]) b 9999
 obtain⟨W1,hW1⟩:=zE (W.alloc (.map #[] 0));have hb1:W1.heap[W.heap.size]?=some (.map #[] 0):=by rw[hW1];unfold World.alloc;simp
 have h1:(Instr.mapUpdate 254 (.map (some W.heap.size)) (.bool true) (.string ⟨#[121,101,115]⟩)).run prog W1=.ok () {W1 with heap:=W1.heap.setIfInBounds W.heap.size (.map #[{key:=.bool true,val:=.string ⟨#[121,101,115]⟩,born:=0}] 1)}:=by
  have hf:Instr.findNow .bool (.bool true) ([]:List MapEntry) 0=some none:=rfl;simp[Instr.mapUpdate,run_underlying hm,MapKept.run_getObj_map hb1,hc,MapKept.run_findKey hk hf,MapKept.run_setObj_map _ hb1,Result.andThen]
 obtain⟨W2,hW2⟩:=zE (({W1 with heap:=W1.heap.setIfInBounds W.heap.size (.map #[{key:=.bool true,val:=.string ⟨#[121,101,115]⟩,born:=0}] 1)}:World));have hb2:W2.heap[W.heap.size]?=some (.map #[{key:=.bool true,val:=.string ⟨#[121,101,115]⟩,born:=0}] 1):=by rw[hW2];show (W1.heap.setIfInBounds _ _)[_]?=_;rw[Array.getElem?_setIfInBounds,if_pos rfl,if_pos (lt_of_some hb1)]
 rw[<-hW2] at h1
 have h2:(Instr.mapUpdate 254 (.map (some W.heap.size)) (.bool false) (.string ⟨#[110,111]⟩)).run prog W2=.ok () {W2 with heap:=W2.heap.setIfInBounds W.heap.size (.map #[{key:=.bool true,val:=.string ⟨#[121,101,115]⟩,born:=0},{key:=.bool false,val:=.string ⟨#[110,111]⟩,born:=1}] 2)}:=by
  have hf:Instr.findNow .bool (.bool false) ([{key:=.bool true,val:=.string ⟨#[121,101,115]⟩,born:=0}]:List MapEntry) 0=some none:=rfl;simp[Instr.mapUpdate,run_underlying hm,MapKept.run_getObj_map hb2,hc,MapKept.run_findKey hk hf,MapKept.run_setObj_map _ hb2,Result.andThen]
 obtain⟨W3,hW3⟩:=zE (({W2 with heap:=W2.heap.setIfInBounds W.heap.size (.map #[{key:=.bool true,val:=.string ⟨#[121,101,115]⟩,born:=0},{key:=.bool false,val:=.string ⟨#[110,111]⟩,born:=1}] 2)}:World));have hb3:W3.heap[W.heap.size]?=some (.map #[{key:=.bool true,val:=.string ⟨#[121,101,115]⟩,born:=0},{key:=.bool false,val:=.string ⟨#[110,111]⟩,born:=1}] 2):=by rw[hW3];show (W2.heap.setIfInBounds _ _)[_]?=_;rw[Array.getElem?_setIfInBounds,if_pos rfl,if_pos (lt_of_some hb2)]
 rw[<-hW3] at h2;refine⟨W2,W3,by rw[<-hW1];exact h1,h2,?_,?_,?_⟩
 ·have hf:Instr.findNow .bool (.bool true) ([{key:=.bool true,val:=.string ⟨#[121,101,115]⟩,born:=0},{key:=.bool false,val:=.string ⟨#[110,111]⟩,born:=1}]:List MapEntry) 0=some (some (0,.string ⟨#[121,101,115]⟩)):=rfl;simp[Instr.lookup,run_underlying hm,MapKept.run_getObj_map hb3,hc,MapKept.run_findKey hk hf,Result.andThen]
 ·have hf:Instr.findNow .bool (.bool false) ([{key:=.bool true,val:=.string ⟨#[121,101,115]⟩,born:=0},{key:=.bool false,val:=.string ⟨#[110,111]⟩,born:=1}]:List MapEntry) 0=some (some (1,.string ⟨#[110,111]⟩)):=rfl;simp[Instr.lookup,run_underlying hm,MapKept.run_getObj_map hb3,hc,MapKept.run_findKey hk hf,Result.andThen]
 ·have ha:Below W.heap.size W W1:=by rw[hW1];exact zB _ _
  refine⟨by rw[hW3,hW2];exact ha.os,by rw[hW3,hW2];exact ha.tape,by rw[hW3,hW2];exact ha.output,by rw[hW3,hW2];simpa using ha.size,fun k hk=>?_⟩;rw[hW3,hW2];simp only[Array.getElem?_setIfInBounds]
  rw[if_neg (by omega),if_neg (by omega)];exact ha.block k hk
def Yv (n:Nd):List UInt8:=
 (aG n.op).word++n.name.data.toList++(if (aG n.op).lit then (aU n.num).data.toList else [])++(if n.op=2 then [100] else [])++(if (aG n.op).fQ then [91]++(aU n.num).data.toList++[93] else [])
theorem aed {n:Nd} (h4:n.op≠4) {cs:List (List Nd)} (hl:cs.length=(aG n.op).ops):txt n (cs.map textE)=Yv n++(iq 0 cs++(if (aG n.op).ops=0 then [] else [41])):=by
 unfold txt Yv;rw[if_neg h4];congr 1;split
 ·next h0=>
  have:cs=[]:=eq_nil_of_length_eq_zero (by omega);subst this;rfl
 ·next h0=>rw[Yp cs (by intro h;rw[h] at hl;exact h0 hl.symm)]
theorem aa0 (k:Nat) (cs:List (List Nd)) (ha:∀a∈cs,Ex k a) (hf:∀n∈cs.flatten,Fine n) (j:Nat):(iq j cs).length<=7000002*cs.flatten.length:=by
 induction cs generalizing j with
 |nil=>simp[iq]
 |cons a cs ih=>
  have h1:=Kt k a (ha a (by simp)) (fun n hn=>hf n (by simp[hn]));have h2:=ih (fun a h=>ha a (by simp[h])) (fun n hn=>hf n (by simp only[flatten_cons,mem_append];exact .inr hn)) (j+1);have h3:(l7 j).length<=2:=by unfold l7;split<;>simp
  rw[iq,flatten_cons];simp only[length_append]
  omega
theorem Yw (cs:List (List Nd)) (i:Nat) (h:i<cs.length):(cs.take i).flatten.length+(cs.getD i []).length<=cs.flatten.length:=by
 have h1:cs=cs.take i++(cs.getD i []::cs.drop (i+1)):=by
  conv=>lhs;rw[<-take_append_drop i cs,drop_eq_getElem_cons h]
  rw[getD_eq_getElem?_getD,getElem?_eq_getElem h];rfl
 conv=>rhs;rw[h1]
 simp only[flatten_append,flatten_cons,length_append];omega
structure WB (Bb b:Nat) (w0 w:World) (tot:List Value) (R:List UInt8) (X:World):Prop where
 t:∃t0,Lib.BuilderAt 93 5 Bb b (.pointer (some ⟨b,0,none⟩)) t0 X/\t0++lc R=tot
 o:Below w0.heap.size w0 X
 l:Below Bb w X
 f:BF b w X
 hB:Bb<=X.heap.size
section
variable {Bb b:Nat} {w0 w X X':World} {tot:List Value} {R R':List UInt8}
theorem WB.grow (h:WB Bb b w0 w tot R X) (hb:Below X.heap.size X X'):WB Bb b w0 w tot R X':=
 let ⟨t0,h1,h2⟩:=h.t;⟨⟨t0,BH h1 hb,h2⟩,ah h.o hb,h.l.trans (hb.mono h.hB),h.f.trans (BF.of_below hb),Nat.le_trans h.hB hb.size⟩
theorem WB.as (h:WB Bb b w0 w tot R X) (e:R=R'):WB Bb b w0 w tot R' X:=e ▸ h
theorem wbW (s:ByteArray) {t0:List Value} (h1:Lib.IsBuilder 93 5 Bb b t0 X) (h2:t0++lc (s.data.toList++R)=tot) (o:Below w0.heap.size w0 X) (l:Below Bb w X) (f:BF b w X) (hB:Bb<=X.heap.size) (ht:tot.length<=10000000000000) (h0:w0.heap.size<=Bb):
  Calls prog 153 #[.pointer (some ⟨b,0,none⟩),.string s] X fun e X'=>e=.returned (.tuple #[.int .i64 s.size,.nilIface])/\WB Bb b w0 w tot R X':=by
 have hl:=congrArg List.length h2;unfold lc at hl;rw[length_append,length_map,length_append] at hl;refine (Ox Bb b t0 s X h1 (by rw[yE];omega) hB).mono ?_;rintro e X' ⟨rfl,hx,hb,hf⟩;exact⟨rfl,⟨_,hx,by rw[<-h2];unfold lc;rw[map_append,append_assoc]⟩,o.trans (hb.mono h0),l.trans hb,f.trans hf,Nat.le_trans hB hb.size⟩
theorem WB.wr (s:ByteArray) (h:WB Bb b w0 w tot (s.data.toList++R) X) (ht:tot.length<=10000000000000) (h0:w0.heap.size<=Bb):
  Calls prog 153 #[.pointer (some ⟨b,0,none⟩),.string s] X fun e X'=>e=.returned (.tuple #[.int .i64 s.size,.nilIface])/\WB Bb b w0 w tot R X':=
 let ⟨_,h1,h2⟩:=h.t;wbW s (.inr h1) h2 h.o h.l h.f h.hB ht h0
theorem aa1 (cs:List (List Nd)) (i j:Nat):(iq j cs).length=(iq j (cs.take i)).length+(iq (j+i) (cs.drop i)).length:=by
 induction i generalizing cs j with
 |zero=>simp[iq]
 |succ i ih=>cases cs with
  |nil=>simp[iq]
  |cons a cs=>rw[take_succ_cons,drop_succ_cons,iq,iq];simp only[length_append];rw[ih cs (j+1),show j+(i+1)=j+1+i by omega];omega
theorem Yx {cs:List (List Nd)} {i:Nat} (h:i<cs.length) (R:List UInt8):iq i (cs.drop i)++R=l7 i++(textE (cs.getD i [])++(iq (i+1) (cs.drop (i+1))++R)):=by
 rw[drop_eq_getElem_cons h,iq,getD_eq_getElem?_getD,getElem?_eq_getElem h];simp
end
theorem write_any (es:List Nd) (args:List (List Nat)) (A1 A2:Option Addr) (l1 c1 l2 c2 Bb b:Nat) (w0:World) (hL:eX w0) (h1:Es w0 es A1 l1 c1) (hf1:∀n∈es,Fine n) (h2:GI w0 args A2 l2 c2)
  (hB:w0.heap.size<=Bb) (h60:l1<=60) (hag:args.length=es.length)
  (k:Nat):∀(a:List Nd),Ex k a->∀(o:Nat),Sub es args o a->∀(bs:List Value) (w:World),Below w0.heap.size w0 w->Bb<=w.heap.size->Lib.IsBuilder 93 5 Bb b bs w->bs.length+7000002*a.length<=1000000000000->
    Calls prog 158 #[.pointer (some ⟨b,0,none⟩),.slice A1 l1 c1,.slice A2 l2 c2,.int .i64 ((o+a.length-1:Nat):Int)] w fun e w'=>e=.returned (.tuple #[])/\
     (Lib.BuilderAt 93 5 Bb b (.pointer (some ⟨b,0,none⟩)) (bs++lc (textE a)) w'/\Below Bb w w'/\BF b w w'):=by
 have H1:=zH h1;have H2:=zH h2;have HL:=zH hL;have HF:=zH hf1;have hl1:=h1.len;have hl2:=h2.len;rw[hag] at hl2;clear h1 h2 hL hf1;subst hl1 hl2
 induction k with
 |zero=>intro a h;exact h.elim
 |succ k ih=>
  rintro a ⟨cs,n,rfl,hn,hl,ha⟩ o hsub bs w hbw hBw hib hlen;obtain⟨hr1,hr2⟩:=hsub.root hl ha;rw[length_append,length_singleton] at hlen⊢;obtain⟨p,hp⟩:=zF (o+cs.flatten.length);rw[show o+(cs.flatten.length+1)-1=p from by omega];rw[hp] at hr1 hr2;have hpe:p<es.length:=(List.getElem?_eq_some_iff.1 hr1).1;have hfn:Fine n:=HF.out n (mem_of_getElem? hr1)
  have hfc:∀m∈cs.flatten,Fine m:=fun m hm=>by
   obtain⟨i,hi,he⟩:=getElem_of_mem hm;have:=hsub.node i (by rw[length_append];omega);rw[getElem?_append_left hi,getElem?_eq_getElem hi,he] at this;exact HF.out m (mem_of_getElem? this)
  have HIH:Hid (∀i,i<cs.length->∀(bs':List Value) (w':World),Below w0.heap.size w0 w'->Bb<=w'.heap.size->Lib.IsBuilder 93 5 Bb b bs' w'->bs'.length+7000002*(cs.getD i []).length<=1000000000000->
    Calls prog 158 #[.pointer (some ⟨b,0,none⟩),.slice A1 es.length c1,.slice A2 es.length c2,.int .i64 (((roots o cs).getD i 0:Nat):Int)] w' fun e w''=>e=.returned (.tuple #[])/\
     (Lib.BuilderAt 93 5 Bb b (.pointer (some ⟨b,0,none⟩)) (bs'++lc (textE (cs.getD i []))) w''/\Below Bb w' w''/\BF b w' w'')):=by
   intro i hi bs' w' al2 hBw' al3 hlen';have e1:cs.getD i []=cs[i]:=by rw[getD_eq_getElem?_getD,getElem?_eq_getElem hi];rfl
   have hcs:cs=cs.take i++cs[i]::cs.drop (i+1):=by rw[<-drop_eq_getElem_cons hi,take_append_drop]
   have hli:(cs.take i).length=i:=by rw[length_take];omega
   have e2:(roots o cs).getD i 0=o+(cs.take i).flatten.length+(cs[i]).length-1:=by
    have:=Yr o (cs.take i) (cs.drop (i+1)) cs[i];rw[<-hcs,hli] at this;rw[getD_eq_getElem?_getD,this];rfl
   rw[e1] at hlen'⊢;rw[e2];refine ih cs[i] (ha _ (getElem_mem hi)) (o+(cs.take i).flatten.length) ?_ bs' w' al2 hBw' al3 hlen';refine Sub.child (k:=k) (cs:=cs.take i) (ds:=cs.drop (i+1)) (n:=n) ?_ ?_ ?_
   ·rw[<-hcs];exact hsub
   ·rw[<-hcs];exact hl
   ·rw[<-hcs];exact ha
  clear ih;have hTX:Hid (textE (cs.flatten++[n])=txt n (cs.map textE)):=Gx hl ha
  have hSL:∀i,(iq 0 (cs.take i)).length<=7000002*(cs.take i).flatten.length:=fun i=>
   aa0 k (cs.take i) (fun a h=>ha a (mem_of_mem_take h)) (fun m hm=>hfc m (by
    rw[<-take_append_drop i cs,flatten_append];exact mem_append_left _ hm)) 0
  have HSL:=zH hSL;have HFT:=zH (fun i h=>Yw cs i h);clear hsub hfc hSL;obtain⟨rows,agH,hll⟩:=H2.out.rows;obtain⟨v9,hv9,A9,c9,rfl,h91,h92,h93,_⟩:=hll.row p _ hr2;have HR9:=zH h93;have hpl2:p<args.length:=by rw[hag];exact hpe
  rw[oJ] at hv9 h91;have hpr:p<rows.length:=(List.getElem?_eq_some_iff.1 hv9).1;obtain⟨b2,off2,rfl,hb2,hc2⟩:=agH.at_ hpr;have h9:=hc2 p hpr;rw[(List.getElem?_eq_some_iff.1 hv9).2] at h9;have H9:Hid (∀w',Below w0.heap.size w0 w'->w'.cell? ⟨b2,off2+p,none⟩=some (.slice A9 cs.length c9)):=fun w' hb=>(hb.cell hb2).trans h9
  clear hc2 h9 hv9 hll agH hb2 hr2 h93;obtain⟨b1,off1,hA1,hb1,hnd⟩:=(H1.out.rd.below hbw).nd hpe;subst hA1;rw[(List.getElem?_eq_some_iff.1 hr1).2] at hnd;obtain⟨hc0,hc1,hc2,hc3,hc4⟩:=hnd;obtain⟨w1',w24,al4,GZ,_⟩:=wF hn;have Dn:=yD n.op;have yG:=Di n.op;have LH:=RQ n.op;have hol:=y5 n.op;have hnl:=EH hn;have hwl:=vZ n.op;have hts:=dJ n.num hfn.1 hfn.2;have oK:=zH (fun W hL=>jC n.num W hL hfn.1 hfn.2);have Oy:Hid (n.op≠4->textE (cs.flatten++[n])=Yv n++(iq 0 cs++(if (aG n.op).ops=0 then [] else [41]))):=fun h4=>by rw[hTX.out,aed h4 hl]
  have HD:Hid (Yv n=(aG n.op).word++n.name.data.toList++(if (aG n.op).lit then (aU n.num).data.toList else [])++(if n.op=2 then [100] else [])++(if (aG n.op).fQ then [91]++(aU n.num).data.toList++[93] else [])):=rfl
  have F8:Hid (n.op=4->(n.num=aK 0/\textE (cs.flatten++[n])=noL)∨(n.num=aK 1/\textE (cs.flatten++[n])=Vy)):=by
   intro h4;rw[hTX.out];unfold iC at GZ;rw[if_pos h4,Bool.or_eq_true,decide_eq_true_eq,decide_eq_true_eq] at GZ;unfold txt;rcases GZ with hz|hz
   ·exact .inl ⟨hz,by rw[if_pos h4,hz,if_pos (show (aK 0).num=⟨#[]⟩ from rfl)];rfl⟩
   ·exact .inr ⟨hz,by rw[if_pos h4,hz,if_neg (show ¬(aK 1).num=⟨#[]⟩ from by decide)];rfl⟩
  generalize textE (cs.flatten++[n])=TT at*;have al5:=HL.out.below hbw;clear hTX GZ al4 hn;generalize Yv n=HDT at*;generalize aU n.num=tx at*;obtain⟨op,⟨neg,num,den⟩,nm⟩:=n;simp only at hc0 hc1 hc2 hc3 hc4 w1' w24 Dn yG LH hnl hwl oK Oy HD F8 hl hol;obtain⟨q,rfl⟩:∃q:Nat,op=q:=⟨op.toNat,by omega⟩
  have hla:=al5.alloc (.cells #[.int .i64 (q:Int),.bool neg,.string num,.string den,.string nm] 104);have ht0:=hla.cell q 0 (by omega) (by omega);have ht1:=hla.cell q 1 (by omega) (by omega);have ht2:=hla.cell q 2 (by omega) (by omega);have ht3:=hla.cell q 3 (by omega) (by omega);have ht4:=hla.cell q 4 (by omega) (by omega);generalize aG (q:Int)=s at*;obtain⟨Oz,oo,lit,eH,fQ⟩:=s;simp only[Sh.cells,getElem?_cons_zero,getElem?_cons_succ,Nat.add_zero] at ht0 ht1 ht2 ht3 ht4;simp only at Dn yG LH hwl hl Oy HD hol;obtain⟨wd,hwd⟩:∃wd:ByteArray,⟨Oz.toArray⟩=wd:=⟨_,rfl⟩
  have agI:wd.data.toList=Oz:=by rw[<-hwd]
  rw[hwd] at ht0;rw[<-agI] at HD hwl;have aoT:wd.size<=7:=by rw[yE];exact hwl
  have hsz3:(tx.size:Nat)<=6291460:=hts;have hne0:b<w.heap.size:=Yt hib;clear hla hwd agI;subst hl;have al6:Hid ((iq 0 cs).length<=7000002*cs.flatten.length):=by have:=HSL.out cs.length;rwa[take_length] at this
  have HLEN:=zH hlen;have aoH:bs.length<=999993000000:=by omega
  have aoU:¬(9223372036854775807<wd.size+nm.size):=by omega
  have aoV:¬(9223372036854775807<1+tx.size):=by omega
  have aoW:¬(9223372036854775807<(⟨#[91]⟩++tx:ByteArray).size+1):=by rw[ByteArray.size_append];show ¬(_<1+tx.size+1);omega
  have aoX:¬(9223372036854775807<1+tx.size+1):=by omega
  clear hlen;by_cases h4:(q:Int)=4
  ·have e4:((q:Int)==4)=true:=by rw[h4];rfl
   have HT2:∃bx:Bool,(num.toList !=(⟨#[]⟩:ByteArray).toList)=bx/\TT=(if bx then Vy else noL):=by
    rcases F8.out h4 with⟨hz,ht⟩|⟨hz,ht⟩
    ·injection hz with z1 z2 z3;subst z2;exact⟨false,by decide+kernel,ht⟩
    ·injection hz with z1 z2 z3;subst z2;exact⟨true,by decide+kernel,ht⟩
   obtain⟨bx,e5,ht⟩:=HT2;have e6:=e5;rw[show (⟨#[]⟩:ByteArray).toList=[] by rw[ByteArray.toList_eq]] at e6;have e7:num.toList.isEmpty= !bx:=by rw[<-e6];cases num.toList<;>rfl
   have HT:=zH ht;have hmk:=@run_makeMap prog
   have hba:Below w.heap.size w ((w.alloc (.cells #[.int .i64 (q:Int),.bool neg,.string num,.string den,.string nm] 104)).alloc (.cells #[.string wd,.int .i64 (cs.length:Int),.bool lit,.bool eH,.bool fQ] 176)):=
    (zB _ _).alloc (by rw[size_alloc];omega) _
   obtain⟨W2,W3,hi1,hi2,hi3,hi4,hb3⟩:=Yu _ (w.heap.size+1+1) (show w.heap.size+1+1=((w.alloc (.cells #[.int .i64 (q:Int),.bool neg,.string num,.string den,.string nm] 104)).alloc (.cells #[.string wd,.int .i64 (cs.length:Int),.bool lit,.bool eH,.bool fQ] 176)).heap.size by rw[size_alloc,size_alloc]);have hbw3:=ah hba hb3;have hi:=BI hib hbw3;have HI:=zH hi;have iY:Hid (Below Bb w W3):=hbw3.mono hBw;have HFW:Hid (BF b w W3):=BF.of_below hbw3;have hBW:Bb<=W3.heap.size:=Nat.le_trans hBw hbw3.size;have hkn:aj ((w.alloc (.cells #[.int .i64 (q:Int),.bool neg,.string num,.string den,.string nm] 104)).alloc (.cells #[.string wd,.int .i64 (cs.length:Int),.bool lit,.bool eH,.bool fQ] 176)) w.heap.size 104 [.int .i64 (q:Int),.bool neg,.string num,.string den,.string nm]:=(aj.new w _ _).alloc _;have hcn:=(hkn.below hb3 hkn.lt).cells;clear hb3 hbw3 hi hib hba hkn;clear Dn yG LH F8 Oy HD hfn hr1 h4 ht;go_enter func158,ntmps158;cases bx
   ·go_wp2_with fail;refine (Ox Bb b bs ⟨#[110,111]⟩ _ HI.out (by show bs.length+2<=_;omega) hBW).mono ?_;rintro e w1 ⟨rfl,hx1,hb1,hf1⟩;go_wp2
    first|go_end0|refine bodyPost_ret (results_none rfl _ _ _) rfl ?_
    exact⟨rfl,by rw[HT.out];exact hx1,iY.out.trans hb1,HFW.out.trans hf1⟩
   ·go_wp2_with fail;refine (Ox Bb b bs ⟨#[121,101,115]⟩ _ HI.out (by show bs.length+3<=_;omega) hBW).mono ?_;rintro e w1 ⟨rfl,hx1,hb1,hf1⟩;go_wp2
    first|go_end0|refine bodyPost_ret (results_none rfl _ _ _) rfl ?_
    exact⟨rfl,by rw[HT.out];exact hx1,iY.out.trans hb1,HFW.out.trans hf1⟩
  ·have e4:((q:Int)==4)=false:=by rw[beq_eq_false_iff_ne];exact h4
   have HT:=zH (Oy.out h4);obtain⟨tot,htot⟩:=zE (bs++lc TT);have hX:bs++lc ((wd++nm).data.toList++((if lit then tx.data.toList else [])++((if (q:Int)=2 then [100] else [])++((if fQ then (⟨#[91]⟩++tx++⟨#[93]⟩:ByteArray).data.toList else [])++(iq 0 cs++(if cs.length=0 then [] else [41]))))))=tot:=by rw[htot,HT.out,HD.out];simp[ByteArray.data_append,lc]
   have htl:tot.length=bs.length+HDT.length+(iq 0 cs).length+(if cs.length=0 then [] else [41]:List UInt8).length:=by rw[htot,HT.out];unfold lc;simp only[length_append,length_map];omega
   have hdl:HDT.length<=7000000:=by
    have h1:=yE tx;have h2:=yE nm;have e1:(lit&&fQ)=false:=by rw[Dn,yG,<-Bool.decide_and];exact decide_eq_false (by omega)
    have e3:(if fQ=true then [91]++tx.data.toList++[93] else ([]:List UInt8)).length+(if lit=true then tx.data.toList else []).length<=tx.size+2:=by
     clear hX htl Dn yG HD;cases lit<;>cases fQ<;>simp only[Bool.false_eq_true,if_true,if_false,length_append,length_cons,length_nil]<;>first|omega|cases e1
    have e2:(if (q:Int)=2 then [100] else ([]:List UInt8)).length<=1:=by split<;>simp
    rw[HD.out];simp only[length_append] at e3⊢;omega
   have HQ:Hid (∀i,i<cs.length->tot.length+2+7000002*(cs.getD i []).length<=1000000000000+(iq i (cs.drop i)++(if cs.length=0 then [] else [41]:List UInt8)).length):=fun i h=>by
    have h1:=HSL.out i;have h2:=HFT.out i h;have h3:=HLEN.out;have h4:=aa1 cs i 0;rw[Nat.zero_add] at h4;rw[htl,length_append];omega
   replace htl:tot.length<=10000000000000:=by
    have h4:=al6.out;have h5:=HLEN.out;have e5:(if cs.length=0 then ([]:List UInt8) else [41]).length<=1:=by split<;>simp
    omega
   have al7:=fun X h=>BI hib (w':=X) h
   have OA:Hid (bs++lc TT=tot):=htot.symm;clear hib hdl htot Oy F8 Dn yG LH hfn hr1 h4 hsz3;obtain⟨hk0,hk1,hba,_⟩:=Two.new w 104 176 #[.int .i64 (q:Int),.bool neg,.string num,.string den,.string nm] #[.string wd,.int .i64 (cs.length:Int),.bool lit,.bool eH,.bool fQ];go_enter func158,ntmps158
   go_upto_region 2 with fail
   generalize hW:(w.alloc _).alloc _=W;rw[hW] at hk0 hk1 hba;have n0:w.heap.size≠b:=by omega
   have n1:w.heap.size+1≠b:=by omega
   have hc:=fun (X:World) (k:BF b W X)=>show (X.cell? ⟨w.heap.size,0,none⟩=some (.int .i64 (q:Int))/\X.cell? ⟨w.heap.size,1,none⟩=some (.bool neg)/\X.cell? ⟨w.heap.size,2,none⟩=some (.string num)/\X.cell? ⟨w.heap.size,3,none⟩=some (.string den)/\X.cell? ⟨w.heap.size,4,none⟩=some (.string nm))/\X.cell? ⟨w.heap.size+1,0,none⟩=some (.string wd)/\X.cell? ⟨w.heap.size+1,1,none⟩=some (.int .i64 (cs.length:Int))/\X.cell? ⟨w.heap.size+1,2,none⟩=some (.bool lit)/\X.cell? ⟨w.heap.size+1,3,none⟩=some (.bool eH)/\X.cell? ⟨w.heap.size+1,4,none⟩=some (.bool fQ) from
    ⟨⟨(k.blk hk0 (by decide) n0).cells 0,(k.blk hk0 (by decide) n0).cells 1,(k.blk hk0 (by decide) n0).cells 2,(k.blk hk0 (by decide) n0).cells 3,(k.blk hk0 (by decide) n0).cells 4⟩,(k.blk hk1 (by decide) n1).cells 0,(k.blk hk1 (by decide) n1).cells 1,(k.blk hk1 (by decide) n1).cells 2,(k.blk hk1 (by decide) n1).cells 3,(k.blk hk1 (by decide) n1).cells 4⟩
   clear hW hk0 hk1 n0 n1 ht0 ht1 ht2 ht3 ht4 hc0 hc1 hc2 hc3 hc4;have hl0:=hc _ (BF.refl b W);go_wp2_with fail;refine (wbW (wd++nm) (al7 _ hba) hX (ah hbw hba) (Below.refl _ _) (BF.refl _ _) (Nat.le_trans hBw hba.size) htl hB).mono ?_;clear hX;rintro e w1 ⟨rfl,hX⟩;clear hl0;have hl0:=hc _ hX.f
   go_upto_if 40 with fail
   go_cut [] from 39 to 45 (fun X=>WB Bb b w0 W tot ((if (q:Int)=2 then [100] else [])++((if fQ then (⟨#[91]⟩++tx++⟨#[93]⟩:ByteArray).data.toList else [])++(iq 0 cs++(if cs.length=0 then [] else [41])))) X)
   case first=>
    cases lit
    ·go_wp2
     go_meet
     case rel=>exact hX
    ·go_wp2_with fail;refine (oK.out w1 (HL.out.below hX.o).base).mono ?_;rintro e w2 ⟨rfl,hb⟩;go_wp2_with fail;refine (WB.wr tx (hX.grow hb) htl hB).mono ?_;rintro e w3 ⟨rfl,hX⟩;go_wp2
     go_meet
     case rel=>exact hX
   case rest=>
    clear hX hl0;have hX:=hcut;clear hcut;have hl0:=hc _ hX.f;obtain⟨x2,e2⟩:=zF ((q:Int)==2)
    go_upto_if 48 with fail
    go_cut [] from 46 to 50 (fun X=>WB Bb b w0 W tot ((if fQ then (⟨#[91]⟩++tx++⟨#[93]⟩:ByteArray).data.toList else [])++(iq 0 cs++(if cs.length=0 then [] else [41]))) X)
    case first=>
     cases x2
     ·rw[if_neg (beq_eq_false_iff_ne.1 e2)] at hX;go_wp2
      go_meet
      case rel=>exact hX
     ·rw[if_pos (eq_of_beq e2)] at hX;go_wp2_with fail;refine (WB.wr ⟨#[100]⟩ hX htl hB).mono ?_;rintro e w3 ⟨rfl,hX⟩;go_wp2
      go_meet
      case rel=>exact hX
    case rest=>
     clear hX hl0;have hX:=hcut;clear hcut;have hl0:=hc _ hX.f
     go_upto_if 52 with fail
     go_cut [] from 51 to 59 (fun X=>WB Bb b w0 W tot (iq 0 (cs.drop 0)++(if cs.length=0 then [] else [41])) X)
     case first=>
      cases fQ
      ·go_wp2
       go_meet
       case rel=>exact hX
      ·rw[if_pos rfl] at hX;go_wp2_with fail;refine (oK.out _ (HL.out.below hX.o).base).mono ?_;rintro e w2 ⟨rfl,hb⟩;go_wp2_with fail;replace hX:=hX.grow hb;generalize (⟨#[91]⟩++tx++⟨#[93]⟩:ByteArray)=z at hX⊢;refine (WB.wr z hX htl hB).mono ?_;rintro e w3 ⟨rfl,hX⟩;go_wp2
       go_meet
       case rel=>exact hX
     case rest=>
      clear hX hl0;have hX:=hcut;clear hcut;have h9:=H9.out _ hX.o;go_wp2;clear h9
      go_loopg [65] cs.length (fun g iv X=>∃i,i+g=cs.length/\iv=.int .i64 (i:Int)/\WB Bb b w0 W tot (iq i (cs.drop i)++(if cs.length=0 then [] else [41])) X)
      case atStart=>exact⟨0,by omega,rfl,hX⟩
      case round=>
       clear hX;obtain⟨i,hi,rfl,hX⟩:=hrel;by_cases hlt:i<cs.length
       ·have hrt:i<(I (roots o cs)).length:=by rw[jo,oJ];exact hlt
        obtain⟨b3,aoY,rfl,hb3,hcc⟩:=(HR9.out.below hX.o).at_ hrt;have hcell:=hcc i hrt;rw[Lr] at hcell;have hih:=HIH.out i hlt;have hq:=zH (HQ.out i hlt);rw[Yx hlt] at hX hq;generalize (roots o cs).getD i 0=rt at*;generalize cs.getD i []=c at*;clear hcc hb3 hrt;obtain⟨xi,ei⟩:=zF ((i:Int)==0)
        go_upto_if 71 with fail
        go_cut [] from 70 to 75 (fun X=>WB Bb b w0 W tot (textE c++(iq (i+1) (cs.drop (i+1))++(if cs.length=0 then [] else [41]))) X)
        case first=>
         cases xi
         ·rw[show l7 i=[44,32] by unfold l7;rw[if_neg (by simpa using ei)]] at hX;clear hq hih;go_wp2_with fail;refine (WB.wr ⟨#[44,32]⟩ hX htl hB).mono ?_;rintro e w3 ⟨rfl,hX⟩;go_wp2
          go_meet
          case rel=>exact hX
         ·rw[show l7 i=[40] by unfold l7;rw[if_pos (by simpa using ei)]] at hX;clear hq hih;go_wp2_with fail;refine (WB.wr ⟨#[40]⟩ hX htl hB).mono ?_;rintro e w3 ⟨rfl,hX⟩;go_wp2
          go_meet
          case rel=>exact hX
        case rest=>
         clear hX hcell ei;have hX:=hcut;clear hcut;go_wp2_with fail;obtain⟨t0,h1,h2⟩:=hX.t;have hsw:(l7 i).length<=2:=by unfold l7;split<;>simp
         refine (hih t0 _ hX.o hX.hB (.inr h1) (by have h3:=congrArg List.length h2;have h4:=hq.out;rw[length_append,Ot] at h3;rw[length_append] at h4;omega)).mono ?_;rintro e w4 ⟨rfl,h5,h6,h7⟩;replace hX:WB Bb b w0 W tot (iq (i+1) (cs.drop (i+1))++(if cs.length=0 then [] else [41])) w4:=⟨⟨_,h5,by rw[<-h2,Yq (textE c),append_assoc]⟩,hX.o.trans (h6.mono hB),hX.l.trans h6,hX.f.trans h7,Nat.le_trans hX.hB h6.size⟩
         clear h1 h2 h5 h6 h7 hih hq hsw;go_wp2
         go_roundg (cs.length-(i+1))
         case measure=>omega
         case rel=>exact⟨i+1,by omega,by go_num,hX⟩
       ·obtain rfl:i=cs.length:=by omega
        rw[drop_length] at hX;have hl0:=hc _ hX.f;have hx1:decide ((cs.length:Int)<cs.length)=false:=decide_eq_false (by omega);by_cases ho:cs.length=0
        ·rw[if_pos ho] at hX;go_wp2;go_end0;obtain⟨t0,h1,h2⟩:=hX.t;exact⟨rfl,by rw[OA.out,<-h2];simpa [iq,lc] using h1,(hba.mono hBw).trans hX.l,(BF.of_below hba).trans hX.f⟩
        ·have hop:0<cs.length:=by omega
         rw[if_neg ho] at hX;go_wp2_with fail;refine (WB.wr ⟨#[41]⟩ hX htl hB).mono ?_;rintro e wz ⟨rfl,hX⟩;go_wp2;go_end0;obtain⟨t0,h1,h2⟩:=hX.t;exact⟨rfl,by rw[OA.out,<-h2];simpa [iq,lc] using h1,(hba.mono hBw).trans hX.l,(BF.of_below hba).trans hX.f⟩
theorem agJ {k:Nat} {e:List Nd} (h:Ex k e):0<e.length:=by
 cases k with
 |zero=>exact h.elim
 |succ k=>
  obtain⟨cs,n,rfl,_⟩:=h;simp
theorem Yy (es:List Nd) (A1 A2:Option Addr) (l1 c1 l2 c2 B:Nat) (w2 W3:World) (hL:eX w2) (h1:Es w2 es A1 l1 c1) (hf:∀n∈es,Fine n) (h2:GI w2 (iZ es) A2 l2 c2) (hz:aX es=0)
  (hB:w2.heap.size=B) (hb:Below w2.heap.size w2 W3) (hs:B<=W3.heap.size) (hib:Lib.IsBuilder 93 5 B B [] W3) (i:Int) (hi:i=(l1:Int)-1):
  Calls prog 158 #[.pointer (some ⟨B,0,none⟩),.slice A1 l1 c1,.slice A2 l2 c2,.int .i64 i] W3 fun e w'=>e=.returned (.tuple #[])/\
    (Lib.BuilderAt 93 5 B B (.pointer (some ⟨B,0,none⟩)) (lc (textE es)) w'/\Below B W3 w'):=by
 have hk:=((oZ es).1 hz).1;have hl:=h1.len;have hEx:=Kr hz;have hpos:=agJ hEx;have h60:l1<=60:=by omega
 have hlen:([]:List Value).length+7000002*es.length<=1000000000000:=by rw[length_nil];omega
 have hle:w2.heap.size<=B:=Nat.le_of_eq hB;have h:=write_any es (iZ es) A1 A2 l1 c1 l2 c2 B B w2 hL h1 hf h2 hle h60 (lZ _ _ _) 61 es hEx 0 Sub.whole [] W3 hb hs hib hlen;have hi2:((0+es.length-1:Nat):Int)=i:=by omega
 rw[hi2,nil_append] at h;exact h.mono (fun e w' h=>⟨h.1,h.2.1,h.2.2.1⟩)
theorem Ku (es:List Nd) (A1:Option Addr) (l1 c1:Nat) (w:World) (hL:eX w) (h1:Es w es A1 l1 c1) (hf1:∀n∈es,Fine n):
  Calls prog 101 #[.slice A1 l1 c1] w (Dk es w):=by
 obtain rfl:=h1.len;have HC:=zH (check_any es A1 es.length c1 w hL h1.len h1.cap h1.max h1.rd hf1);have H1:=zH h1;have HL:=zH hL;have HF:=zH hf1;by_cases hz:aX es=0
 ·have hk:=((oZ es).1 hz).1;have HZ:=zH hz
  have HA:Hid (∀W,eX W->Es W es A1 es.length c1->Calls prog 157 #[.slice A1 es.length c1] W (Dj true (iZ es) W)):=fun W hL h=>by
   have:=X9 es A1 es.length c1 W hL h hf1;rw[hz] at this;exact this
  have rQ:Hid (∀w',Below w.heap.size w w'->Dk es w (.returned (.tuple #[.string ⟨(textE es).toArray⟩,.int .i64 0])) w'):=fun w' hb=>⟨by rw[if_pos hz,hz],hb⟩
  rw[hz] at HC;clear hz h1 hf1 hL;go_enter func101,ntmps101;go_wp2_with fail;refine HC.out.mono ?_;rintro e w1 ⟨rfl,hb1⟩;go_wp2_with fail;refine (HA.out _ (HL.out.below hb1) (H1.out.below hb1)).mono ?_;rintro e w2 ⟨A2,l2,c2,rfl,hag,hb2⟩;have hB2:=ah hb1 hb2;have hib:=Lib.fresh_isBuilder 93 5 w2;have hwr:=Yy es A1 A2 es.length c1 l2 c2 w2.heap.size w2 _ (HL.out.below hB2) (H1.out.below hB2) HF.out hag HZ.out rfl ((Below.refl _ _).alloc (Nat.le_refl _) (.cells #[.pointer none,.slice none 0 0] 93)) (by rw[size_alloc];omega) hib ((es.length:Int)-1) rfl;have JV:=zH hwr;have HB2:=zH hB2;clear hag hib hwr hb1 hb2 hB2;go_wp2_with fail;refine JV.out.mono ?_;rintro e w3 ⟨rfl,hx,hb3⟩;have hs3:w2.heap.size<=w3.heap.size:=by have:=hb3.size;rw[size_alloc] at this;omega
  have HST:=zH (Tryz.Builder_String_any w2.heap.size w2.heap.size (textE es) w3 (.inr hx) hs3);have HB3:Hid (Below w.heap.size w w3):=HB2.out.trans (((zB _ _).trans hb3).mono HB2.out.size);clear hx hb3 JV;go_wp2_with fail;refine HST.out.mono ?_;rintro e w4 ⟨rfl,hb4⟩;go_wp2;go_ret2;exact rQ.out _ (HB3.out.trans (hb4.mono HB2.out.size))
 ·obtain⟨zz,hzz⟩:=zF (aX es);have rQ:Hid (∀w',Below w.heap.size w w'->Dk es w (.returned (.tuple #[.string ⟨#[]⟩,.int .i64 zz])) w'):=fun w' hb=>⟨by rw[if_neg hz,hzz],hb⟩
  rw[hzz] at hz HC;have e1:(zz !=0)=true:=by simp[hz]
  clear hz h1 hf1 hzz hL;go_enter func101,ntmps101;go_wp2_with fail;refine HC.out.mono ?_;rintro e w1 ⟨rfl,hb1⟩;go_wp2;go_ret2;exact rQ.out _ hb1
theorem EO (cs s:List UInt8):(⟨s.toArray⟩:ByteArray).extract 0 ((⟨s.toArray⟩:ByteArray).size-(qg ⟨s.toArray⟩ ⟨cs.toArray⟩).size)=⟨(gu cs s).toArray⟩:=by
 have h:qg ⟨s.toArray⟩ ⟨cs.toArray⟩=⟨(jc cs s).toArray⟩:=rfl;rw[h,Lib.extract_eq];congr 2;show (s.drop 0).take (s.toArray.size-(jc cs s).toArray.size-0)=gu cs s;rw[drop_zero,Nat.sub_zero,size_toArray,size_toArray];have h2:=aec cs s;have h3:=congrArg List.length h2;rw[length_append] at h3;rw[show s.length-(jc cs s).length=(gu cs s).length from by omega]
 conv=>lhs;arg 2;rw[<-h2]
 rw[take_left]
theorem aa2 (s cs:List UInt8) (R:Nat) (t:TypeId) (l:List Value) (w:World) (hR:aj w R t (.string ⟨s.toArray⟩::l)) (h63:s.length<=1048576)
  (hcs:cs.length<4294967281) (ha:cs.all (fun b=>decide (b.toNat<128))=true):
  Calls prog 248 #[.pointer (some ⟨R,0,none⟩),.string ⟨cs.toArray⟩] w fun e w'=>e=.returned (.string ⟨(gu cs s).toArray⟩)/\aj w' R t (.string ⟨(jc cs s).toArray⟩::l)/\bW R w w':=by
 have h:=SI ⟨s.toArray⟩ ⟨cs.toArray⟩ R t l w hR (by show s.length<=_;omega) hcs (ascii_of_all ha);rw[EO] at h;exact h
theorem IZ (s:List UInt8) (R:Nat) (t:TypeId) (l:List Value) (w:World) (hR:aj w R t (.string ⟨s.toArray⟩::l)) (hU:Under R w) (hs:s.length<=1048576) (a:Ra) (r:List UInt8) (h:jE s=some (a,r)):
  Calls prog 253 #[.pointer (some ⟨R,0,none⟩)] w fun e w'=>e=.returned a.v/\aj w' R t (.string ⟨r.toArray⟩::l)/\bW R w w':=by
 unfold jE at h;split at h
 ·next hp=>
  have h1:=Ko ⟨s.toArray⟩ R t l w hR hU hs ⟨(gu zh s).toArray⟩ (EO zh s);injection h with h;injection h with h2 h3;subst h3;refine h1.mono (fun e w' h=>?_);rw[if_pos hp,h2] at h;exact h
 ·cases h
theorem OB (s:List UInt8) (R:Nat) (t:TypeId) (l:List Value) (w:World) (hR:aj w R t (.string ⟨s.toArray⟩::l)) (hU:Under R w) (hs:s.length<=1048576) (h:jE s=none):
  Calls prog 253 #[.pointer (some ⟨R,0,none⟩)] w fun e w'=>e=.panicked uo/\bW R w w':=by
 unfold jE at h;split at h
 ·cases h
 ·next hp=>
  have h1:=Ko ⟨s.toArray⟩ R t l w hR hU hs ⟨(gu zh s).toArray⟩ (EO zh s);refine h1.mono (fun e w' h=>?_);rw[if_neg hp] at h;exact⟨h.1,h.2.2⟩
theorem Yz (s p:List UInt8) (R:Nat) (t:TypeId) (l:List Value) (w:World) (hR:aj w R t (.string ⟨s.toArray⟩::l)) (h:Lib.hasPrefix s p=true):
  Calls prog 250 #[.pointer (some ⟨R,0,none⟩),.string ⟨p.toArray⟩] w fun e w'=>e=.returned (.tuple #[])/\aj w' R t (.string ⟨(s.drop p.length).toArray⟩::l)/\bW R w w':=by
 have h1:=aaP ⟨s.toArray⟩ ⟨p.toArray⟩ R t l w hR h;have h2:Lib.trimPrefix s p=s.drop p.length:=by unfold Lib.trimPrefix;rw[if_pos h]
 refine h1.mono ?_;rintro e w' ⟨rfl,rfl⟩;refine⟨rfl,?_,(bW.refl R w).set 0 _⟩;have h3:=hR.set 0 (.string ⟨(Lib.trimPrefix s p).toArray⟩);rw[h2] at h3;show aj (w.setCell _ (.string ⟨(Lib.trimPrefix s p).toArray⟩)) _ _ _;rw[h2];exact h3
theorem zq {s:List UInt8} {a:Ra} {r:List UInt8} (h:jE s=some (a,r)):r.length<=s.length:=by
 unfold jE at h;split at h
 ·injection h with h;injection h with h1 h2;subst h2;exact (dropWhile_sublist _).length_le
 ·cases h
theorem aa3 (c:UInt8) (cs:List UInt8):Lib.trimS [c] cs=if cs.contains c then [] else [c]:=by
 unfold Lib.trimS Lib.trimLeftS Lib.trimRightS;cases h:cs.contains c
 ·simp at h;simp[h]
 ·simp at h;simp[h]
def aee (r:Option (Option (Nd × List UInt8))) (s:List UInt8) (R:Nat) (t:TypeId) (l:List Value) (w:World) (e:Ending) (w':World):Prop:=
 (match r with
 |none=>e=.panicked uo
 |some none=>e=.returned (.tuple #[(nd 0 zR []).v,.bool false])/\aj w' R t (.string ⟨s.toArray⟩::l)
 |some (some q)=>e=.returned (.tuple #[q.1.v,.bool true])/\aj w' R t (.string ⟨q.2.toArray⟩::l))/\bW R w w'
theorem SK (s p:List UInt8) (w:World):Calls prog 244 #[.string ⟨s.toArray⟩,.string ⟨p.toArray⟩] w fun e w'=>e=.returned (.tuple #[.string ⟨(Lib.trimPrefix s p).toArray⟩,.bool (Lib.hasPrefix s p)])/\w'=w:=Tryz.strings_CutPrefix ⟨s.toArray⟩ ⟨p.toArray⟩ w
theorem aef (s cs:List UInt8) (w:World) (hs:s.length<=1048576) (hcs:cs.length<4294967281) (ha:cs.all (fun b=>decide (b.toNat<128))=true):
  Calls prog 211 #[.string ⟨s.toArray⟩,.string ⟨cs.toArray⟩] w fun e w'=>e=.returned (.string ⟨(Lib.trimS s cs).toArray⟩)/\Below w.heap.size w w':=
 Any.strings_Trim_laid Tryz.lays160 (by kernel_rfl) ⟨s.toArray⟩ ⟨cs.toArray⟩ w (by show s.length<=_;omega) hcs (ascii_of_all ha)
structure LS (w:World) (R:Nat) (t:TypeId) (l:List Value) (S:ByteArray) (X:World):Prop where
 p:aj X R t (.string S::l)
 b:aj X w.heap.size 104 [.int .i64 0,.bool false,.string ⟨#[]⟩,.string ⟨#[]⟩,.string ⟨#[]⟩]
 o:bW R w X
 u:Under R X
 r:R<w.heap.size
section
variable {w X Y:World} {R:Nat} {t:TypeId} {l:List Value} {S S':ByteArray}
theorem LS.new (hR:aj w R t (.string S::l)) (hU:Under R w) (h:w.alloc (.cells #[.int .i64 0,.bool false,.string ⟨#[]⟩,.string ⟨#[]⟩,.string ⟨#[]⟩] 104)=X):LS w R t l S X:=by
 obtain⟨h1,h2⟩:=zA h;exact⟨hR.below h2 hR.lt,h1,bW.of_below h2,hU.lJ (bW.of_below h2),hR.lt⟩
theorem LS.step (h:LS w R t l S X) (ho:bW R X Y) (hk:aj Y R t (.string S'::l)):LS w R t l S' Y:=⟨hk,ho.blk h.b (by have:=h.r;omega),h.o.trans ho,h.u.lJ ho,h.r⟩
theorem LS.put (h:LS w R t l S X) (S':ByteArray):LS w R t l S' (X.setCell ⟨R,0,none⟩ (.string S')):=h.step ((bW.refl R X).set 0 _) (h.p.set 0 _)
theorem LS.below (h:LS w R t l S X) (hb:Below X.heap.size X Y):LS w R t l S Y:=h.step (bW.of_below hb) (h.p.below hb h.p.lt)
theorem LS.upd (h:LS w R t l S X) {N:Nat} (hN:w.heap.size<N) (i:Nat) (v:Value):LS w R t l S (X.setCell ⟨N,i,none⟩ v):=by
 obtain⟨h1,h2,h3,⟨w0,h4,h5,h6⟩,h7⟩:=h;exact⟨h1.other (p:=⟨N,i,none⟩) (by show R≠N;omega) v,h2.other (p:=⟨N,i,none⟩) (by show w.heap.size≠N;omega) v,h3.fresh (Nat.le_of_lt hN) i v,⟨w0,h4,h5.setCell (p:=⟨N,i,none⟩) (by show w0.heap.size<=N;omega) v,h6⟩,h7⟩
theorem LS.fin (h:LS w R t l S X) (v0 v1 v2 v3 v4:Value):aj (((((X.setCell ⟨w.heap.size,0,none⟩ v0).setCell ⟨w.heap.size,1,none⟩ v1).setCell ⟨w.heap.size,2,none⟩ v2).setCell ⟨w.heap.size,3,none⟩ v3).setCell ⟨w.heap.size,4,none⟩ v4) R t (.string S::l)/\bW R w (((((X.setCell ⟨w.heap.size,0,none⟩ v0).setCell ⟨w.heap.size,1,none⟩ v1).setCell ⟨w.heap.size,2,none⟩ v2).setCell ⟨w.heap.size,3,none⟩ v3).setCell ⟨w.heap.size,4,none⟩ v4):=
 ⟨(((((bW.refl w.heap.size X).set 0 v0).set 1 v1).set 2 v2).set 3 v3 |>.set 4 v4).blk h.p (Nat.ne_of_lt h.r),((((h.o.fresh (Nat.le_refl _) 0 _).fresh (Nat.le_refl _) 1 _).fresh (Nat.le_refl _) 2 _).fresh (Nat.le_refl _) 3 _).fresh (Nat.le_refl _) 4 _⟩
end
theorem aeg (s:List UInt8) (R:Nat) (t:TypeId) (l:List Value) (w:World) (hR:aj w R t (.string ⟨s.toArray⟩::l)) (hU:Under R w) (hs:s.length<=1048576):
  Calls prog 247 #[.pointer (some ⟨R,0,none⟩)] w (aee (zl s) s R t l w):=by
 obtain⟨z,hz⟩:=zE (zl s);rw[<-hz];unfold zl at hz;have HZ:=zH hz;clear hz;go_enter func247,ntmps247
 go_upto_region 1 with fail
 generalize hX:w.alloc _=W;have h:=LS.new hR hU hX;clear hX hR hU;have yA:=SK s [36] W;have hc:=h.p.cells;have hf:=h.p.bH;cases Kv:Lib.hasPrefix s [36]
 ·have htp:Lib.trimPrefix s [36]=s:=by unfold Lib.trimPrefix;rw[if_neg (by rw[Kv];simp)]
  rw[htp,Kv] at yA;rw[if_neg (by rw[Kv];simp)] at HZ;clear htp Kv;go_wp2_with fail;refine yA.mono ?_;rintro e w1 ⟨rfl,rfl⟩;have hc2:=h.b.cells;have hf2:=h.b.bH;cases s with
  |nil=>
   obtain rfl:z=some none:=HZ.out;go_wp2;refine bodyPost_ret (v:=.tuple #[(nd 0 zR []).v,.bool false]) (by simp[results,results247,go_sem,hc2,nd,Nd.v,zR]) rfl (⟨⟨rfl,(h.fin _ _ _ _ _).1⟩,(h.fin _ _ _ _ _).2⟩)
  |cons c m=>
   have HT:=aef [c] IY w1 (by simp) (by decide) (by decide);have hx:(⟨(c::m).toArray⟩:ByteArray).extract 0 1=⟨[c].toArray⟩:=by rw[Lib.extract_eq];rfl
   have hs1:1<=(⟨(c::m).toArray⟩:ByteArray).size:=by show 1<=(c::m).length;simp
   have e0:((⟨(c::m).toArray⟩:ByteArray).toList==[])=false:=by rw[ByteArray.toList_eq];rfl
   have e1:(⟨(c::m).toArray⟩:ByteArray).toList.isEmpty=false:=by rw[ByteArray.toList_eq];rfl
   have e2:(((⟨(c::m).toArray⟩:ByteArray).extract 0 1).toList !=[])=true:=by rw[hx,ByteArray.toList_eq];rfl
   have e3:((⟨(c::m).toArray⟩:ByteArray).extract 0 1).toList.isEmpty=false:=by rw[hx,ByteArray.toList_eq];rfl
   rw[aa3,<-hx] at HT;have Eb:=zH (fun X (h:LS w R t l ⟨(c::m).toArray⟩ X) hn=>OB (c::m) R t l X h.p h.u hs hn);have AL:=zH (fun X (h:LS w R t l ⟨(c::m).toArray⟩ X) a r hn=>IZ (c::m) R t l X h.p h.u hs a r hn);obtain⟨S,hS⟩:=zE (⟨(c::m).toArray⟩:ByteArray);have HS:=zH hS;rw[<-hS] at hx hs1 e0 e1 e2 e3 HT Eb AL h yA hc⊢;clear hS;have HLC:Hid (z=if !IY.contains c then some none else (jE (c::m)).map fun q=>if Lib.hasPrefix q.2 [100] then some (nd 2 q.1 [],q.2.drop 1) else some (nd 3 q.1 [],q.2)):=HZ.out;cases hlc:IY.contains c
   ·rw[hlc,if_neg (by simp),<-hx] at HT;unfold IY at HT;obtain rfl:z=some none:=by rw[HLC.out,hlc];rfl
    clear hx Eb AL HZ hlc HLC;go_wp2_with fail;refine HT.mono ?_;rintro e w2 ⟨rfl,hb2⟩;have h2:=h.below hb2;have hc2:=h2.b.cells;have hf2:=h2.b.bH;clear hc hf;go_wp2;exact bodyPost_ret (v:=.tuple #[(nd 0 zR []).v,.bool false]) (by simp[results,results247,go_sem,hc2,nd,Nd.v,zR]) rfl ⟨⟨rfl,HS.out ▸ (h2.fin _ _ _ _ _).1⟩,(h2.fin _ _ _ _ _).2⟩
   ·rw[hlc,if_pos rfl] at HT;unfold IY at HT;replace HZ:Hid (z=(jE (c::m)).map fun q=>if Lib.hasPrefix q.2 [100] then some (nd 2 q.1 [],q.2.drop 1) else some (nd 3 q.1 [],q.2)):=by show _=_;rw[HLC.out,hlc];rfl
    clear hx hlc hc2 hf2 HLC;go_wp2_with fail;refine HT.mono ?_;rintro e w2 ⟨rfl,hb2⟩;have h2:=h.below hb2;clear hc hf h;go_wp2_with fail;cases hn:jE (c::m) with
    |none=>
     obtain rfl:z=none:=by rw[HZ.out,hn];rfl
     refine (Eb.out _ h2 hn).mono ?_;rintro e w3 ⟨rfl,ho⟩;have hend:=h2.o.trans ho;clear h2 ho;go_wp2;exact⟨rfl,rfl,hend⟩
    |some ar=>
     obtain⟨⟨neg,num,den⟩,r⟩:=ar;rw[hn] at HZ;refine (AL.out _ h2 ⟨neg,num,den⟩ r hn).mono ?_;rintro e w3 ⟨rfl,hk,ho⟩;have h3:=h2.step ho hk;unfold Ra.v;clear hn h2 hk ho Eb AL
     go_upto_region 8 with fail
     generalize hX:w3.alloc _=X;obtain⟨hz,hbz⟩:=zA hX;have h4:=h3.below hbz;have HC2:=SK r [100] X;have hc:=h4.p.cells;have hf:=h4.p.bH;have hNl:=h3.b.lt;clear hX h3 hbz;cases hd:Lib.hasPrefix r [100]
     ·have htp:Lib.trimPrefix r [100]=r:=by unfold Lib.trimPrefix;rw[if_neg (by rw[hd];simp)]
      rw[htp,hd] at HC2;obtain rfl:z=some (some (nd 3 ⟨neg,num,den⟩ [],r)):=by rw[HZ.out];simp only[Option.map_some,hd,if_neg Bool.false_ne_true]
      go_wp2_with fail;refine HC2.mono ?_;rintro e w5 ⟨rfl,rfl⟩;have hzc:=hz.cells;have hc2:=h4.b.cells;have hf2:=h4.b.bH;clear hc hf HZ hd htp;go_wp2;exact bodyPost_ret (v:=.tuple #[(nd 3 ⟨neg,num,den⟩ []).v,.bool true]) (by simp[results,results247,go_sem,hc2,nd,Nd.v]) rfl ⟨⟨rfl,(h4.fin _ _ _ _ _).1⟩,(h4.fin _ _ _ _ _).2⟩
     ·have htp:Lib.trimPrefix r [100]=r.drop 1:=by unfold Lib.trimPrefix;rw[if_pos hd];rfl
      rw[htp,hd] at HC2;obtain rfl:z=some (some (nd 2 ⟨neg,num,den⟩ [],r.drop 1)):=by rw[HZ.out];simp only[Option.map_some,hd,if_true]
      generalize r.drop 1=r1 at*;go_wp2_with fail;refine HC2.mono ?_;rintro e w5 ⟨rfl,rfl⟩;have hzf:=hz.bH;have hzc:=hz.cells;have hn1:¬(w3.heap.size=R):=by have:=h4.r;omega
      have hn2:¬(R=w3.heap.size):=by have:=h4.r;omega
      have hc2:=h4.b.cells;have hf2:=h4.b.bH
      go_upto_region 12 with fail
      have hz5:=(hz.other (p:=⟨R,0,none⟩) (by show _≠R;have:=h4.r;omega) (.string ⟨r1.toArray⟩)).set 0 (.int .i64 2);have h6:=(h4.put ⟨r1.toArray⟩).upd hNl 0 (.int .i64 2);simp only[set_cons_zero] at hz5;generalize World.setCell _ _ _=V at h6 hz5⊢;clear hc hf HZ hd htp h4 hz hzf hzc hc2 hf2;have hzc:=hz5.cells;have hc2:=h6.b.cells;have hf2:=h6.b.bH;go_wp2;exact bodyPost_ret (v:=.tuple #[(nd 2 ⟨neg,num,den⟩ []).v,.bool true]) (by simp[results,results247,go_sem,hc2,nd,Nd.v]) rfl ⟨⟨rfl,(h6.fin _ _ _ _ _).1⟩,(h6.fin _ _ _ _ _).2⟩
 ·have htp:Lib.trimPrefix s [36]=s.drop 1:=by unfold Lib.trimPrefix;rw[if_pos Kv];rfl
  rw[htp,Kv] at yA;rw[if_pos Kv] at HZ;have agL:(s.drop 1).length<=1048576:=by rw[length_drop];omega
  generalize s.drop 1=s1 at*;have h2:=h.put ⟨s1.toArray⟩;clear htp Kv;go_wp2_with fail;refine yA.mono ?_;rintro e w1 ⟨rfl,rfl⟩;go_wp2_with fail;cases hn:jE s1 with
  |none=>
   obtain rfl:z=none:=by rw[HZ.out,hn];rfl
   refine (OB s1 R t l _ h2.p h2.u agL hn).mono ?_;rintro e w2 ⟨rfl,ho⟩;have hend:=h2.o.trans ho;clear h2 ho hc hf;go_wp2;exact⟨rfl,rfl,hend⟩
  |some ar=>
   obtain⟨⟨neg,num,den⟩,r⟩:=ar;obtain rfl:z=some (some (nd 1 ⟨neg,num,den⟩ [],r)):=by rw[HZ.out,hn];rfl
   refine (IZ s1 R t l _ h2.p h2.u agL ⟨neg,num,den⟩ r hn).mono ?_;rintro e w2 ⟨rfl,hk,ho⟩;have h3:=h2.step ho hk;have hc2:=h3.b.cells;have hf2:=h3.b.bH;unfold Ra.v;clear hc hf h2 hk ho;go_wp2;refine bodyPost_ret (v:=.tuple #[(nd 1 ⟨neg,num,den⟩ []).v,.bool true]) (by simp[results,results247,go_sem,hc2,nd,Nd.v]) rfl (⟨⟨rfl,(h3.fin _ _ _ _ _).1⟩,(h3.fin _ _ _ _ _).2⟩)
theorem rF {P:Program} (W:World) (news:Array Value) {ops:Array Oper} {o:Oper} {a:Act} {K:Act->World->Prop} {Q:Exit->Act->World->Prop} {E:Prop} (hgd:o.guard=none) (s x:Operand) (t:TypeId)
  (ho:o.op=.call {callee:=.builtin .append,args:=#[s,x],argTypes:=#[t,t]})
  (base:Nat) (e:TypeId) (z:Value) (size bytes m:Nat) (ht:P.underlying t=some (.slice e)) (hinfo:(P.info? e).map (fun i=>(i.zero,i.size,i.bytes))=some (some z,size,bytes)) (hzs:z.cells.size=size) (hsz:0<size)
  (v:Value) (n:Nat) (xs:List Value) (hs:a.eval s=v) (hown:W.ownsRow base e size v n xs)
  (hx:a.eval x=.slice (some ⟨W.heap.size,0,none⟩) m m) (hl:news.size=m*size) (h1:∀u∈news.toList,u.oneCell'=true)
  (h63:n+m<=maxLen) (hbytes:(n+m)*bytes<=140737488355328) (hbase:base<=W.heap.size)
  (h:∀v' w',w'.ownsRow base e size v' (n+m) (xs++news.toList)->W.grownBy w' v.ownBlock->(∀g,v'.ownBlock=some g->v.ownBlock=some g∨W.heap.size<=g)->K (a.put o.dst v') w'):
  if Region.wanted o (yielded ops a.tmps)=true then Oper.wp P o a (W.alloc (.cells news e)) K Q else E:=by
 have hw:Region.wanted o (yielded ops a.tmps)=true:=by simp[Region.wanted,hgd]
 rw[if_pos hw];obtain⟨i,hi,hzz⟩:=Option.map_eq_some_iff.1 hinfo;simp only[Prod.mk.injEq] at hzz;obtain⟨hz,hs1,hb⟩:=hzz
 have hnews:∀j u,news.toList[j]?=some u->(W.alloc (.cells news e)).cell? ((⟨W.heap.size,0,none⟩:Addr).add j)=some u:=by
  intro j u hj;have hb:=aj.new W e news;have hj':j<news.toList.length:=(List.getElem?_eq_some_iff.1 hj).1;have:=hb.cell hj';rw[show Addr.add ⟨W.heap.size,0,none⟩ j=⟨W.heap.size,j,none⟩ from by unfold Addr.add;split<;>simp_all,this,<-(List.getElem?_eq_some_iff.1 hj).2]
 obtain⟨v',w',hr,h2,h3,h4,h5⟩:=run_append_own_at (P:=P) (W.alloc (.cells news e)) base t o.type e i z size bytes ht hi hz hs1 hb hzs hsz v n xs (hown.alloc _) ⟨W.heap.size,0,none⟩ m m news.toList (by simpa using hl) hnews h1 h63 hbytes (by simp;omega);unfold Oper.wp execOp;simp only[ho,resolve,invoke,builtin,Sem.run_bind,Sem.run_pure,Result.andThen_ok,map_toArray,map_cons,map_nil,hs,hx,hr]
 refine h v' w' h2 ?_ ?_
 ·have ha:=grownBy_alloc W (.cells news e) v.ownBlock;exact⟨h3.os.trans ha.os,h3.tape.trans ha.tape,h3.output.trans ha.output,Nat.le_trans ha.size h3.size,fun k hk hne=>(h3.block k (Nat.lt_of_lt_of_le hk ha.size) hne).trans (ha.block k hk hne)⟩
 ·intro g hgv;rcases h5 with hv|hv
  ·exact .inl (by rw[<-hv];exact hgv)
  ·rw[hv] at hgv;injection hgv with hgv;subst hgv;exact .inr (by rw[size_alloc];omega)
structure PF (R:Nat) (w:World) (v:Value) (w':World) (v':Value):Prop where
 os:w'.os=w.os
 tape:w'.tape=w.tape
 output:w'.output=w.output
 size:w.heap.size<=w'.heap.size
 block:∀k,k<w.heap.size->k≠R->v.ownBlock≠some k->w'.heap[k]?=w.heap[k]?
 own:∀g,v'.ownBlock=some g->v.ownBlock=some g∨w.heap.size<=g
theorem PF.trans {R:Nat} {w w' w'':World} {v v' v'':Value} (h:PF R w v w' v') (k:PF R w' v' w'' v''):PF R w v w'' v'':=
 ⟨k.os.trans h.os,k.tape.trans h.tape,k.output.trans h.output,Nat.le_trans h.size k.size,
   fun i hi hR hv=>(k.block i (Nat.lt_of_lt_of_le hi h.size) hR (fun he=>by rcases h.own i he with h'|h';exact hv h';omega)).trans (h.block i hi hR hv),
   fun g hg=>by
    rcases k.own g hg with h'|h'
    ·exact h.own g h'
    ·exact .inr (Nat.le_trans h.size h')⟩
theorem PF.OC {R:Nat} {w w':World} {v:Value} (h:bW R w w'):PF R w v w' v:=
 ⟨h.os,h.tape,h.output,h.size,fun k hk hR _=>h.block k hk hR,fun g hg=>.inl hg⟩
theorem PF.of_below {R:Nat} {w w':World} {v:Value} (h:Below w.heap.size w w'):PF R w v w' v:=PF.OC (bW.of_below h)
theorem PF.blk {R b:Nat} {w w':World} {v v':Value} {t:TypeId} {cs:List Value} (h:PF R w v w' v') (hb:aj w b t cs) (hR:b≠R) (hv:v.ownBlock≠some b):aj w' b t cs:=hb.of_block (h.block b hb.lt hR hv)
theorem PF.below {R B n:Nat} {w w':World} {v v':Value} {xs:List Value} {e:TypeId} {sz:Nat} (h:PF R w v w' v') (hown:w.ownsRow (R+1) e sz v n xs) (hB:B<=R) (hw:B<=w.heap.size):Below B w w':=
 ⟨h.os,h.tape,h.output,h.size,fun k hk=>h.block k (by omega) (by omega) (fun he=>by have:=(hown.lt k he).1;omega)⟩
def OD (r:Option PS) (R:Nat) (v:Value) (w:World) (e:Ending) (w':World):Prop:=
 match r with
 |none=>e=.panicked uo/\Below R w w'
 |some q=>e=.returned (.tuple #[])/\∃v',aj w' R 246 [.string ⟨q.1.toArray⟩,v',.int .i64 (q.2.2:Int)]/\w'.ownsRow (R+1) 104 5 v' q.2.1.length (mW q.2.1)/\PF R w v w' v'
theorem kZ (s:List UInt8) (n:Nat):(s.drop n).length<=s.length:=by rw[length_drop];omega
theorem uD (cs s:List UInt8):(jc cs s).length<=s.length:=(dropWhile_sublist _).length_le
theorem BJ (cs s:List UInt8):(gu cs s).length<=s.length:=(takeWhile_sublist _).length_le
theorem OE {s:List UInt8} {q:Nd × List UInt8} (h:zl s=some (some q)):q.2.length<=s.length:=by
 unfold zl at h;split at h
 ·cases hn:jE (s.drop 1) with
  |none=>rw[hn] at h;cases h
  |some ar=>
   obtain⟨a,r⟩:=ar;rw[hn] at h;injection h with h;injection h with h;have:=zq hn;have:=kZ s 1;rw[<-h];show r.length<=_;omega
 ·split at h
  ·cases h
  ·cases hn:jE s with
   |none=>rw[hn] at h;cases h
   |some ar=>
    obtain⟨a,r⟩:=ar;rw[hn] at h;have h1:=zq hn;have h2:=kZ r 1;simp only[Option.map_some] at h;split at h
    ·injection h with h;injection h with h;rw[<-h];show (r.drop 1).length<=_;omega
    ·injection h with h;injection h with h;rw[<-h];exact h1
structure PB (s:List UInt8) (ns:List Nd) (b:Nat) (q:PS):Prop where
 rest:q.1.length<=s.length
 begun:b<=q.2.2
 most:q.2.2<=60
 nodes:ns.length+q.2.2≥q.2.1.length+b
theorem aeh {p:List UInt8->List Nd->Nat->Option PS} (hp:∀s ns b q,p s ns b=some q->PB s ns b q) (m:Nat):∀k s ns b q,b<=60->wE p m k s ns b=some q->PB s ns b q:=by
 induction m with
 |zero=>
  intro k s ns b q hb h;injection h with h;subst h;exact⟨Nat.le_refl _,Nat.le_refl _,hb,Nat.le_refl _⟩
 |succ m ih=>
  intro k s ns b q hb h;rw[wE] at h;split at h
  ·obtain⟨t,h1,h2⟩:=Option.bind_eq_some_iff.1 h;have p1:=hp _ _ _ _ h1;have p2:=ih _ _ _ _ _ p1.most h2;have:=kZ s (l7 k).length;exact⟨Nat.le_trans p2.rest (Nat.le_trans p1.rest this),Nat.le_trans p1.begun p2.begun,p2.most,by have:=p1.nodes;have:=p2.nodes;omega⟩
  ·cases h
theorem OG {y:Bool} {s:List UInt8} {q:Ra × List UInt8} (h:zo y s=some q):q.2.length<=s.length:=by
 unfold zo at h;split at h
 ·split at h
  ·obtain⟨t,h1,h2⟩:=Option.bind_eq_some_iff.1 h;split at h2
   ·injection h2 with h2;have a1:=zq h1;have a2:=kZ s 1;have a3:=kZ t.2 1;rw[<-h2];show (t.2.drop 1).length<=_;obtain⟨t1,t2⟩:=t;simp only at*;omega
   ·cases h2
  ·cases h
 ·injection h with h;rw[<-h];exact Nat.le_refl _
theorem OH (s:List UInt8):(kY s).2.length<=s.length/\(kY s).1.length<=s.length+1:=by
 have h1:=uD dF s;have h2:=BJ dF s;have h3:=kZ (jc dF s) 1;unfold kY;split
 ·exact⟨by show (List.drop 1 _).length<=_;omega,by simp;omega⟩
 ·exact⟨h1,by show (gu dF s).length<=_;omega⟩
theorem SL (f:Nat):∀s ns b q,nY f s ns b=some q->PB s ns b q/\b<q.2.2:=by
 induction f with
 |zero=>intro s ns b q h;cases h
 |succ f ih=>
  intro s ns b q h;rw[nY] at h;split at h
  ·cases h
  ·next hb=>
   obtain⟨t,h1,h2⟩:=Option.bind_eq_some_iff.1 h;cases t with
   |some t=>
    injection h2 with h2;have:=OE h1;subst h2;exact⟨⟨this,Nat.le_succ _,by show b+1<=60;omega,by simp;omega⟩,Nat.lt_succ_self _⟩
   |none=>
    have hl:=uD dF s;simp only at h2;split at h2
    ·injection h2 with h2;subst h2;exact⟨⟨hl,Nat.le_succ _,by show b+1<=60;omega,by simp;omega⟩,Nat.lt_succ_self _⟩
    ·split at h2
     ·injection h2 with h2;subst h2;exact⟨⟨hl,Nat.le_succ _,by show b+1<=60;omega,by simp;omega⟩,Nat.lt_succ_self _⟩
     ·split at h2
      ·cases h2
      ·have hd:=(OH s).1;unfold tailA at h2;obtain⟨u,h3,h4⟩:=Option.bind_eq_some_iff.1 h2;obtain⟨x,h5,h6⟩:=Option.bind_eq_some_iff.1 h4;have a1:=OG h3
       have a2:(if (aG (placeOf ⟨(kY s).1.toArray⟩)).eH=true then jc jm (kY s).2 else (kY s).2).length<=(kY s).2.length:=by
        split
        ·exact uD _ _
        ·exact Nat.le_refl _
       have a3:=aeh (fun s ns b q h=>(ih s ns b q h).1) _ _ _ _ _ _ (by omega) h5;have a4:=a3.rest;have a5:=a3.begun;have a6:=a3.most;have a7:=a3.nodes;split at h6
       ·split at h6
        ·injection h6 with h6;subst h6;have a8:=kZ x.1 1;exact⟨⟨by show (x.1.drop 1).length<=_;omega,by show b<=x.2.2;omega,a6,by simp;omega⟩,by show b<x.2.2;omega⟩
        ·cases h6
       ·injection h6 with h6;subst h6;exact⟨⟨by show x.1.length<=_;omega,by show b<=x.2.2;omega,a6,by simp;omega⟩,by show b<x.2.2;omega⟩
theorem OI {P:Program} {md:Region.Mode} {S:World->Prop} {x0 f:Nat} {l:Array Bool} (i:Nat) {W:World} {news:Array Value} {ops:Array Oper} {o:Oper} {a:Act} {Q:Exit->Act->World->Prop} {s x:Operand} {t e:TypeId} {z v:Value} {base size bytes n:Nat} {xs:List Value} {a':Value->Act}
  (hinfo:(P.info? e).map (fun i=>(i.zero,i.size,i.bytes))=some (some z,size,bytes)) (ht:P.underlying t=some (.slice e)) (hown:W.ownsRow base e size v n xs) (hn:n<=100000) (hbase:base<=W.heap.size)
  (h:∀v' w',w'.ownsRow base e size v' (n+1) (xs++news.toList)->W.grownBy w' v.ownBlock->(∀g,v'.ownBlock=some g->v.ownBlock=some g∨W.heap.size<=g)->Below base W w'->S w'/\(S w'->dw P md ops Q S x0 f (l.setIfInBounds i true) (a' v') w'))
  (hi:ops[i]?=some o:=by rfl) (hr:Region.ready md ops l=[i]:=by kernel_rfl)
  (hgd:o.guard=none:=by rfl) (ho:o.op=.call {callee:=.builtin .append,args:=#[s,x],argTypes:=#[t,t]}:=by rfl) (hs:a.eval s=v:=by rfl) (hx:a.eval x=.slice (some ⟨W.heap.size,0,none⟩) 1 1:=by rfl)
  (hl:news.size=1*size:=by rfl) (hzs:z.cells.size=size:=by rfl) (hsz:0<size:=by decide) (hby:bytes<=1000:=by decide) (h1:∀u∈news.toList,u.oneCell'=true:=by (simp<;>(repeat' constructor)))
  (ha:∀v,a.put o.dst v=a' v:=by (intro v;(try simp only[Act.put,tk1,tk2,tk3,tk4,jY,jZ]);rfl)):dw P md ops Q S x0 (f+1) l a (W.alloc (.cells news e)):=by
 refine reR i (fun K hK=>?_) hi hr;refine rF W news hgd s x t ho base e z size bytes 1 ht hinfo hzs hsz v n xs hs hown hx hl h1 (by unfold maxLen;omega) (Nat.le_trans (Nat.mul_le_mul (show n+1<=100001 by omega) hby) (by decide)) hbase (fun v' w' h2 h3 h4=>?_);have hb:Below base W w':=(Below.refl _ _).grown h3 hbase (fun k hk=>(hown.lt k hk).1);obtain⟨h5,h6⟩:=h v' w' h2 h3 h4 hb;exact hK.out _ _ (fun _=>h5) (fun s=>by rw[ha];exact h6 h5)
theorem aa4 {w0 w:World} (hL:eX w0) {R:Nat} (hR0:w0.heap.size<=R) (h:Below w0.heap.size w0 w):Under R w:=⟨w0,hL.base,h,hR0⟩
theorem PF.push {R:Nat} {W w5:World} {v v5:Value} (hg:W.grownBy w5 v.ownBlock) (hv:∀g,v5.ownBlock=some g->v.ownBlock=some g∨W.heap.size<=g) (i:Nat) (u:Value):PF R W v (w5.setCell ⟨R,i,none⟩ u) v5:=
 ⟨hg.os,hg.tape,hg.output,by simpa [World.setCell] using hg.size,fun k hk hR hne=>(Below.heap_setCell w5 _ u k (by show k≠R;exact hR)).trans (hg.block k hk (fun h=>hne h.symm)),hv⟩
theorem fJ {w:World} {R:Nat} {e:TypeId} {sz:Nat} {v:Value} {n:Nat} {xs:List Value} (h:w.ownsRow (R+1) e sz v n xs) (i:Nat) (u:Value):(w.setCell ⟨R,i,none⟩ u).ownsRow (R+1) e sz v n xs:=
 h.kept (uj w R i u) (by
  cases hv:v.ownBlock with
  |none=>exact .inl rfl
  |some g=>exact .inr (by intro h';injection h' with h';have:=(h.lt g hv).1;omega))
theorem aa5 (ns:List Nd) (n:Nd):mW (ns++[n])=mW ns++n.cells:=by rw[Va];simp[mW]
theorem aei {R:Nat} {w w':World} {e:TypeId} {sz:Nat} {v:Value} {n:Nat} {xs:List Value} (h:w.ownsRow (R+1) e sz v n xs) (ho:bW R w w'):w'.ownsRow (R+1) e sz v n xs:=
 h.kept (row:=some R) ⟨ho.os,ho.tape,ho.output,ho.size,fun k hk hne=>ho.block k hk (fun h=>hne (by rw[h]))⟩ (by
  cases hv:v.ownBlock with
  |none=>exact .inl rfl
  |some g=>exact .inr (by intro h';injection h' with h';have:=(h.lt g hv).1;omega))
theorem PF.drew {R:Nat} {w w':World} {v v':Value} (h:PF R w v w' v'):PF R w v w'.drew v':=⟨h.os,h.tape,h.output,h.size,h.block,h.own⟩
theorem PF.alloc {R:Nat} {w w':World} {v v':Value} (h:PF R w v w' v') (o:Obj):PF R w v (w'.alloc o) v':=h.trans (PF.of_below (zB _ _))
def SP (R N:Nat) (cs ds:List Value) (X:World):Prop:=aj X R 246 cs/\aj X N 104 ds
theorem SP.all {R N:Nat} {a b c d0 d1 d2 d3 d4:Value} {X:World} (_:SP R N [a,b,c] [d0,d1,d2,d3,d4] X):∀Y,SP R N [a,b,c] [d0,d1,d2,d3,d4] Y->Y.cell? ⟨R,1,none⟩=some b/\Y.cell? ⟨N,0,none⟩=some d0/\Y.cell? ⟨N,1,none⟩=some d1/\Y.cell? ⟨N,2,none⟩=some d2/\Y.cell? ⟨N,3,none⟩=some d3/\Y.cell? ⟨N,4,none⟩=some d4/\Y.frozen? ⟨R,1,none⟩=false:=
 fun _ k=>⟨k.1.cells 1,k.2.cells 0,k.2.cells 1,k.2.cells 2,k.2.cells 3,k.2.cells 4,k.1.bH 1⟩
theorem SP.alloc {R N:Nat} {cs ds:List Value} {X:World} (h:SP R N cs ds X) (o:Obj):SP R N cs ds (X.alloc o):=⟨h.1.alloc o,h.2.alloc o⟩
structure XA (w:World) (R:Nat) (v:Value) (L:List (Nat × TypeId × List Value)) (s:List UInt8) (ns:List Nd) (b:Nat) (u:Value) (X:World):Prop where
 k:aj X R 246 [.string ⟨s.toArray⟩,u,.int .i64 (b:Int)]
 o:X.ownsRow (R+1) 104 5 u ns.length (mW ns)
 p:PF R w v X u
 e:Below R w X
 l:∀q∈L,aj X q.1 q.2.1 q.2.2/\R<q.1/\w.heap.size<=q.1/\u.ownBlock≠some q.1
 s:s.length<=1048576
 n:ns.length<=b
section
variable {w X X':World} {R:Nat} {v u u':Value} {L:List (Nat × TypeId × List Value)} {s s':List UInt8} {ns ns':List Nd} {b b':Nat}
theorem XA.to (h:XA w R v L s ns b u X) (p:PF R X u X' u') (k:aj X' R 246 [.string ⟨s'.toArray⟩,u',.int .i64 (b':Int)]) (o:X'.ownsRow (R+1) 104 5 u' ns'.length (mW ns')) (hs:s'.length<=s.length) (hn:ns'.length<=b'):XA w R v L s' ns' b' u' X':=
 ⟨k,o,h.p.trans p,h.e.trans (p.below h.o (Nat.le_refl _) (Nat.le_of_lt h.k.lt)),fun q hq=>
   let ⟨h1,h2,h3,h4⟩:=h.l q hq
   ⟨p.blk h1 (Nat.ne_of_gt h2) h4,h2,h3,fun h5=>by rcases p.own _ h5 with h6|h6;exact h4 h6;have:=h1.lt;omega⟩,Nat.le_trans hs h.s,hn⟩
theorem XA.lJ (h:XA w R v L s ns b u X) (k:aj X' R 246 [.string ⟨s'.toArray⟩,u,.int .i64 (b:Int)]) (o:bW R X X') (hs:s'.length<=s.length):XA w R v L s' ns b u X':=h.to (PF.OC o) k (aei h.o o) hs h.n
theorem XA.grow (h:XA w R v L s ns b u X) (o:Below X.heap.size X X'):XA w R v L s ns b u X':=h.lJ (h.k.below o h.k.lt) (bW.of_below o) (Nat.le_refl _)
theorem XA.new {t:TypeId} {cs:Array Value} (h:XA w R v L s ns b u X) (e:X.alloc (.cells cs t)=X'):XA w R v ((X.heap.size,t,cs.toList)::L) s ns b u X':=
 let h2:=h.grow (zA e).2
 ⟨h2.k,h2.o,h2.p,h2.e,fun q hq=>by
   rcases mem_cons.1 hq with rfl|hq
   ·exact⟨(zA e).1,h.k.lt,h.e.size,fun h5=>by have:=(h.o.lt _ h5).2;omega⟩
   ·exact h2.l q hq,h2.s,h2.n⟩
theorem XA.set {N:Nat} {t:TypeId} {cs:List Value} (h:XA w R v ((N,t,cs)::L) s ns b u X) (i:Nat) (x:Value) (hN:∀q∈L,q.1≠N):XA w R v ((N,t,cs.set i x)::L) s ns b u (X.setCell ⟨N,i,none⟩ x):=by
 obtain⟨h1,h2,h3,h4⟩:=h.l _ (mem_cons_self ..)
 refine⟨h.k.other (p:=⟨N,i,none⟩) (Nat.ne_of_lt h2) _,h.o.kept (uj X N i x) (by cases hu:u.ownBlock with|none=>exact .inl rfl|some g=>exact .inr (fun h'=>h4 (hu.trans h'))),
  ⟨h.p.os,h.p.tape,h.p.output,by simpa [World.setCell] using h.p.size,fun k hk hR hne=>(Below.heap_setCell X _ x k (by show k≠N;omega)).trans (h.p.block k hk hR hne),h.p.own⟩,
  h.e.setCell (p:=⟨N,i,none⟩) (Nat.le_of_lt h2) _,fun q hq=>?_,h.s,h.n⟩
 rcases mem_cons.1 hq with rfl|hq
 ·exact⟨h1.set i x,h2,h3,h4⟩
 ·obtain⟨g1,g2⟩:=h.l q (mem_cons_of_mem _ hq);exact⟨g1.other (p:=⟨N,i,none⟩) (hN q hq) _,g2⟩
theorem XA.b0 {q:Nat × TypeId × List Value} (h:XA w R v (q::L) s ns b u X):aj X q.1 q.2.1 q.2.2:=(h.l _ (mem_cons_self ..)).1
theorem XA.sp {N:Nat} {ds:List Value} (h:XA w R v ((N,104,ds)::L) s ns b u X):SP R N [.string ⟨s.toArray⟩,u,.int .i64 (b:Int)] ds X:=⟨h.k,h.b0⟩
theorem XA.grown {N:Nat} {ds:List Value} (h:XA w R v ((N,104,ds)::L) s ns b u X) (hg:X.grownBy X' u.ownBlock):SP R N [.string ⟨s.toArray⟩,u,.int .i64 (b:Int)] ds X':=
 ⟨h.k.of_block (hg.block R h.k.lt (fun e=>by have:=(h.o.lt R e.symm).1;omega)),h.b0.of_block (hg.block N h.b0.lt (fun e=>(h.l _ (mem_cons_self ..)).2.2.2 e.symm))⟩
theorem XA.tl {q:Nat × TypeId × List Value} (h:XA w R v (q::L) s ns b u X):XA w R v L s ns b u X:={h with l:=fun p hp=>h.l p (mem_cons_of_mem _ hp)}
theorem XA.sw {q r:Nat × TypeId × List Value} (h:XA w R v (q::r::L) s ns b u X):XA w R v (r::q::L) s ns b u X:={h with l:=fun p hp=>h.l p (by simp only[mem_cons] at hp⊢;rcases hp with h|h|h<;>simp[h])}
theorem XA.two {t1 t2:TypeId} {c1 c2:Array Value} {l1 l2:List Value} (h:XA w R v L s ns b u X) (e1:c1.toList=l1:=by rfl) (e2:c2.toList=l2:=by rfl):XA w R v ((X.heap.size+1,t2,l2)::(X.heap.size,t1,l1)::L) s ns b u ((X.alloc (.cells c1 t1)).alloc (.cells c2 t2)).drew:=by
 subst e1 e2;have h:=(h.new (cs:=c1) (t:=t1) rfl).new (cs:=c2) (t:=t2) rfl;rw[size_alloc] at h;exact h.grow (aI _ _ 1)
theorem XA.span (cs:List UInt8) (h:XA w R v L s ns b u X) (h1:cs.length<4294967281:=by decide) (h2:cs.all (fun b=>decide (b.toNat<128))=true:=by decide):
  Calls prog 248 #[.pointer (some ⟨R,0,none⟩),.string ⟨cs.toArray⟩] X fun e X'=>e=.returned (.string ⟨(gu cs s).toArray⟩)/\XA w R v L (jc cs s) ns b u X':=
 (aa2 s cs R _ _ X h.k h.s h1 h2).mono (by rintro e X' ⟨rfl,hk,ho⟩;exact⟨rfl,h.lJ hk ho (uD _ _)⟩)
theorem XA.want (p:List UInt8) (h:XA w R v L s ns b u X):
  Calls prog 250 #[.pointer (some ⟨R,0,none⟩),.string ⟨p.toArray⟩] X fun e X'=>(Lib.hasPrefix s p=true/\e=.returned (.tuple #[])/\XA w R v L (s.drop p.length) ns b u X')∨(Lib.hasPrefix s p=false/\e=.panicked uo/\Below R w X'):=by
 cases hp:Lib.hasPrefix s p
 ·refine (ad8 ⟨s.toArray⟩ ⟨p.toArray⟩ R _ _ X h.k hp).mono ?_;rintro e X' ⟨rfl,rfl⟩;exact .inr ⟨rfl,rfl,h.e⟩
 ·refine (Yz s p R _ _ X h.k hp).mono ?_;rintro e X' ⟨rfl,hk,ho⟩;exact .inl ⟨rfl,rfl,h.lJ hk ho (kZ _ _)⟩
theorem XA.num (h:XA w R v L s ns b u X) (hU:Under R X):
  Calls prog 253 #[.pointer (some ⟨R,0,none⟩)] X fun e X'=>(∃a r,jE s=some (a,r)/\e=.returned a.v/\XA w R v L r ns b u X')∨(jE s=none/\e=.panicked uo/\Below R w X'):=by
 cases hn:jE s with
 |none=>
  refine (OB s R _ _ X h.k hU h.s hn).mono ?_;rintro e X' ⟨rfl,ho⟩;exact .inr ⟨rfl,rfl,h.e.trans (ho.below (Nat.le_refl _) (Nat.le_of_lt h.k.lt))⟩
 |some q=>
  refine (IZ s R _ _ X h.k hU h.s q.1 q.2 hn).mono ?_;rintro e X' ⟨rfl,hk,ho⟩;exact .inl ⟨_,_,rfl,rfl,h.lJ hk ho (zq hn)⟩
theorem XA.fin {w5:World} {u5:Value} {n:Nd} {T:Option PS} (h:XA w R v L s ns b u X) (hg:X.grownBy w5 u.ownBlock) (ho:w5.ownsRow (R+1) 104 5 u5 (ns.length+1) (mW ns++n.cells)) (h4:∀g,u5.ownBlock=some g->u.ownBlock=some g∨X.heap.size<=g) (hT:T=some (s,ns++[n],b)):
  OD T R v w (.returned (.tuple #[])) (w5.setCell ⟨R,1,none⟩ u5):=by
 subst hT;exact⟨rfl,u5,(h.k.of_block (hg.block R h.k.lt (fun e=>by have:=(h.o.lt R e.symm).1;omega))).set 1 _,by rw[length_append,aa5];exact fJ ho 1 _,h.p.trans (PF.push hg h4 1 _)⟩
theorem vk {T:Option PS} (hT:T=none) (h:Below R w X):OD T R v w (.panicked uo) X:=by subst hT;exact⟨rfl,h⟩
end
end Go.Proofs.YtjpbmbgincdjaaaGreatDoor
