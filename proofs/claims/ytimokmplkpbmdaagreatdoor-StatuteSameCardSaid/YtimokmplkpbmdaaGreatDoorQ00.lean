/- A part of the proof: Mem Dig Bytes. -/
import Derived.WalkSpells
import Derived.WalkLawsBesides
import Derived.Lib.Hide
import Derived.Deep.OwnRows
import Derived.BigQuiet
import Derived.StillTailTactics
import Derived.Deep.RegionHeld3
set_option linter.all false
set_option maxRecDepth 100000
set_option maxHeartbeats 0
namespace Go.Proofs.YtimokmplkpbmdaaGreatDoor
open Go.RowKit
def Rd (w:World) (A:Option Addr) (cs:List Value):Prop:=
 cs=[]∨∃b off,A=some ⟨b,off,none⟩/\b<w.heap.size/\∀i (h:i<cs.length),w.cell? ⟨b,off+i,none⟩=some cs[i]
theorem Rd.nil (w:World) (A:Option Addr):Rd w A []:=.inl rfl
theorem Rd.at_ {w:World} {A:Option Addr} {cs:List Value} (h:Rd w A cs) {k:Nat} (hk:k<cs.length):
  ∃b off,A=some ⟨b,off,none⟩/\b<w.heap.size/\∀i (h:i<cs.length),w.cell? ⟨b,off+i,none⟩=some cs[i]:=by
 rcases h with rfl|h
 ·simp at hk
 ·exact h
theorem Rd.keep {w w':World} {A:Option Addr} {cs:List Value} (h:Rd w A cs) (hs:w.heap.size<=w'.heap.size)
  (hk:∀p:Addr,p.block<w.heap.size->w'.cell? p=w.cell? p):Rd w' A cs:=by
 rcases h with rfl|⟨b,off,rfl,hb,hc⟩
 ·exact .inl rfl
 ·exact .inr ⟨b,off,rfl,by omega,fun i hi=>by rw[hk _ hb];exact hc i hi⟩
theorem Rd.below {w w':World} {A:Option Addr} {cs:List Value} (h:Rd w A cs) (hb:Below w.heap.size w w'):Rd w' A cs:=
 h.keep hb.size fun _ hp=>hb.cell hp
theorem Rd.take {w:World} {A:Option Addr} {cs:List Value} (h:Rd w A cs) (n:Nat):Rd w A (cs.take n):=by
 rcases h with rfl|⟨b,off,rfl,hb,hc⟩
 ·simp[Rd]
 ·refine .inr ⟨b,off,rfl,hb,fun i hi=>?_⟩;rw[List.length_take] at hi;rw[hc i (by omega),List.getElem_take]
def U (xs:List Nat):List Value:=xs.map fun n:Nat=>.int .u32 (n:Int)
theorem fJ (xs:List Nat):(U xs).length=xs.length:=by simp[U]
theorem vI (xs:List Nat) (i:Nat) (h:i<(U xs).length):(U xs)[i]=.int .u32 (xs.getD i 0:Nat):=by
 simp only[U,List.getElem_map]
 rw[List.getD_eq_getElem?_getD,List.getElem?_eq_getElem (by simpa [U] using h)];rfl
theorem FV (xs:List Nat) (n:Nat):(U xs).take n=U (xs.take n):=by simp[U,List.map_take]
theorem Rd.u {w:World} {A:Option Addr} {xs:List Nat} (h:Rd w A (U xs)) {k:Nat} (hk:k<xs.length):
  ∃b off,A=some ⟨b,off,none⟩/\b<w.heap.size/\w.cell? ⟨b,off+k,none⟩=some (.int .u32 (xs.getD k 0:Nat)):=by
 obtain⟨b,off,e,hb,hc⟩:=h.at_ (k:=k) (by rw[fJ];exact hk);refine⟨b,off,e,hb,?_⟩;rw[hc k (by rw[fJ];exact hk),vI]
def aj (w:World) (b:Nat) (t:TypeId) (cs:List Value):Prop:=w.heap[b]?=some (.cells cs.toArray t (0,0))
section
variable {w w':World} {b:Nat} {t:TypeId} {cs:List Value}
theorem aj.lt (h:aj w b t cs):b<w.heap.size:=by
 rcases Nat.lt_or_ge b w.heap.size with hlt|hge
 ·exact hlt
 ·unfold aj at h;rw[Array.getElem?_eq_none hge] at h;cases h
theorem aj.cell (h:aj w b t cs) {i:Nat} (hi:i<cs.length):w.cell? ⟨b,i,none⟩=some cs[i]:=by
 unfold aj at h;simp[World.cell?,h,hi]
theorem aj.frozen (h:aj w b t cs) (i:Nat):w.frozen? ⟨b,i,none⟩=false:=by
 unfold aj at h;simp[World.frozen?,h]
theorem aj.of_block (h:aj w b t cs) (e:w'.heap[b]?=w.heap[b]?):aj w' b t cs:=e.trans h
theorem aj.below {B:Nat} (h:aj w b t cs) (hb:Below B w w') (hg:b<B):aj w' b t cs:=(hb.block b hg).trans h
theorem aj.drew (h:aj w b t cs):aj w.drew b t cs:=h
theorem aj.drewN (h:aj w b t cs) (n:Nat):aj (w.drewN n) b t cs:=h
theorem aj.alloc (h:aj w b t cs) (o:Obj):aj (w.alloc o) b t cs:=(Below.heap_alloc w o b h.lt).trans h
theorem aj.set (h:aj w b t cs) (i:Nat) (u:Value):aj (w.setCell ⟨b,i,none⟩ u) b t (cs.set i u):=by
 unfold aj at h⊢;simp[World.setCell,Array.getElem?_modify,h]
theorem aj.other (h:aj w b t cs) {p:Addr} (hp:b≠p.block) (u:Value):aj (w.setCell p u) b t cs:=(Below.heap_setCell w p u b hp).trans h
theorem aj.new (w:World) (t:TypeId) (cs:Array Value):aj (w.alloc (.cells cs t)) w.heap.size t cs.toList:=by
 unfold aj World.alloc;simp
theorem aj.rd (h:aj w b t cs):Rd w (some ⟨b,0,none⟩) cs:=.inr ⟨b,0,rfl,h.lt,fun i hi=>by rw[Nat.zero_add];exact h.cell hi⟩
end
theorem below_drewN {B:Nat} {a w:World} (h:Below B a w) (n:Nat):Below B a (w.drewN n):=⟨h.os,h.tape,h.output,h.size,h.block⟩
theorem ak (B:Nat) (w:World) (n:Nat):Below B w (w.drewN n):=below_drewN (Below.refl _ _) n
section
variable {P:Program}
theorem dO (w:World) {ops:Array Oper} {rest:List Oper} {o:Oper} {a:Act} {Q:Exit->Act->World->Prop}
  (hg:o.guard=none) (l c:Operand) (t:TypeId) (hop:o.op=Op.makeSlice t l c)
  (e:TypeId) (z:Value) (bytes:Nat) (ht:P.underlying t=some (.slice e)) (hinfo:(P.info? e).map (fun i=>(i.zero,i.size,i.bytes))=some (some z,1,bytes)) (hz1:z.cells=#[z])
  (kl kc:IntKind) (N M:Int) (n:Nat) (hl:a.eval l=.int kl N) (hc:a.eval c=.int kc M) (hN:N=n) (hM:M=n) (hbytes:bytes*n<=281474976710656) (h63:n<=9223372036854775807)
  (hK:∀w',aj w' w.heap.size e (List.replicate n z)->Below w.heap.size w w'->wpList P ops Q rest (a.put o.dst (.slice (some ⟨w.heap.size,0,none⟩) n n)) w'):
  wpList P ops Q (o::rest) a w:=by
 subst hN hM;refine wpList_plain hg fun K hK'=>?_
 have hrun:=run_make_row' (P:=P) t e z bytes ht hinfo hz1 kl kc n hbytes h63 w;unfold Oper.wp;simp[execOp,hop,hl,hc,hrun,Result.andThen];refine hK' _ _ (hK _ ?_ ((Below.refl _ _).alloc (Nat.le_refl _) _));have:=aj.new w e (madeCells #[z] n);rwa[toList_madeCells_one] at this
end
structure aF (G:Nat) (w w':World):Prop where
 os:w'.os=w.os
 tape:w'.tape=w.tape
 output:w'.output=w.output
 size:w.heap.size<=w'.heap.size
 block:∀k,k<w.heap.size->k≠G->w'.heap[k]?=w.heap[k]?
section
variable {G:Nat} {a w w':World}
theorem aF.refl (G:Nat) (w:World):aF G w w:=⟨rfl,rfl,rfl,Nat.le_refl _,fun _ _ _=>rfl⟩
theorem aF.drew (h:aF G a w):aF G a w.drew:=⟨h.os,h.tape,h.output,h.size,h.block⟩
theorem aF.drewN (h:aF G a w) (n:Nat):aF G a (w.drewN n):=⟨h.os,h.tape,h.output,h.size,h.block⟩
theorem aF.set (h:aF G a w) (i:Nat) (u:Value):aF G a (w.setCell ⟨G,i,none⟩ u):=
 ⟨h.os,h.tape,h.output,by simpa [World.setCell] using h.size,fun k hk hne=>(Below.heap_setCell w _ u k hne).trans (h.block k hk hne)⟩
theorem aF.trans {c:World} (h:aF G a w) (k:aF G w c):aF G a c:=
 ⟨k.os.trans h.os,k.tape.trans h.tape,k.output.trans h.output,Nat.le_trans h.size k.size,fun i hi hne=>(k.block i (Nat.lt_of_lt_of_le hi h.size) hne).trans (h.block i hi hne)⟩
theorem aF.of_below (h:Below a.heap.size a w):aF G a w:=⟨h.os,h.tape,h.output,h.size,fun k hk _=>h.block k hk⟩
theorem aF.below {B:Nat} (h:aF G w w') (hG:B<=G) (hB:B<=w.heap.size):Below B w w':=⟨h.os,h.tape,h.output,h.size,fun k hk=>h.block k (by omega) (by omega)⟩
theorem aF.blk {b:Nat} {t:TypeId} {cs:List Value} (h:aF G w w') (hb:aj w b t cs) (hne:b≠G):aj w' b t cs:=hb.of_block (h.block b hb.lt hne)
theorem aF.rd {b off:Nat} {cs:List Value} (h:aF G w w') (hr:Rd w (some ⟨b,off,none⟩) cs) (hne:b≠G):Rd w' (some ⟨b,off,none⟩) cs:=by
 rcases hr with rfl|⟨b',off',e,hb,hc⟩
 ·exact .inl rfl
 ·injection e with e;injection e with e1 e2;subst e1 e2;exact .inr ⟨b,off,rfl,by have:=h.size;omega,fun i hi=>by rw[World.cell?_of_block (w:=w) (h.block b hb hne)];exact hc i hi⟩
end
section
variable {P:Program}
theorem bP (W:World) (news:Array Value) {ops:Array Oper} {rest:List Oper} {o:Oper} {a:Act} {Q:Exit->Act->World->Prop} (hgd:o.guard=none) (s x:Operand) (t:TypeId)
  (ho:o.op=.call {callee:=.builtin .append,args:=#[s,x],argTypes:=#[t,t]})
  (base:Nat) (e:TypeId) (z:Value) (size bytes m:Nat) (ht:P.underlying t=some (.slice e)) (hinfo:(P.info? e).map (fun i=>(i.zero,i.size,i.bytes))=some (some z,size,bytes)) (hzs:z.cells.size=size) (hsz:0<size)
  (v:Value) (n:Nat) (xs:List Value) (hs:a.eval s=v) (hown:W.ownsRow base e size v n xs)
  (hx:a.eval x=.slice (some ⟨W.heap.size,0,none⟩) m m) (hl:news.size=m*size) (h1:∀u∈news.toList,u.oneCell'=true)
  (h63:n+m<=maxLen) (hbytes:(n+m)*bytes<=140737488355328) (hbase:base<=W.heap.size)
  (h:∀v' w',w'.ownsRow base e size v' (n+m) (xs++news.toList)->Below base W w'->wpList P ops Q rest (a.put o.dst v') w'):
  wpList P ops Q (o::rest) a (W.alloc (.cells news e)):=by
 obtain⟨i,hi,hzz⟩:=Option.map_eq_some_iff.1 hinfo;simp only[Prod.mk.injEq] at hzz;obtain⟨hz,hs1,hb⟩:=hzz;refine wpList_append_own (w:=W.alloc (.cells news e)) hgd s x t ho base e i z size bytes ht hi hz hs1 hb hzs hsz v n xs hs (hown.alloc _) ⟨W.heap.size,0,none⟩ m m news.toList hx (by simpa using hl) ?_ h1 h63 hbytes (by simp;omega) ?_
 ·intro j u hj;have hb:=aj.new W e news;have hj':j<news.toList.length:=(List.getElem?_eq_some_iff.1 hj).1;have:=hb.cell hj';rw[show Addr.add ⟨W.heap.size,0,none⟩ j=⟨W.heap.size,j,none⟩ from by unfold Addr.add;split<;>simp_all,this,<-(List.getElem?_eq_some_iff.1 hj).2]
 ·intro v' w' hown' hg _;refine h v' w' hown' ?_;have hb1:Below base W (W.alloc (.cells news e)):=(Below.refl _ _).alloc hbase _;exact hb1.grown hg (by simp;omega) (fun k hk=>(hown.lt k hk).1)
end
theorem Ji {P:Program} (W:World) (news:Array Value) {ops:Array Oper} {o:Oper} {a:Act} {K:Act->World->Prop} {Q:Exit->Act->World->Prop} {E:Prop} (hgd:o.guard=none) (s x:Operand) (t:TypeId)
  (ho:o.op=.call {callee:=.builtin .append,args:=#[s,x],argTypes:=#[t,t]})
  (base:Nat) (e:TypeId) (z:Value) (size bytes m:Nat) (ht:P.underlying t=some (.slice e)) (hinfo:(P.info? e).map (fun i=>(i.zero,i.size,i.bytes))=some (some z,size,bytes)) (hzs:z.cells.size=size) (hsz:0<size)
  (v:Value) (n:Nat) (xs:List Value) (hs:a.eval s=v) (hown:W.ownsRow base e size v n xs)
  (hx:a.eval x=.slice (some ⟨W.heap.size,0,none⟩) m m) (hl:news.size=m*size) (h1:∀u∈news.toList,u.oneCell'=true)
  (h63:n+m<=maxLen) (hbytes:(n+m)*bytes<=140737488355328) (hbase:base<=W.heap.size)
  (h:∀v' w',w'.ownsRow base e size v' (n+m) (xs++news.toList)->Below base W w'->K (a.put o.dst v') w'):
  if Region.wanted o (yielded ops a.tmps)=true then Oper.wp P o a (W.alloc (.cells news e)) K Q else E:=by
 have hw:Region.wanted o (yielded ops a.tmps)=true:=by simp[Region.wanted,hgd]
 rw[if_pos hw];obtain⟨i,hi,hzz⟩:=Option.map_eq_some_iff.1 hinfo;simp only[Prod.mk.injEq] at hzz;obtain⟨hz,hs1,hb⟩:=hzz;refine wp_append_own (w:=W.alloc (.cells news e)) s x t ho base e i z size bytes ht hi hz hs1 hb hzs hsz v n xs hs (hown.alloc _) ⟨W.heap.size,0,none⟩ m m news.toList hx (by simpa using hl) ?_ h1 h63 hbytes (by simp;omega) ?_
 ·intro j u hj;have hb:=aj.new W e news;have hj':j<news.toList.length:=(List.getElem?_eq_some_iff.1 hj).1;have:=hb.cell hj';rw[show Addr.add ⟨W.heap.size,0,none⟩ j=⟨W.heap.size,j,none⟩ from by unfold Addr.add;split<;>simp_all,this,<-(List.getElem?_eq_some_iff.1 hj).2]
 ·intro v' w' hown' hg _;refine h v' w' hown' ?_;have hb1:Below base W (W.alloc (.cells news e)):=(Below.refl _ _).alloc hbase _;exact hb1.grown hg (by simp;omega) (fun k hk=>(hown.lt k hk).1)
theorem bY {w:World} {base:Nat} {e:TypeId} {size:Nat} {v:Value} {n:Nat} {xs:List Value} (h:w.ownsRow base e size v n xs):
  ∃A cap,v=.slice A n cap/\n<=cap/\cap<=maxLen/\Rd w A xs/\xs.length=n*size:=by
 have h0:=h;rcases h.2 with⟨rfl,rfl⟩|⟨g,cap,cur,rfl,hb,hh,hn,hm,hs,ht⟩
 ·have:xs=[]:=List.eq_nil_of_length_eq_zero (by simpa using h.1);subst this;exact⟨none,0,rfl,Nat.le_refl _,by unfold maxLen;omega,.inl rfl,by simp⟩
 ·refine⟨some ⟨g,0,none⟩,cap,rfl,hn,hm,?_,h.1⟩;rcases Nat.eq_zero_or_pos xs.length with hx|hx
  ·exact .inl (List.eq_nil_of_length_eq_zero hx)
  ·refine .inr ⟨g,0,rfl,(h0.lt g rfl).2,fun i hi=>?_⟩;have:=h0.cells (g:=g) rfl i _ (List.getElem?_eq_getElem hi);rwa[show Addr.add ⟨g,0,none⟩ i=⟨g,0+i,none⟩ from by unfold Addr.add;split<;>simp_all] at this
end Go.Proofs.YtimokmplkpbmdaaGreatDoor
namespace Go.Proofs.YtimokmplkpbmdaaGreatDoor
theorem getD_lt {α:Type} {xs:List α} {n:Nat} {d:α} (h:n<xs.length):xs.getD n d=xs[n]:=by
 rw[List.getD_eq_getElem?_getD,List.getElem?_eq_getElem h];rfl
def val (B:Nat):List Nat->Nat
 |[]=>0
 |x::xs=>x+B*val B xs
theorem val_append (B:Nat) (xs ys:List Nat):val B (xs++ys)=val B xs+B ^ xs.length*val B ys:=by
 induction xs with
 |nil=>simp[val]
 |cons x xs ih=>simp only[List.cons_append,val,ih,List.length_cons,Nat.pow_succ];grind
theorem pW (B:Nat) (xs:List Nat) (k:Nat) (h:k<xs.length):
  val B (xs.take (k+1))=val B (xs.take k)+B ^ k*xs[k]:=by
 rw[List.take_succ_eq_append_getElem h,val_append,List.length_take_of_le (by omega)];simp[val]
theorem gZ (B:Nat) (xs:List Nat) (h:∀x∈xs,x<B):val B xs<B ^ xs.length:=by
 induction xs with
 |nil=>simp[val]
 |cons x xs ih=>
  have hx:=h x (by simp);have:=ih (fun y hy=>h y (by simp[hy]));simp only[val,List.length_cons,Nat.pow_succ]
  have h2:val B xs+1<=B ^ xs.length:=this;have h3:B*(val B xs+1)<=B*B ^ xs.length:=Nat.mul_le_mul_left _ h2;rw[Nat.mul_comm (B ^ xs.length) B];rw[Nat.mul_add] at h3;omega
theorem uy (B n:Nat):val B (List.replicate n 0)=0:=by
 induction n with
 |zero=>rfl
 |succ n ih=>simp[List.replicate_succ,val,ih]
theorem Qg (B:Nat) (xs:List Nat) (j:Nat) (h:j<xs.length) (y:Nat):
  val B (xs.set j y)+B ^ j*xs[j]=val B xs+B ^ j*y:=by
 induction xs generalizing j with
 |nil=>simp at h
 |cons x xs ih=>
  cases j with
  |zero=>simp[val];omega
  |succ j=>
   have:=ih j (by simpa using h);simp only[List.set_cons_succ,val,List.getElem_cons_succ,Nat.pow_succ]
   have hj:j<xs.length:=by simpa using h
   have e:B*(val B (xs.set j y)+B ^ j*xs[j]'hj)=B*(val B xs+B ^ j*y):=by rw[this]
   rw[Nat.mul_add,Nat.mul_add,<-Nat.mul_assoc,<-Nat.mul_assoc] at e;rw[Nat.mul_comm (B ^ j) B];omega
structure Canon (B:Nat) (xs:List Nat):Prop where
 lt:∀x∈xs,x<B
 last:∀h:xs≠[],xs.getLast h≠0
theorem Canon.nil (B:Nat):Canon B []:=⟨by simp,by simp⟩
theorem Canon.ge {B:Nat} {xs:List Nat} (h:Canon B xs) (hn:xs≠[]):B ^ (xs.length-1)<=val B xs:=by
 have e:=List.dropLast_concat_getLast hn;have h0:=h.last hn;rw[<-e,val_append];simp only[List.length_dropLast,List.length_append,List.length_singleton,val,Nat.mul_zero,Nat.add_zero,Nat.add_sub_cancel]
 have:1<=xs.getLast hn:=by omega
 have:=Nat.mul_le_mul_left (B ^ (xs.length-1)) this;omega
theorem Canon.val_zero {B:Nat} (hB:0<B) {xs:List Nat} (h:Canon B xs):val B xs=0↔xs=[]:=by
 constructor
 ·intro h0;by_cases hn:xs=[]
  ·exact hn
  ·have h1:=h.ge hn;have h2:0<B ^ (xs.length-1):=Nat.pow_pos hB;omega
 ·rintro rfl;rfl
def trimLen (xs:List Nat):Nat->Nat
 |0=>0
 |n+1=>if xs.getD n 0=0 then trimLen xs n else n+1
theorem trimLen_le (xs:List Nat) (n:Nat):trimLen xs n<=n:=by
 induction n with
 |zero=>simp[trimLen]
 |succ n ih=>simp only[trimLen];split<;>omega
def jE (xs:List Nat):List Nat:=xs.take (trimLen xs xs.length)
theorem KL (B:Nat) (xs:List Nat) (n:Nat) (h:n<=xs.length):val B (xs.take (trimLen xs n))=val B (xs.take n):=by
 induction n with
 |zero=>rfl
 |succ n ih=>
  simp only[trimLen]
  split
  ·next h0=>
   rw[ih (by omega),pW _ _ _ (by omega)];rw[getD_lt (by omega)] at h0;simp[h0]
  ·rfl
theorem qA (B:Nat) (xs:List Nat):val B (jE xs)=val B xs:=by
 unfold jE;rw[KL _ _ _ (Nat.le_refl _),List.take_length]
theorem Le (xs:List Nat) (n:Nat) (hn:0<trimLen xs n):xs.getD (trimLen xs n-1) 0≠0:=by
 induction n with
 |zero=>simp[trimLen] at hn
 |succ n ih=>
  simp only[trimLen] at hn⊢;split
  ·next h0=>rw[if_pos h0] at hn;exact ih hn
  ·next h0=>simpa using h0
theorem lW (xs:List Nat):(jE xs).length=trimLen xs xs.length:=by
 unfold jE;rw[List.length_take_of_le (trimLen_le _ _)]
theorem tN (B:Nat) (xs:List Nat) (h:∀x∈xs,x<B):Canon B (jE xs):=by
 refine⟨fun x hx=>h x (List.mem_of_mem_take hx),fun hn=>?_⟩;have hl:=lW xs;have hp:0<trimLen xs xs.length:=by rw[<-hl];exact List.length_pos_iff.2 hn
 have h1:=Le xs xs.length hp;have hle:=trimLen_le xs xs.length;rw[List.getLast_eq_getElem]
 have:(jE xs)[(jE xs).length-1]'(by omega)=xs[trimLen xs xs.length-1]'(by omega):=by
  simp only[jE,List.getElem_take]
  congr 1;rw[List.length_take_of_le hle]
 rw[this];rwa[getD_lt (by omega)] at h1
theorem Vp (B:Nat) (hB:0<B) (xs:List Nat) (h:∀x∈xs,x<B) (j:Nat) (hj:j<xs.length):val B xs / B ^ j % B=xs[j]:=by
 induction xs generalizing j with
 |nil=>simp at hj
 |cons x xs ih=>
  have hx:=h x (by simp);cases j with
  |zero=>simp[val,Nat.add_mul_mod_self_left,Nat.mod_eq_of_lt hx]
  |succ j=>
   have:=ih (fun y hy=>h y (by simp[hy])) j (by simpa using hj);simp only[val,List.getElem_cons_succ,Nat.pow_succ]
   rw[Nat.mul_comm (B ^ j) B,<-Nat.div_div_eq_div_mul,Nat.add_mul_div_left _ _ hB,Nat.div_eq_of_lt hx,Nat.zero_add,this]
def eY (m n:Nat):List Nat:=(List.range m).map fun j=>n / (2 ^ 32) ^ j % 2 ^ 32
theorem ji (m n:Nat):(eY m n).length=m:=by simp[eY]
theorem Qi (m n:Nat):∀x∈eY m n,x<2 ^ 32:=by
 intro x hx;simp only[eY,List.mem_map] at hx;obtain⟨j,_,rfl⟩:=hx;exact Nat.mod_lt _ (by omega)
theorem Lh (m n j:Nat) (h:j<m):(eY m n).getD j 0=n / (2 ^ 32) ^ j % 2 ^ 32:=by
 rw[getD_lt (by rw[ji];exact h)];simp[eY]
theorem Vq (m:Nat):eY m 0=List.replicate m 0:=by
 apply List.ext_getElem<;>simp[eY]
theorem Lj (m n:Nat):val (2 ^ 32) (eY m n)=n % (2 ^ 32) ^ m:=by
 induction m with
 |zero=>simp[eY,val,Nat.mod_one]
 |succ m ih=>
  have e:eY (m+1) n=eY m n++[n / (2 ^ 32) ^ m % 2 ^ 32]:=by simp[eY,List.range_succ]
  rw[e,val_append,ih,ji,show (2 ^ 32) ^ (m+1)=(2 ^ 32) ^ m*2 ^ 32 from Nat.pow_succ ..,Nat.mod_mul];simp[val]
theorem zL (j:Nat):(2 ^ 32) ^ j=256 ^ (4*j):=by
 rw[show (2:Nat) ^ 32=256 ^ 4 from rfl,<-Nat.pow_mul]
theorem FW (m N k:Nat) (hN:N<256 ^ k) (hk:k / 4<m):(eY m N).getD (k / 4) 0<256 ^ (k % 4):=by
 rw[Lh _ _ _ hk,zL]
 have h:N / 256 ^ (4*(k / 4))<256 ^ (k % 4):=by
  rw[Nat.div_lt_iff_lt_mul (Nat.pow_pos (by omega)),<-Nat.pow_add];rwa[show k % 4+4*(k / 4)=k from by omega]
 exact Nat.lt_of_le_of_lt (Nat.mod_le _ _) h
theorem Vr (m N c k:Nat) (hN:N<256 ^ k) (hc:c<256) (hk:k / 4<m):
  eY m (c*256 ^ k+N)=(eY m N).set (k / 4) ((eY m N).getD (k / 4) 0+c*256 ^ (k % 4)):=by
 apply List.ext_getElem
 ·simp[eY]
 ·intro j h1 h2;rw[ji] at h1;rw[List.getElem_set];simp only[eY,List.getElem_map,List.getElem_range]
  split
  ·next he=>
   subst he;have hb:=FW m N k hN hk;have hg:=Lh m N (k / 4) hk;simp only[eY] at hb hg;rw[hg] at hb⊢;rw[zL] at hb⊢;have hk':k=4*(k / 4)+k % 4:=by omega
   have hp:0<256 ^ (4*(k / 4)):=Nat.pow_pos (by omega)
   have h3:N / 256 ^ (4*(k / 4))<256 ^ (k % 4):=by
    rw[Nat.div_lt_iff_lt_mul hp,<-Nat.pow_add];rwa[show k % 4+4*(k / 4)=k from by omega]
   have e:c*256 ^ k+N=N+256 ^ (4*(k / 4))*(c*256 ^ (k % 4)):=by
    conv=>lhs;rw[hk',Nat.pow_add]
    grind
   have hq:256 ^ (k % 4)*256<=2 ^ 32:=by
    have:k % 4=0∨k % 4=1∨k % 4=2∨k % 4=3:=by omega
    rcases this with h|h|h|h<;>rw[h]<;>decide
   have hm:c*256 ^ (k % 4)+256 ^ (k % 4)<=256 ^ (k % 4)*256:=by
    have:=Nat.mul_le_mul_right (256 ^ (k % 4)) (show c+1<=256 by omega)
    grind
   have h5:N / 256 ^ (4*(k / 4))+c*256 ^ (k % 4)<2 ^ 32:=by omega
   have h6:N / 256 ^ (4*(k / 4))<2 ^ 32:=by omega
   rw[e,Nat.add_mul_div_left _ _ hp,Nat.mod_eq_of_lt h5,Nat.mod_eq_of_lt h6]
  ·next he=>
   rw[zL];have hp:0<256 ^ (4*j):=Nat.pow_pos (by omega);rcases Nat.lt_or_ge j (k / 4) with hlt|hge
   ·have e:c*256 ^ k+N=N+256 ^ (4*j)*(2 ^ 32*(c*256 ^ (k-4*(j+1)))):=by
     have:256 ^ k=256 ^ (4*j)*(256 ^ 4*256 ^ (k-4*(j+1))):=by
      rw[<-Nat.pow_add,<-Nat.pow_add];congr 1;omega
     rw[this,show (256:Nat) ^ 4=2 ^ 32 from rfl];grind
    rw[e,Nat.add_mul_div_left _ _ hp,Nat.add_mul_mod_self_left]
   ·have hlt:c*256 ^ k+N<256 ^ (4*j):=by
     have h4:256 ^ (k+1)<=256 ^ (4*j):=Nat.pow_le_pow_right (by omega) (by omega);have:=Nat.mul_le_mul_right (256 ^ k) (show c+1<=256 by omega);rw[Nat.pow_succ] at h4
     grind
    have hN':N<256 ^ (4*j):=by omega
    rw[Nat.div_eq_of_lt hlt,Nat.div_eq_of_lt hN']
theorem qB (x c t:Nat) (h:x<2 ^ t):x|||(c*2 ^ t)=x+c*2 ^ t:=by
 rw[Nat.or_comm,<-Nat.shiftLeft_eq,<-Nat.shiftLeft_add_eq_or_of_lt h,Nat.add_comm]
theorem qC (B:Nat) (xs:List Nat) (k:Nat) (h:k<=xs.length):val B xs=val B (xs.take k)+B ^ k*val B (xs.drop k):=by
 have:=val_append B (xs.take k) (xs.drop k);rwa[List.take_append_drop,List.length_take_of_le h] at this
theorem Canon.wB {B:Nat} (hB:0<B) {xs ys:List Nat} (hx:Canon B xs) (hy:Canon B ys) (h:xs.length<ys.length):val B xs<val B ys:=by
 have h1:=gZ B xs hx.lt;have h2:=hy.ge (by intro e;subst e;simp at h);have h3:B ^ xs.length<=B ^ (ys.length-1):=Nat.pow_le_pow_right hB (by omega);omega
theorem qP (B:Nat) (xs ys:List Nat) (hx:∀x∈xs,x<B) (k:Nat) (h1:k<xs.length) (h2:k<ys.length)
  (hd:xs.drop (k+1)=ys.drop (k+1)) (hlt:xs.getD k 0<ys.getD k 0):val B xs<val B ys:=by
 rw[getD_lt h1,getD_lt h2] at hlt;rw[qC B xs (k+1) h1,qC B ys (k+1) h2,hd,pW _ _ _ h1,pW _ _ _ h2];have h3:=gZ B (xs.take k) (fun x hx'=>hx x (List.mem_of_mem_take hx'));rw[List.length_take_of_le (by omega)] at h3;have h4:B ^ k*(xs[k]+1)<=B ^ k*ys[k]:=Nat.mul_le_mul_left _ hlt;rw[Nat.mul_add] at h4;omega
theorem Bq (xs ys:List Nat) (k:Nat) (h1:k<xs.length) (h2:k<ys.length) (hd:xs.drop (k+1)=ys.drop (k+1)) (he:xs.getD k 0=ys.getD k 0):
  xs.drop k=ys.drop k:=by
 rw[getD_lt h1,getD_lt h2] at he;rw[List.drop_eq_getElem_cons h1,List.drop_eq_getElem_cons h2,he,hd]
def iE (n m:Nat):Int:=if n<m then-1 else if n=m then 0 else 1
theorem yL {n m:Nat} (h:n<m):iE n m= -1:=if_pos h
theorem Dz {n m:Nat} (h:m<n):iE n m=1:=by unfold iE;rw[if_neg (by omega),if_neg (by omega)]
theorem Qj (n:Nat):iE n n=0:=by unfold iE;simp
theorem dB (B:Nat) (xs:List Nat) (k:Nat):val B (xs.take (k+1))=val B (xs.take k)+B ^ k*xs.getD k 0:=by
 rcases Nat.lt_or_ge k xs.length with h|h
 ·rw[pW _ _ _ h,getD_lt h]
 ·rw[List.take_of_length_le (by omega),List.take_of_length_le h,List.getD_eq_getElem?_getD,List.getElem?_eq_none h];simp
theorem fQ (B:Nat) (os:List Nat) (y:Nat):val B (os++[y])=val B os+B ^ os.length*y:=by
 rw[val_append];simp[val]
theorem aT {xs:List Nat} {b:Nat} (hb:0<b) (h:∀x∈xs,x<b) (k:Nat):xs.getD k 0<b:=by
 rcases Nat.lt_or_ge k xs.length with hk|hk
 ·rw[getD_lt hk];exact h _ (List.getElem_mem hk)
 ·rw[List.getD_eq_getElem?_getD,List.getElem?_eq_none hk];exact hb
theorem fV {os:List Nat} {b y:Nat} (h:∀x∈os,x<b) (hy:y<b):∀x∈os++[y],x<b:=by
 intro x hx;rcases List.mem_append.1 hx with hx|hx
 ·exact h x hx
 ·obtain rfl:x=y:=by simpa using hx
  exact hy
theorem Ll {α:Type} (os:List α) (n k:Nat) (z y:α) (hk:os.length=k) (h:k<n):
  (os++List.replicate (n-k) z).set k y=(os++[y])++List.replicate (n-(k+1)) z:=by
 rw[List.set_append_right _ _ (by omega),show n-k=(n-(k+1))+1 from by omega,List.replicate_succ,hk,Nat.sub_self,List.set_cons_zero];simp
theorem Lm (B k:Nat) (xs ys os:List Nat) (c:Nat) (hB:0<B) (hk:os.length=k)
  (h:val B os+c*B ^ k=val B (xs.take k)+val B (ys.take k)):
  val B (os++[(xs.getD k 0+c+ys.getD k 0) % B])+(xs.getD k 0+c+ys.getD k 0) / B*B ^ (k+1)=val B (xs.take (k+1))+val B (ys.take (k+1)):=by
 rw[fQ,hk,dB,dB,Nat.pow_succ];generalize xs.getD k 0=x;generalize ys.getD k 0=y;have e:=Nat.div_add_mod (x+c+y) B;generalize (x+c+y) / B=q at*;generalize (x+c+y) % B=r at*
 grind
theorem uz {xs:List Nat} {b y:Nat} (h:∀x∈xs,x<b) (hy:y<b) (k:Nat):∀x∈xs.set k y,x<b:=by
 intro x hx;rcases List.mem_or_eq_of_mem_set hx with hx|rfl
 ·exact h x hx
 ·exact hy
theorem FX (B i j:Nat) (xs ys out:List Nat) (c:Nat) (hB:0<B) (hp:i+j<out.length)
  (h:val B out+c*B ^ (i+j)=val B (xs.take i)*val B ys+xs.getD i 0*val B (ys.take j)*B ^ i):
  val B (out.set (i+j) ((xs.getD i 0*ys.getD j 0+out.getD (i+j) 0+c) % B))+(xs.getD i 0*ys.getD j 0+out.getD (i+j) 0+c) / B*B ^ (i+(j+1))=
   val B (xs.take i)*val B ys+xs.getD i 0*val B (ys.take (j+1))*B ^ i:=by
 have hs:=Qg B out (i+j) hp ((xs.getD i 0*ys.getD j 0+out.getD (i+j) 0+c) % B);rw[<-getD_lt (d:=0) hp] at hs;rw[dB,<-Nat.add_assoc,Nat.pow_succ];have hpw:B ^ (i+j)=B ^ i*B ^ j:=Nat.pow_add ..;generalize out.getD (i+j) 0=o at*;generalize xs.getD i 0=x at*;generalize ys.getD j 0=y at*;have e:=Nat.div_add_mod (x*y+o+c) B;generalize (x*y+o+c) / B=q at*;generalize (x*y+o+c) % B=r at*;generalize B ^ (i+j)=E at*
 grind
theorem FY (B i:Nat) (xs ys out:List Nat) (c:Nat) (hp:i+ys.length<out.length) (h0:out.getD (i+ys.length) 0=0)
  (h:val B out+c*B ^ (i+ys.length)=val B (xs.take i)*val B ys+xs.getD i 0*val B (ys.take ys.length)*B ^ i):
  val B (out.set (i+ys.length) c)=val B (xs.take (i+1))*val B ys:=by
 have hs:=Qg B out (i+ys.length) hp c;rw[<-getD_lt (d:=0) hp,h0] at hs;rw[List.take_length] at h;rw[dB];generalize xs.getD i 0=x at*
 grind
theorem getD_set_ne (xs:List Nat) (k p y:Nat) (h:k≠p):(xs.set k y).getD p 0=xs.getD p 0:=by
 simp[List.getD_eq_getElem?_getD,List.getElem?_set_ne h]
theorem Bv (x y o c:Nat) (hx:x<4294967296) (hy:y<4294967296) (ho:o<4294967296) (hc:c<4294967296):
  x*y<=18446744065119617025:=by
 have:=Nat.mul_le_mul (show x<=4294967295 by omega) (show y<=4294967295 by omega);omega
theorem FZ (B b k:Nat) (xs qs:List Nat) (r:Nat) (hk:k<xs.length) (h:val B (xs.drop (k+1))=val B qs*b+r):
  val B (xs.drop k)=val B ((r*B+xs.getD k 0) / b::qs)*b+(r*B+xs.getD k 0) % b:=by
 rw[List.drop_eq_getElem_cons hk,val,h,getD_lt hk,val];generalize xs[k]=x;have e:=Nat.div_add_mod (r*B+x) b;generalize (r*B+x) / b=q at*;generalize (r*B+x) % b=t at*
 grind
theorem xH {α:Type} (k n:Nat) (qs:List α) (z y:α):(List.replicate (k+1) z++qs).set k y=List.replicate k z++(y::qs):=by
 rw[List.replicate_succ',List.append_assoc,List.set_append_right _ _ (by simp)];simp
def vb:List UInt8->Nat
 |[]=>0
 |c::l=>c.toNat*256 ^ l.length+vb l
theorem nZ (l m:List UInt8):vb (l++m)=vb l*256 ^ m.length+vb m:=by
 induction l with
 |nil=>simp[vb]
 |cons c l ih=>simp only[List.cons_append,vb,ih,List.length_append,Nat.pow_add];grind
theorem tV (l:List UInt8):vb l<256 ^ l.length:=by
 induction l with
 |nil=>simp[vb]
 |cons c l ih=>
  have:=c.toNat_lt;simp only[vb,List.length_cons,Nat.pow_succ]
  have h3:(c.toNat+1)*256 ^ l.length<=256*256 ^ l.length:=Nat.mul_le_mul_right _ (by omega);rw[Nat.add_mul] at h3;omega
theorem ace (l:List UInt8) (k:Nat) (h:k<l.length):
  vb (l.drop (l.length-(k+1)))=(l.getD (l.length-1-k) 0).toNat*256 ^ k+vb (l.drop (l.length-k)):=by
 have e1:l.length-(l.length-k)=k:=by omega
 have e2:l.length-(k+1)=l.length-1-k:=by omega
 have e3:l.length-1-k+1=l.length-k:=by omega
 rw[e2,List.drop_eq_getElem_cons (by omega),e3,vb,List.length_drop,getD_lt (by omega),e1]
def AX:Nat->Nat->List UInt8->List UInt8
 |0,_,acc=>acc
 |f+1,n,acc=>if n=0 then acc else AX f (n / 256) (UInt8.ofNat (n % 256)::acc)
def nb (n:Nat):List UInt8:=AX n n []
theorem RG (f n:Nat) (acc:List UInt8):AX f n acc=AX f n []++acc:=by
 induction f generalizing n acc with
 |zero=>simp[AX]
 |succ f ih=>
  simp only[AX]
  split
  ·simp
  ·rw[ih,ih (n / 256) [_]];simp
theorem YN (f g n:Nat) (acc:List UInt8) (hf:n<=f) (hg:n<=g):AX f n acc=AX g n acc:=by
 induction f generalizing n acc g with
 |zero=>obtain rfl:n=0:=by omega
        cases g<;>simp[AX]
 |succ f ih=>
  cases g with
  |zero=>obtain rfl:n=0:=by omega
         simp[AX]
  |succ g=>
   simp only[AX]
   split
   ·rfl
   ·exact ih _ _ _ (by omega) (by omega)
theorem acf:nb 0=[]:=rfl
theorem DC (n:Nat) (h:n≠0):nb n=nb (n / 256)++[UInt8.ofNat (n % 256)]:=by
 unfold nb;obtain⟨m,rfl⟩:∃m,n=m+1:=⟨n-1,by omega⟩
 rw[AX,if_neg h,RG,YN m ((m+1)/256) _ _ (by omega) (Nat.le_refl _)]
theorem tX (n:Nat):vb (nb n)=n:=by
 induction n using Nat.strongRecOn with
 |_ n ih=>
  by_cases h:n=0
  ·subst h;rfl
  ·rw[DC n h,nZ,ih (n / 256) (by omega)];simp[vb];omega
theorem F5 (n:Nat) (h:n≠0):nb n≠[]:=by rw[DC n h];simp
def uD (l:List UInt8):Prop:=∀h:l≠[],l.head h≠0
theorem sD (n:Nat):uD (nb n):=by
 induction n using Nat.strongRecOn with
 |_ n ih=>
  intro hn;by_cases h:n=0
  ·subst h;exact absurd rfl hn
  ·have hs:=DC n h;by_cases h2:n / 256=0
   ·rw[h2,acf] at hs;have:(nb n).head hn=UInt8.ofNat (n % 256):=by simp[hs]
    rw[this];intro h0;have:=congrArg UInt8.toNat h0;simp at this;omega
   ·have hne:=F5 _ h2;have:(nb n).head hn=(nb (n / 256)).head hne:=by simp[hs,hne]
    rw[this];exact ih (n / 256) (by omega) hne
theorem F6 (c:UInt8) (l:List UInt8) (h:c≠0):256 ^ l.length<=vb (c::l):=by
 have:1<=c.toNat:=by
  rcases Nat.eq_zero_or_pos c.toNat with h0|h0
  ·exact absurd (UInt8.toNat_inj.1 h0) h
  ·exact h0
 have h3:=Nat.mul_le_mul_right (256 ^ l.length) this;simp only[vb];omega
theorem af4 (l:List UInt8) (h:uD l):nb (vb l)=l:=by
 suffices H:∀n (l:List UInt8),l.length=n->uD l->nb (vb l)=l from H _ l rfl h
 intro n
 induction n with
 |zero=>intro l hl _;rw[List.eq_nil_of_length_eq_zero hl];rfl
 |succ n ih=>
  intro l hl h;have hne:l≠[]:=by intro e;subst e;simp at hl
  obtain⟨m,c,rfl⟩:∃m c,l=m++[c]:=⟨l.dropLast,l.getLast hne,(List.dropLast_concat_getLast hne).symm⟩
  have hm:m.length=n:=by simpa using hl
  have hR:uD m:=by
   intro hm0;have:=h hne;rw[List.head_append_left hm0] at this;exact this
  have e1:vb (m++[c])=vb m*256+c.toNat:=by rw[nZ];simp[vb]
  have hc:=c.toNat_lt
  have hnz:vb (m++[c])≠0:=by
   obtain⟨d,t,ed⟩:∃d t,m++[c]=d::t:=List.exists_cons_of_ne_nil hne;have hd:d≠0:=by have:=h hne;simpa [ed] using this
   have:=F6 d t hd;rw[ed];have:0<256 ^ t.length:=Nat.pow_pos (by omega);omega
  rw[DC _ hnz,e1];have e2:(vb m*256+c.toNat) / 256=vb m:=by omega
  have e3:(vb m*256+c.toNat) % 256=c.toNat:=by omega
  rw[e2,e3,ih m hm hR];simp
def og (l:List UInt8):List UInt8:=l.dropWhile (·==0)
theorem Vs (l:List UInt8):vb (og l)=vb l:=by
 unfold og
 induction l with
 |nil=>rfl
 |cons c l ih=>
  rw[List.dropWhile_cons];split
  ·next h=>obtain rfl:c=0:=by simpa using h
           rw[ih];simp[vb]
  ·rfl
theorem Lp (l:List UInt8):uD (og l):=by
 unfold og
 induction l with
 |nil=>intro h;simp at h
 |cons c l ih=>
  rw[List.dropWhile_cons];split
  ·exact ih
  ·next h=>intro _;simpa using h
theorem Bz (l:List UInt8):og l=nb (vb l):=by
 rw[<-Vs,af4 _ (Lp l)]
def be:Nat->Nat->List UInt8
 |0,_=>[]
 |n+1,N=>UInt8.ofNat (N / 256 ^ n % 256)::be n N
theorem qE (n N:Nat):(be n N).length=n:=by induction n<;>simp_all [be]
theorem RH (n N:Nat):vb (be n N)=N % 256 ^ n:=by
 induction n with
 |zero=>simp[be,vb,Nat.mod_one]
 |succ n ih=>
  rw[show 256 ^ (n+1)=256 ^ n*256 from Nat.pow_succ ..,Nat.mod_mul,be,vb,qE,ih];simp;grind
theorem Vt (n N:Nat) (h:N<256 ^ n):og (be n N)=nb N:=by rw[Bz,RH,Nat.mod_eq_of_lt h]
theorem acg (n k N:Nat) (h:k<n):
  (List.replicate (n-k) 0++be k N).set (n-1-k) (UInt8.ofNat (N / 256 ^ k % 256))=List.replicate (n-(k+1)) 0++be (k+1) N:=by
 rw[show n-k=(n-(k+1))+1 from by omega,List.replicate_succ',List.append_assoc,List.set_append_right _ _ (by simp;omega)];simp[be,show n-1-k-(n-(k+1))=0 from by omega]
theorem RI (xs:List Nat) (h:∀x∈xs,x<2 ^ 32) (k:Nat) (hk:k / 4<xs.length):
  xs.getD (k / 4) 0 / 2 ^ (8*(k % 4)) % 256=val (2 ^ 32) xs / 256 ^ k % 256:=by
 rw[getD_lt hk,<-Vp (2 ^ 32) (by omega) xs h _ hk,zL];rw[show (2:Nat) ^ (8*(k % 4))=256 ^ (k % 4) from by rw[Nat.pow_mul]];generalize val (2 ^ 32) xs=N
 have e:N / 256 ^ k=N / 256 ^ (4*(k / 4)) / 256 ^ (k % 4):=by
  rw[Nat.div_div_eq_div_mul,<-Nat.pow_add];congr 2;omega
 rw[e];generalize N / 256 ^ (4*(k / 4))=M;have h3:k % 4=0∨k % 4=1∨k % 4=2∨k % 4=3:=by omega
 rcases h3 with h|h|h|h<;>rw[h]<;>omega
def aC (n:Nat):ByteArray:=⟨(nb n).toArray⟩
def ay (s:ByteArray):Nat:=vb s.data.toList
theorem bJ (n:Nat):ay (aC n)=n:=by simp[ay,aC,tX]
theorem fF (s:ByteArray):ay s<256 ^ s.size:=by have:=tV s.data.toList;simpa [ay] using this
theorem Jj (a b N:Nat):be (a+b) N=be a (N / 256 ^ b)++be b N:=by
 induction a with
 |zero=>simp[be]
 |succ a ih=>
  rw[show a+1+b=(a+b)+1 from by omega,be,ih,be,Nat.div_div_eq_div_mul,<-Nat.pow_add,Nat.add_comm b a];rfl
theorem adn (b N:Nat):be b (N % 256 ^ b)=be b N:=by
 suffices H:∀c,c<=b->be c (N % 256 ^ b)=be c N from H b (Nat.le_refl _)
 intro c hc
 induction c with
 |zero=>rfl
 |succ c ih=>
  rw[be,be,ih (by omega)];congr 2
  have e:256 ^ b=256 ^ c*(256*256 ^ (b-c-1)):=by
   rw[show (256:Nat)*256 ^ (b-c-1)=256 ^ (b-c) from by rw[Nat.mul_comm,<-Nat.pow_succ];congr 1;omega,<-Nat.pow_add];congr 1;omega
  rw[e,Nat.mod_mul_right_div_self,Nat.mod_mul_right_mod]
theorem YO (j x M:Nat) (hx:x<16777216):be (3*j+3) (x+16777216*M)=be (3*j) M++[UInt8.ofNat (x / 65536 % 256),UInt8.ofNat (x / 256 % 256),UInt8.ofNat (x % 256)]:=by
 rw[Jj,show (x+16777216*M) / 256 ^ 3=M from by omega,<-adn 3,show (x+16777216*M) % 256 ^ 3=x from by omega];simp[be]
end Go.Proofs.YtimokmplkpbmdaaGreatDoor
