/- Part: G8 G9 E9 Ga. -/
import Derived.Test.YtjpbmbgincdjaaaGreatDoorK21
set_option linter.all false
set_option maxRecDepth 100000
set_option maxHeartbeats 0
namespace Go.Proofs.YtjpbmbgincdjaaaGreatDoor
open Go.RowKit List World Tryz
section
variable {P:Program}
theorem IL (W:World) (news:Array Value) {ops:Array Oper} {rest:List Oper} {o:Oper} {a:Act} {Q:Exit->Act->World->Prop} (hgd:o.guard=none) (s x:Operand) (t:TypeId)
  (ho:o.op=.call {callee:=.builtin .append,args:=#[s,x],argTypes:=#[t,t]})
  (base:Nat) (e:TypeId) (z:Value) (size bytes m:Nat) (ht:P.underlying t=some (.slice e)) (hinfo:(P.info? e).map (fun i=>(i.zero,i.size,i.bytes))=some (some z,size,bytes)) (hzs:z.cells.size=size) (hsz:0<size)
  (v:Value) (n:Nat) (xs:List Value) (hs:a.eval s=v) (hown:W.ownsRow base e size v n xs)
  (hx:a.eval x=.slice (some ⟨W.heap.size,0,none⟩) m m) (hl:news.size=m*size) (h1:∀u∈news.toList,u.oneCell'=true)
  (h63:n+m<=maxLen) (hbytes:(n+m)*bytes<=140737488355328) (hbase:base<=W.heap.size)
  (h:∀v' w',w'.ownsRow base e size v' (n+m) (xs++news.toList)->W.grownBy w' v.ownBlock->(∀g,v'.ownBlock=some g->v.ownBlock=some g∨W.heap.size<=g)->wpList P ops Q rest (a.put o.dst v') w'):
  wpList P ops Q (o::rest) a (W.alloc (.cells news e)):=by
 obtain⟨i,hi,hzz⟩:=Option.map_eq_some_iff.1 hinfo;simp only[Prod.mk.injEq] at hzz;obtain⟨hz,hs1,hb⟩:=hzz;refine wpList_append_own_at (w:=W.alloc (.cells news e)) hgd s x t ho base e i z size bytes ht hi hz hs1 hb hzs hsz v n xs hs (hown.alloc _) ⟨W.heap.size,0,none⟩ m m news.toList hx (by simpa using hl) ?_ h1 h63 hbytes (by simp;omega) ?_
 ·intro j u hj;have hb:=aj.new W e news;have hj':j<news.toList.length:=(List.getElem?_eq_some_iff.1 hj).1;have:=hb.cell hj';rw[show Addr.add ⟨W.heap.size,0,none⟩ j=⟨W.heap.size,j,none⟩ from by unfold Addr.add;split<;>simp_all,this,<-(List.getElem?_eq_some_iff.1 hj).2]
 ·intro v' w' hown' hg _ hv;refine h v' w' hown' ?_ ?_
  ·have ha:=grownBy_alloc W (.cells news e) v.ownBlock;exact⟨hg.os.trans ha.os,hg.tape.trans ha.tape,hg.output.trans ha.output,Nat.le_trans ha.size hg.size,fun k hk hne=>(hg.block k (Nat.lt_of_lt_of_le hk ha.size) hne).trans (ha.block k hk hne)⟩
  ·intro g hgv;rcases hv with hv|hv
   ·exact .inl (by rw[<-hv];exact hgv)
   ·rw[hv] at hgv;injection hgv with hgv;subst hgv;exact .inr (by rw[size_alloc];omega)
end
def Row1 (w:World) (X:Nat->Prop) (v:Value) (l:List Nat):Prop:=
 ∃A c,v=.slice A l.length c/\l.length<=c/\c<=maxLen/\Rd w A (I l)/\(l≠[]->∀ad,A=some ad->¬X ad.block)
theorem Row1.step {w w':World} {X X':Nat->Prop} {v:Value} {l:List Nat} {row:Option Nat} (h:Row1 w X v l) (hg:w.grownBy w' row) (hr:∀g,row=some g->X g) (hX:∀g,X' g->X g∨w.heap.size<=g):Row1 w' X' v l:=by
 obtain⟨A,c,rfl,h1,h2,h3,h4⟩:=h;refine⟨A,c,rfl,h1,h2,?_,?_⟩
 ·rcases h3 with h3|⟨b,off,rfl,hb,hc⟩
  ·exact .inl h3
  ·by_cases hl:l=[]
   ·subst hl;exact .inl rfl
   ·refine .inr ⟨b,off,rfl,Nat.lt_of_lt_of_le hb hg.size,fun i hi=>?_⟩;refine hg.cell (hc i hi) ?_;intro e;exact h4 hl _ rfl (hr b e.symm)
 ·intro hl ad hA hx;rcases hX _ hx with hx|hx
  ·exact h4 hl ad hA hx
  ·rcases h3 with h3|⟨b,off,hA',hb,hc⟩
   ·apply hl;have:=congrArg List.length h3;rw[jo] at this;exact eq_nil_of_length_eq_zero this
   ·rw[hA] at hA';injection hA' with e;subst e;exact absurd hx (by show ¬_<=b;omega)
structure LL (w:World) (X:Nat->Prop) (ls:List (List Nat)) (cs:List Value):Prop where
 len:cs.length=ls.length
 row:∀(i:Nat) (l:List Nat),ls[i]?=some l->∃v,cs[i]?=some v/\Row1 w X v l
theorem LL.step {w w':World} {X X':Nat->Prop} {ls:List (List Nat)} {cs:List Value} {row:Option Nat} (h:LL w X ls cs) (hg:w.grownBy w' row) (hr:∀g,row=some g->X g) (hX:∀g,X' g->X g∨w.heap.size<=g):LL w' X' ls cs:=
 ⟨h.len,fun i l hl=>by
   obtain⟨v,h1,h2⟩:=h.row i l hl;exact⟨v,h1,h2.step hg hr hX⟩⟩
theorem LL.snoc {w:World} {X:Nat->Prop} {ls:List (List Nat)} {cs:List Value} {l:List Nat} {v:Value} (h:LL w X ls cs) (hr:Row1 w X v l):LL w X (ls++[l]) (cs++[v]):=by
 refine⟨by simp[h.len],fun i l' hl=>?_⟩;rcases Nat.lt_trichotomy i ls.length with hi|hi|hi
 ·rw[getElem?_append_left hi] at hl;obtain⟨v',h1,h2⟩:=h.row i l' hl;exact⟨v',by rw[getElem?_append_left (by rw[h.len];exact hi)];exact h1,h2⟩
 ·subst hi;rw[getElem?_append_right (Nat.le_refl _)] at hl;simp at hl;subst hl;exact⟨v,by rw[<-h.len,getElem?_append_right (Nat.le_refl _)];simp,hr⟩
 ·rw[getElem?_eq_none (by simp;omega)] at hl;cases hl
theorem below_grown {w w':World} (hb:Below w.heap.size w w'):w.grownBy w' none:=⟨hb.os,hb.tape,hb.output,hb.size,fun k hk _=>hb.block k hk⟩
theorem LL.below {w w':World} {X:Nat->Prop} {ls:List (List Nat)} {cs:List Value} (h:LL w X ls cs) (hb:Below w.heap.size w w'):LL w' X ls cs:=
 h.step (below_grown hb) (fun g h=>by cases h) (fun g h=>.inl h)
theorem own_below {w w':World} {base:Nat} {e:TypeId} {size:Nat} {v:Value} {n:Nat} {xs:List Value} (h:w.ownsRow base e size v n xs) (hb:Below w.heap.size w w'):w'.ownsRow base e size v n xs:=
 h.kept (below_grown hb) (by
  cases hv:v.ownBlock with
  |none=>exact .inl rfl
  |some g=>exact .inr (by intro h;cases h))
theorem ad1 {w:World} {base:Nat} {e:TypeId} {A:Option Addr} {n c m:Nat} {xs:List Value} (h:w.ownsRow base e 1 (.slice A n c) n xs) (hm:m<=n):w.ownsRow base e 1 (.slice A m c) m (xs.take m):=by
 refine⟨by rw[length_take,h.1];omega,?_⟩;rcases h.2 with⟨hv,h0⟩|⟨g,cap,cur,hv,hb,hh,hn,hc,hs,ht⟩
 ·injection hv with e1 e2 e3;subst e1 e3;exact .inl ⟨by rw[show m=0 from by omega],by omega⟩
 ·injection hv with e1 e2 e3;subst e1 e3;refine .inr ⟨g,c,cur,rfl,hb,hh,by omega,hc,hs,?_⟩;rw[<-ht,take_take];congr 1;omega
theorem y8 {n:Nd} {r:List Nd} {d:Nat} (h:chk (n::r) d=0):aQ n=0/\(aG n.op).ops<=d/\chk r (d-(aG n.op).ops+1)=0:=by
 rw[chk] at h;split at h
 ·next h1=>exact absurd h h1
 ·next h1=>
  split at h
  ·cases h
  ·exact⟨by simpa using h1,by omega,h⟩
theorem EG (st:List Nat) (o:Nat) (h:o<=st.length):(st.reverse.take o).reverse=st.drop (st.length-o)/\st.reverse.drop o=(st.take (st.length-o)).reverse:=by
 constructor
 ·rw[take_reverse,reverse_reverse]
 ·rw[drop_reverse]
theorem agf (xs:List Nat) (n:Nat):I xs++[.int .i64 (n:Int)]=I (xs++[n]):=by unfold I;rw[map_append];rfl
theorem RU {w:World} {base:Nat} {e:TypeId} {v:Value} {l:List Nat} {X:Nat->Prop} (h:w.ownsRow base e 1 v l.length (I l)) (hX:∀g,X g->g<base):Row1 w X v l:=by
 obtain⟨A,c,rfl,h1,h2,h3,h4⟩:=yj h;exact⟨A,c,rfl,h1,h2,h3,fun _ ad hA hx=>by have:=h4 ad hA;have:=hX _ hx;omega⟩
theorem NM (A:Option Addr) (n m c c':Nat):(Value.slice A n c).ownBlock=(Value.slice A m c').ownBlock:=by cases A<;>rfl
theorem X7:(prog.info? 106).map (fun i=>(i.zero,i.size,i.bytes))=some (some (.slice none 0 0),1,24):=by kernel_rfl
structure GI (w:World) (ls:List (List Nat)) (A:Option Addr) (n c:Nat):Prop where
 len:n=ls.length
 cap:n<=c
 max:c<=maxLen
 rows:∃cs,Rd w A cs/\LL w (fun _=>False) ls cs
def Dj (ok:Bool) (ls:List (List Nat)) (w:World) (e:Ending) (w':World):Prop:=∃A n c,e=.returned (.tuple #[.slice A n c,.bool ok])/\GI w' ls A n c/\Below w.heap.size w w'
theorem Dj.bad {w w':World} (hb:Below w.heap.size w w'):Dj false [] w (.returned (.tuple #[.slice none 0 0,.bool false])) w':=
 ⟨none,0,0,rfl,⟨rfl,Nat.le_refl _,by unfold maxLen;omega,[],.inl rfl,rfl,fun i l h=>by simp at h⟩,hb⟩
theorem agh (l:List Nat):I l=(l.map (fun n:Nat=>(n:Int))).map (Value.int .i64):=by unfold I;rw[map_map];rfl
theorem Vb {l:List Nat} {X:Option Addr} {m c:Nat} {W:World} (hm:m=l.length) (h:Rd W X (I l)) (h60:m<=60):
  Calls prog 210 #[.slice X m c] W fun e w'=>∃v',e=.returned v'/\Row1 w' (fun g=>g<W.heap.size) v' l/\Below W.heap.size W w':=by
 cases X with
 |none=>
  have hl:l=[]:=by
   rcases h with h|⟨b,off,h,_⟩
   ·have:=congrArg List.length h;rw[jo] at this;exact eq_nil_of_length_eq_zero this
   ·cases h
  subst hl;refine (Tryz.slices_Clone_int_nil m c W).mono ?_;rintro e w' ⟨rfl,rfl⟩;exact⟨_,rfl,⟨none,0,rfl,Nat.le_refl _,by unfold maxLen;omega,.inl rfl,fun h=>absurd rfl h⟩,Below.refl _ _⟩
 |some a=>
  rcases Nat.eq_zero_or_pos m with h0|h0
  ·subst h0;obtain rfl:l=[]:=eq_nil_of_length_eq_zero hm.symm;refine (Tryz.slices_Clone_int_zero a c W).mono ?_;rintro e w' ⟨v',rfl,ho,_,hb⟩;exact⟨_,rfl,RU (l:=[]) ho (fun g hg=>hg),hb⟩
  ·obtain⟨b,off,e,_,hc⟩:=h.at_ (k:=0) (by rw[jo];omega);injection e with e;subst e;refine (Tryz.slices_Clone_int b off m c (l.map (fun n:Nat=>(n:Int))) W (by simp;omega) (by omega) ?_).mono ?_
   ·intro j hj;rw[length_map] at hj;rw[hc j (by rw[jo];exact hj),Lr];rw[getD_eq_getElem?_getD,getD_eq_getElem?_getD,getElem?_map];rw[getElem?_eq_getElem hj];rfl
   ·rintro e w' ⟨v',rfl,ho,_,hb⟩;rw[take_of_length_le (by simp;omega),<-agh,hm] at ho;exact⟨_,rfl,RU ho (fun g hg=>hg),hb⟩
theorem aaB (cs:List Value) (n:Nat) (v z:Value) (k:Nat) (hk:cs.length=k) (hn:k<n):(cs++List.replicate (n-k) z).set k v=(cs++[v])++List.replicate (n-(k+1)) z:=by
 rw[set_append_right _ _ (by omega),hk,Nat.sub_self,show n-k=(n-(k+1))+1 from by omega,replicate_succ,set_cons_zero,append_assoc];rfl
theorem NP (w:World) (p:Addr) (v:Value):(w.setCell p v).heap.size=w.heap.size:=by simp[World.setCell]
theorem uj (w:World) (g i:Nat) (u:Value):w.grownBy (w.setCell ⟨g,i,none⟩ u) (some g):=
 ⟨rfl,rfl,rfl,by simp[World.setCell],fun k _ hne=>Below.heap_setCell w _ u k (fun h=>hne (by rw[h]))⟩
theorem Rd.drop {w:World} {A:Option Addr} {cs:List Value} (h:Rd w A cs) (m:Nat):Rd w (A.map (·.add m)) (cs.drop m):=by
 rcases h with rfl|⟨b,off,rfl,hb,hc⟩
 ·exact .inl (by simp)
 ·refine .inr ⟨b,off+m,?_,hb,fun i hi=>?_⟩
  ·simp only[Option.map_some,Option.some.injEq]
   unfold Addr.add;split<;>simp_all
  ·rw[length_drop] at hi;rw[getElem_drop,Nat.add_assoc];exact hc (m+i) (by omega)
def GK (ok:Bool) (ls:List (List Nat)) (w:World) (e:Ending) (w':World):Prop:=∃A n c,e=.returned (.tuple #[.slice A n c,.bool ok])/\GI w' ls A n c/\Below w.heap.size w w'/\(∀ad,A=some ad->w.heap.size<=ad.block)/\∃cs,Rd w' A cs/\LL w' (fun g=>g<w.heap.size) ls cs
theorem GK.bad {w w':World} (hb:Below w.heap.size w w'):GK false [] w (.returned (.tuple #[.slice none 0 0,.bool false])) w':=
 ⟨none,0,0,rfl,⟨rfl,Nat.le_refl _,by unfold maxLen;omega,[],.inl rfl,rfl,fun i l h=>by simp at h⟩,hb,(fun _ h=>by cases h),[],.inl rfl,rfl,fun i l h=>by simp at h⟩
theorem NQ (es:List Nd) (A1:Option Addr) (l1 c1:Nat) (w:World) (hL:eX w) (h1:Es w es A1 l1 c1) (hf1:∀n∈es,Fine n):
  Calls prog 157 #[.slice A1 l1 c1] w (GK (aX es==0) (if aX es=0 then iZ es else []) w):=by
 have HC:=zH (check_any es A1 l1 c1 w hL h1.len h1.cap h1.max h1.rd hf1);have H1:=zH h1;have HL:=zH hL;by_cases hz:aX es=0
 ·have hk:=((oZ es).1 hz).1;rw[<-h1.len] at hk;have JV:=zH (JW hz)
  have hch:chk es 0=0:=by
   have:=hz;unfold aX at this;rwa[if_neg (by have:=h1.len;omega)] at this
  have NK:=zH hch;rw[hz] at HC⊢;rw[if_pos rfl];clear hz h1 hf1 hch hL;go_enter func157,ntmps157;go_wp2_with fail;refine HC.out.mono ?_;rintro e w1 ⟨rfl,hb1⟩;go_wp2_with (refine dS _ rfl _ _ 22 rfl 106 (.slice none 0 0) 24 underlying22 X7 rfl _ _ _ _ l1 rfl rfl rfl rfl (by omega) (by omega) ?_;intro w2 hko hb2);have hB2:=ah hb1 hb2;obtain⟨Bo,hBo⟩:=zE w1.heap.size;rw[<-hBo] at hko⊢;have agj:w.heap.size<=Bo:=by rw[hBo];exact hb1.size
  clear hb1 hb2 hBo;go_wp2
  go_loopg [5,17] l1 (fun g sv iv wr=>∃(k:Nat) (st:List Nat) (done:List (List Nat)) (cs:List Value) (A:Option Addr) (cp:Nat),k+g=l1/\iv=.int .i64 k/\sv=.slice A st.length cp/\st.length<=k/\
   Hid (aj wr Bo 106 (cs++List.replicate (l1-k) (.slice none 0 0)))/\Hid (wr.ownsRow (Bo+1) 3 1 (.slice A st.length cp) st.length (I st))/\Hid (iZ es=done++ig (es.drop k) k st.reverse)/\
   Hid (LL wr (fun g=>(Value.slice A st.length cp).ownBlock=some g∨g=Bo∨g<w.heap.size) done cs)/\Hid (chk (es.drop k) st.length=0)/\Hid (done.length=k)/\Below w.heap.size w wr)
  case atStart=>
   refine⟨0,[],[],[],none,0,by omega,rfl,rfl,by simp,?_,ownsRow_nil _ _ _ _,rfl,?_,NK.out,rfl,hB2⟩
   ·exact hko
   ·exact⟨rfl,fun i l h=>by simp at h⟩
  case round=>
   obtain⟨k,st,done,cs,A,cp,hk',rfl,rfl,aoP,X8,hos,har,hll,hck,hdl,hbr⟩:=hrel;clear hB2 hko;have aaC:Hid (cs.length=k):=by show _=_;rw[hll.out.len,hdl.out]
   by_cases hlt:k<l1
   ·have hke:k<es.length:=by rw[<-H1.out.len];exact hlt
    obtain⟨b,off,hA,hb,hc0,hc1,hc2,hc3,hc4⟩:=(H1.out.rd.below hbr).nd hke;subst hA;have hcons:=drop_eq_getElem_cons hke;have aaD:=hck.out;rw[hcons] at aaD;obtain⟨hw0,hops,Vd⟩:=y8 aaD;have alQ:=Bl hw0
    have xO:iZ es=done++(((st.reverse.take (aG es[k].op).ops).reverse)::ig (es.drop (k+1)) (k+1) (k::st.reverse.drop (aG es[k].op).ops)):=by
     rw[har.out,hcons,ig]
    generalize es[k]=nn at*;obtain⟨op,⟨neg,num,den⟩,nm⟩:=nn;simp only at hc0 hc1 hc2 hc3 hc4 hops Vd alQ xO;obtain⟨p,rfl⟩:∃p:Nat,op=p:=⟨op.toNat,by omega⟩
    have hla:=(HL.out.below hbr).alloc (.cells #[.int .i64 (p:Int),.bool neg,.string num,.string den,.string nm] 104);have ht:=hla.cell p 1 (by omega) (by omega);simp only[Sh.cells,getElem?_cons_succ,getElem?_cons_zero] at ht;generalize (aG (p:Int)).ops=o at*;clear hcons aaD hck har hw0 hla;have hro:=EG st o hops;rw[hro.1,hro.2] at xO;obtain⟨rP,agk⟩:=zF (st.length-o);have alR:rP+o=st.length:=by omega
    have aoQ:(st.length:Int)-o=(rP:Int):=by omega
    have hrest:IntKind.i64.wrap ((st.length:Int)-o)=(rP:Int):=by rw[IntWalk.i64_in _ (by omega)];omega
    rw[agk] at xO Vd;have HCK:=zH Vd;obtain⟨l9,hl9⟩:=zF (st.drop rP);have agl:l9.length=st.length-rP:=by rw[<-hl9,length_drop]
    rw[hl9] at xO;have HAR:=zH xO;clear hro agk xO Vd;have hwa:wr.grownBy (wr.alloc (.cells #[.int .i64 (p:Int),.bool neg,.string num,.string den,.string nm] 104)) none:=grownBy_alloc _ _ _;have hba:Below wr.heap.size wr (wr.alloc (.cells #[.int .i64 (p:Int),.bool neg,.string num,.string den,.string nm] 104)):=(Below.refl _ _).alloc (Nat.le_refl _) _;obtain⟨A',c',hv,hcp1,hcp2,hrd,_⟩:=dK hos.out;injection hv with q1 q2 q3;subst q1 q3;unfold maxLen at hcp2;obtain⟨A8,hA8⟩:=zF (if cp=rP then A else Option.map (fun x=>x.add rP) A)
    have HR8:Hid (Rd (wr.alloc (.cells #[.int .i64 (p:Int),.bool neg,.string num,.string den,.string nm] 104)) A8 (I l9)):=by
     show Rd _ _ _;rw[<-hA8,<-hl9];split
     ·rw[drop_of_length_le (by omega)];exact .inl rfl
     ·unfold I;rw[map_drop];exact (hrd.below hba).drop rP
    have hra:rP+o<=st.length:=by omega
    have hrb:st.length<=rP+o:=by omega
    have alS:=zH agl;clear alR agl hrd;have RX:=zH ((X8.out.below hba X8.out.lt));have HOS:=zH (own_below hos.out hba);have GL:=zH (hll.out.below hba);have kU:=zH (hbr.trans (hba.mono hbr.size));have HHS:Hid (wr.heap.size<=(wr.alloc (.cells #[.int .i64 (p:Int),.bool neg,.string num,.string den,.string nm] 104)).heap.size):=hba.size;have aoR:k<=60:=by omega
    clear X8 hos hll hbr hwa hba hl9;generalize hWA:wr.alloc (.cells #[.int .i64 (p:Int),.bool neg,.string num,.string den,.string nm] 104)=WA at RX HOS GL kU HHS HR8;have HWA:=zH hWA;clear hWA;go_wp2_with fail;rw[HWA.out];refine (Vb (l:=l9) (by have:=alS.out;omega) HR8.out (by omega)).mono ?_;rintro e w2 ⟨v',rfl,hrow,hb2⟩;have hrow1:=hrow;obtain⟨A9,c9,rfl,_⟩:=hrow1;have Ve:=RX.out.below hb2 RX.out.lt;have hcB:=Ve.cell (i:=k) (by rw[length_append,length_replicate,aaC.out];omega);rw[getElem_append_right (by rw[aaC.out];exact Nat.le_refl _),getElem_replicate] at hcB;have hfB:=Ve.frozen k;have hks:=Ve.set k (.slice A9 l9.length c9);rw[aaB cs l1 (.slice A9 l9.length c9) (.slice none 0 0) k aaC.out hlt] at hks;have hgs:=uj w2 Bo k (.slice A9 l9.length c9);have aaE:WA.ownsRow (Bo+1) 3 1 (.slice A st.length cp) st.length (I st):=HOS.out;have aaF:=own_below aaE hb2
    have agp:=aaF.kept hgs (by
     cases hv:(Value.slice A st.length cp).ownBlock with
     |none=>exact .inl rfl
     |some g=>exact .inr (fun h=>by have:=(aaF.lt g hv).1;have:g=Bo:=(Option.some.inj h);omega))
    have Vf:=ad1 agp (show rP<=st.length from by omega);rw[Xf] at Vf;have hbw:Below w.heap.size w (w2.setCell ⟨Bo,k,none⟩ (.slice A9 l9.length c9)):=(kU.out.trans (hb2.mono kU.out.size)).setCell (p:=⟨Bo,k,none⟩) agj _
    have hX0:∀g,((Value.slice A st.length cp).ownBlock=some g∨g=Bo∨g<w.heap.size)->g<WA.heap.size:=fun g hg=>by
     rcases hg with hg|rfl|hg
     ·exact (aaE.lt g hg).2
     ·exact RX.out.lt
     ·exact Nat.lt_of_lt_of_le hg kU.out.size
    have hrow2:Row1 (w2.setCell ⟨Bo,k,none⟩ (.slice A9 l9.length c9)) (fun g=>(Value.slice A st.length cp).ownBlock=some g∨g=Bo∨g<w.heap.size) (.slice A9 l9.length c9) l9:=
     hrow.step hgs (fun g hg=>by have:g=Bo:=(Option.some.inj hg).symm;subst this;exact RX.out.lt) (fun g hg=>.inl (hX0 g hg))
    have aaG:=((GL.out.below hb2).step hgs (fun g hg=>.inr (.inl (Option.some.inj hg).symm)) (fun g hg=>.inl hg)).snoc hrow2;obtain⟨w3,hw3⟩:∃x,x=w2.setCell ⟨Bo,k,none⟩ (.slice A9 l9.length c9):=⟨_,rfl⟩
    rw[<-hw3] at Vf hbw aaG hks;have Vg:=zH Vf;have iY:=zH hbw;have agq:=zH aaG;have HKS:=zH hks;have HW3:=zH hw3;have aoS:Bo+1<=w3.heap.size:=hks.lt;clear hrow Ve hks hgs aaE aaF agp Vf hbw hX0 hrow2 aaG hw3 hb2 HOS kU GL RX hA8 HR8;go_wp2_with (at_builtin;rw[<-HW3.out];go_must (refine IL w3 #[.int .i64 (k:Int)] rfl _ _ 106 rfl (Bo+1) 3 (.int .i64 0) 1 8 1 underlying106 gZ rfl (by decide) (.slice A rP cp) rP _ rfl Vg.out (by rw[HW3.out,NP];rfl) rfl ?_ ?_ ?_ ?_ ?_))
    any_goals first|rfl|(unfold maxLen;omega)|omega
    intro v1 w4 hown1 hg1 hv1;have hb4:Below w.heap.size w w4:=iY.out.grown hg1 iY.out.size (fun g hg=>by have:=(Vg.out.lt g hg).1;omega)
    have hX1:∀g,(v1.ownBlock=some g∨g=Bo∨g<w.heap.size)->(((Value.slice A st.length cp).ownBlock=some g∨g=Bo∨g<w.heap.size)∨w3.heap.size<=g):=fun g hg=>by
     rcases hg with hg|hg
     ·rcases hv1 g hg with h|h
      ·exact .inl (.inl ((NM _ _ _ _ _).trans h))
      ·exact .inr h
     ·exact .inl (.inr hg)
    have aaH:=agq.out.step hg1 (fun g hg=>.inl ((NM _ _ _ _ _).trans hg)) hX1;have agt:aj w4 Bo 106 (cs++[.slice A9 l9.length c9]++List.replicate (l1-(k+1)) (.slice none 0 0)):=HKS.out.of_block (hg1.block Bo HKS.out.lt (fun h=>by have:=(Vg.out.lt Bo h.symm).1;omega));have hown2:w4.ownsRow (Bo+1) 3 1 v1 (rP+1) (I (st.take rP++[k])):=by rw[<-agf];first|exact hown1|(rw[take_length];exact hown1)
    have hsl:(st.take rP++[k]).length=rP+1:=by rw[length_append,length_take];simp<;>omega
    obtain⟨A',cp',rfl,_,_,_,_⟩:=dK hown2;rw[<-hsl] at hown2 aaH;have HB4:=zH hb4;have alT:=zH aaH;have alU:=zH agt;have Vh:=zH hown2;have HSL:=zH hsl;clear hb4 hX1 aaH agt hown2 hown1 hg1 hv1 hsl agq HKS Vg;go_wp2
    go_roundg (l1-(k+1))
    case measure=>omega
    case rel=>
     refine⟨k+1,st.take rP++[k],done++[l9],cs++[.slice A9 l9.length c9],A',cp',by omega,by go_num,by rw[HSL.out],by rw[HSL.out];omega,alU,Vh,?_,alT,?_,?_,HB4.out⟩
     ·show _=_;rw[HAR.out,reverse_append,append_assoc];rfl
     ·show _=_;rw[HSL.out];exact HCK.out
     ·show _=_;rw[length_append,hdl.out];rfl
   ·have hkl:k=l1:=by omega
    have xO:Hid (iZ es=done):=by
     show _=_;rw[har.out,hkl,H1.out.len,drop_length];simp[ig]
    have agu:LL wr (fun g=>g<w.heap.size) done cs:=hll.out.step (below_grown (Below.refl _ _)) (fun g h=>by cases h) (fun g h=>.inl (.inr (.inr h)));have aaI:=X8.out;rw[hkl,Nat.sub_self,replicate_zero,append_nil] at aaI;have Ad:=zH aaI.rd;have agv:=zH agu;have hx1:decide (k<l1)=false:=decide_eq_false hlt;clear agu aaI X8 hos hll hck har;go_wp2;go_ret2;refine⟨some ⟨Bo,0,none⟩,l1,l1,rfl,⟨?_,Nat.le_refl _,by unfold maxLen;omega,cs,Ad.out,?_⟩,hbr,(fun ad h=>by injection h with h;subst h;exact agj),cs,Ad.out,?_⟩
    ·rw[xO.out,hdl.out,hkl]
    ·rw[xO.out];exact agv.out.step (below_grown (Below.refl _ _)) (fun g h=>by cases h) (fun g h=>h.elim)
    ·rw[xO.out];exact agv.out
 ·rw[if_neg hz];obtain⟨zz,hzz⟩:=zF (aX es);rw[hzz] at hz HC⊢;have e1:(zz !=0)=true:=by simp[hz]
  have e2:(zz==0)=false:=by simp[hz]
  rw[e2];clear hz h1 hf1 hzz hL;go_enter func157,ntmps157;go_wp2_with fail;refine HC.out.mono ?_;rintro e w1 ⟨rfl,hb1⟩;go_wp2;go_ret2;exact GK.bad hb1
theorem X9 (es:List Nd) (A1:Option Addr) (l1 c1:Nat) (w:World) (hL:eX w) (h1:Es w es A1 l1 c1) (hf1:∀n∈es,Fine n):
  Calls prog 157 #[.slice A1 l1 c1] w (Dj (aX es==0) (if aX es=0 then iZ es else []) w):=
 (NQ es A1 l1 c1 w hL h1 hf1).mono fun _ _ ⟨A,n,c,he,ha,hb,_⟩=>⟨A,n,c,he,ha,hb⟩
theorem dJ (a:Ra) (hn:a.num.size<=1048576) (hd:a.den.size<=1048576):(aU a).size<=6291460:=by
 obtain⟨h1,h2⟩:=Bh a 1048576 (by omega) hn hd;have h3:=oW _ h1;have h4:=oW _ h2;unfold aU
 have hs:(if (dI a).neg then (⟨#[45]⟩:ByteArray)++kP (ak (dI a).num) else kP (ak (dI a).num)).size<=3145729:=by
  split
  ·rw[ByteArray.size_append];show 1+_<=_;omega
  ·omega
 simp only
 generalize (if (dI a).neg then (⟨#[45]⟩:ByteArray)++kP (ak (dI a).num) else kP (ak (dI a).num))=s at*;split
 ·omega
 ·rw[ByteArray.size_append,ByteArray.size_append];show _+(1+_)<=_;omega
theorem NT (n:Nat):Lib.decDigits n≠[]:=by
 unfold Lib.decDigits;split<;>simp
theorem aaJ (a:Ra):(aU a).data.toList≠[]:=by
 have h:∀x y:ByteArray,(x++y).data.toList=x.data.toList++y.data.toList:=fun x y=>by rw[ByteArray.data_append,Array.toList_append]
 have hd:(kP (ak (dI a).num)).data.toList≠[]:=NT _;unfold aU;simp only
 split<;>split<;>simp[h,hd]
theorem agw {n:Nd} (h:aQ n=0) (ops:List (List UInt8)):txt n ops≠[]:=by
 obtain⟨h1,h2⟩:=Bl h;unfold txt;split
 ·split<;>simp
 ·next h4=>
  have hw:(n.op=2∨n.op=3)∨(aG n.op).word≠[]:=by
   have hall:∀k∈List.range 25,1<=k->(((k:Int)=2∨(k:Int)=3∨(k:Int)=4)∨(aG (k:Int)).word≠[]):=by decide
   have:=hall n.op.toNat (mem_range.2 (by omega)) (by omega);rw[show ((n.op.toNat:Nat):Int)=n.op from by omega] at this;rcases this with (h|h|h)|h
   ·exact .inl (.inl h)
   ·exact .inl (.inr h)
   ·exact absurd h h4
   ·exact .inr h
  rcases hw with hw|hw
  ·have hl:(aG n.op).lit=true:=by rw[yD];exact decide_eq_true (by omega)
   rw[hl];have:=aaJ n.num;simp[this]
  ·simp[hw]
theorem vZ (n:Int):(aG n).word.length<=7:=by
 refine yC (fun _ s=>s.word.length<=7) (by decide) (fun n _=>by show 0<=7;omega) n
theorem JX (l:List (List UInt8)):(iI l).length<=(l.map List.length).sum+2*l.length:=by
 induction l with
 |nil=>simp[iI]
 |cons a l ih=>
  unfold iI;split
  ·simp;omega
  ·simp at ih⊢;omega
theorem EH {n:Nd} (h:aQ n=0):n.name.size<=20:=by
 have h0:n.name.data.toList.length<=20:=by
  rcases Qw n with h'|h'|h'|h'|h'|h'|h'
  ·rw[h] at h';exact absurd h'.2 (by decide)
  ·rw[h] at h';exact absurd h'.2.2 (by decide)
  ·rw[h] at h';exact absurd h'.2.2.2 (by decide)
  ·rw[h] at h';exact absurd h'.2.2.2.2.2 (by decide)
  ·have:=(rY _).1 h'.2.2.2.2.1;rw[this];show 0<=20;omega
  ·rw[h] at h';exact absurd h'.2.2.2.2.2 (by decide)
  ·have:=h'.2.2.2.2.1;unfold nameB at this;simp only[Bool.and_eq_true,decide_eq_true_eq] at this;exact this.1.2
 simpa using h0
theorem RY {n:Nd} (h:aQ n=0) (hf:Fine n) (ops:List (List UInt8)):(txt n ops).length<=7000000+(ops.map List.length).sum+2*ops.length:=by
 have ht:=dJ n.num hf.1 hf.2;have ht':(aU n.num).data.toList.length=(aU n.num).size:=by simp
 have hj:=JX ops;have hw:=vZ n.op;have hn:n.name.data.toList.length<=20:=by simpa using EH h
 unfold txt;split
 ·split<;>simp<;>omega
 ·simp only[length_append]
  have e1:(if (aG n.op).lit=true then (aU n.num).data.toList else []).length<=6291460:=by split<;>simp<;>omega
  have e2:(if n.op=2 then [100] else ([]:List UInt8)).length<=1:=by split<;>simp
  have e3:(if (aG n.op).fQ=true then [91]++(aU n.num).data.toList++[93] else []).length<=6291462:=by split<;>simp<;>omega
  have e4:(if (aG n.op).ops=0 then [] else [40]++iI ops++[41]).length<=(iI ops).length+2:=by split<;>simp<;>omega
  have e5:(if (aG n.op).lit=true then (aU n.num).data.toList else []).length+(if (aG n.op).fQ=true then [91]++(aU n.num).data.toList++[93] else []).length<=6291462:=by
   rw[yD,Di];by_cases hl:1<=n.op/\n.op<=4
   ·rw[if_pos (decide_eq_true hl),if_neg (by rw[decide_eq_true_eq];omega)];simp;omega
   ·rw[if_neg (by rw[decide_eq_true_eq];exact hl)];split<;>simp<;>omega
  omega
def qX (l:List (List UInt8)):List UInt8:=l.foldl (fun acc s=>(if acc=[] then acc else acc++[44,32])++s) []
theorem GN (l:List (List UInt8)) (s:List UInt8):qX (l++[s])=(if qX l=[] then qX l else qX l++[44,32])++s:=by
 unfold qX;rw[foldl_append];rfl
theorem Vj (l:List (List UInt8)) (s:List UInt8) (hl:l≠[]):iI (l++[s])=iI l++[44,32]++s:=by
 induction l with
 |nil=>exact absurd rfl hl
 |cons a l ih=>
  cases l with
  |nil=>simp[iI]
  |cons b l=>
   have:=ih (by simp);show a++[44,32]++iI ((b::l)++[s])=_;rw[this];simp[iI]
theorem aaK {l:List (List UInt8)} (hl:l≠[]) (h:∀s∈l,s≠[]):iI l≠[]:=by
 cases l with
 |nil=>exact absurd rfl hl
 |cons a l=>
  have:=h a (by simp);unfold iI;split<;>simp[this]
theorem Vk (m:Nat):∀l:List (List UInt8),l.length=m->(∀s∈l,s≠[])->qX l=iI l:=by
 induction m with
 |zero=>
  intro l hl _;rw[eq_nil_of_length_eq_zero hl];rfl
 |succ m ih=>
  intro l hl h;rcases eq_nil_or_concat l with rfl|⟨l',s,rfl⟩
  ·simp at hl
  ·rw[concat_eq_append] at h hl⊢;have hl':l'.length=m:=by simpa using hl
   have h1:=ih l' hl' (fun x hx=>h x (mem_append_left _ hx));rw[GN];by_cases h0:l'=[]
   ·subst h0;simp[qX,iI]
   ·rw[Vj _ _ h0,<-h1,if_neg (by rw[h1];exact aaK h0 (fun x hx=>h x (mem_append_left _ hx)))]
theorem aaL (l:List (List UInt8)) (h:∀s∈l,s≠[]):qX l=iI l:=Vk _ l rfl h
end Go.Proofs.YtjpbmbgincdjaaaGreatDoor
