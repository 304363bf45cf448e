/- Part: Tk Knuth Divm Te FB. -/
import Derived.Test.YtjpbmbgincdjaaaGreatDoorK00
set_option linter.all false
set_option maxRecDepth 100000
set_option maxHeartbeats 0
namespace Go.Proofs.YtjpbmbgincdjaaaGreatDoor
open Go.RowKit List
theorem zE {α:Sort _} (x:α):∃y,y=x:=⟨x,rfl⟩
theorem zF {α:Sort _} (x:α):∃y,x=y:=⟨x,rfl⟩
theorem zH {p:Prop} (h:p):Hid p:=Lib.hid h
theorem zB (w:World) (o:Obj):Below w.heap.size w (w.alloc o):=(Below.refl _ _).alloc (Nat.le_refl _) _
theorem zA {w W:World} {cs:Array Value} {t:TypeId} (h:w.alloc (.cells cs t)=W):aj W w.heap.size t cs.toList/\Below w.heap.size w W:=by subst h;exact⟨aj.new _ _ _,zB _ _⟩
section
variable {P:Program} {ops:Array Oper} {Q:Exit->Act->World->Prop} {md:Region.Mode} {S:World->Prop}
theorem tkY (i:Nat) (v:Value) {oi:Oper} {fuel:Nat} {listed:Array Bool} {a:Act} {w:World} (hi:ops[i]?=some oi) (hy:∀w,S w->(execOp a.eval oi).run P w=.ok (.value v) w)
  (h:wpAnyH P md ops Q S fuel (listed.setIfInBounds i true) (a.put oi.dst v) w)
  (hs:Region.noSelect ops=true:=by kernel_rfl) (hf:Region.free md ops listed i=true:=by kernel_rfl) (hr:(Region.ready md ops listed).contains i=true:=by kernel_rfl)
  (hw:Region.wanted oi (yielded ops a.tmps)=true:=by kernel_rfl) (hS:S w:=by assumption) (hQ:∀c a w,Q (.panic c) (a.put oi.dst v) w->Q (.panic c) a w:=by exact fun _ _ _ h=>h):wpAnyH P md ops Q S (fuel+1) listed a w:=
 wpAnyH_take hi hs hf hr hQ (Or.inl ⟨hw,hy⟩) hS h
theorem dN (i:Nat) {v:Value} {oi:Oper} {fuel:Nat} {listed:Array Bool} {a a':Act} {w:World} (h:wpAnyH P md ops Q S fuel (listed.setIfInBounds i true) a' w)
  (hi:ops[i]?=some oi:=by rfl) (hy:∀w,S w->(execOp a.eval oi).run P w=.ok (.value v) w:=by ((intro w hSw;(try dsimp only at hSw);go_simp);all_goals with_reducible rfl))
  (ha:a.put oi.dst v=a':=by ((try simp only[Act.put,setIfInBounds_toArray,set_cons_zero,set_cons_succ,getElem_toArray,getElem_cons_succ,getElem_cons_zero]);rfl))
  (hs:Region.noSelect ops=true:=by kernel_rfl) (hf:Region.free md ops listed i=true:=by kernel_rfl) (hr:(Region.ready md ops listed).contains i=true:=by kernel_rfl)
  (hw:Region.wanted oi (yielded ops a.tmps)=true:=by kernel_rfl) (hS:S w:=by assumption) (hQ:∀c a w,Q (.panic c) (a.put oi.dst v) w->Q (.panic c) a w:=by exact fun _ _ _ h=>h):wpAnyH P md ops Q S (fuel+1) listed a w:=
 wpAnyH_take hi hs hf hr hQ (Or.inl ⟨hw,hy⟩) hS (by rw[ha];exact h)
theorem qG (i:Nat) {o:Oper} {fuel:Nat} {listed:Array Bool} {a:Act} {w:World} (h:(∀K':Act->World->Prop,Shut (∀a w,S w->(S w->wpAnyH P md ops Q S fuel (listed.setIfInBounds i true) a w)->K' a w)->if Region.wanted o (yielded ops a.tmps)=true then Oper.wp P o a w K' Q else K' (a.put o.dst undef) w))
  (ho:ops[i]?=some o:=by rfl) (hr:Region.ready md ops listed=[i]:=by kernel_rfl):wpAnyH P md ops Q S (fuel+1) listed a w:=wpAnyH_ready hr (by simp) (AllReadyH.cons ho h AllReadyH.nil)
theorem ZX (i j:Nat) {o o':Oper} {fuel:Nat} {listed:Array Bool} {a:Act} {w:World} (h:(∀K':Act->World->Prop,Shut (∀a w,S w->(S w->wpAnyH P md ops Q S fuel (listed.setIfInBounds i true) a w)->K' a w)->if Region.wanted o (yielded ops a.tmps)=true then Oper.wp P o a w K' Q else K' (a.put o.dst undef) w)) (h':(∀K':Act->World->Prop,Shut (∀a w,S w->(S w->wpAnyH P md ops Q S fuel (listed.setIfInBounds j true) a w)->K' a w)->if Region.wanted o' (yielded ops a.tmps)=true then Oper.wp P o' a w K' Q else K' (a.put o'.dst undef) w))
  (ho:ops[i]?=some o:=by rfl) (ho':ops[j]?=some o':=by rfl) (hr:Region.ready md ops listed=[i,j]:=by kernel_rfl):wpAnyH P md ops Q S (fuel+1) listed a w:=wpAnyH_ready hr (by simp) (AllReadyH.cons ho h (AllReadyH.cons ho' h' AllReadyH.nil))
theorem mZ {K:Act->World->Prop} {fuel:Nat} {listed:Array Bool} {a a':Act} {w:World} (hK:Shut (∀a w,S w->(S w->wpAnyH P md ops Q S fuel listed a w)->K a w)) (hS:S w) (h:S w->wpAnyH P md ops Q S fuel listed a' w)
  (ha:a=a':=by ((try simp only[Act.put,setIfInBounds_toArray,set_cons_zero,set_cons_succ,getElem_toArray,getElem_cons_succ,getElem_cons_zero]);rfl)):K a w:=hK.out _ _ hS (fun s=>by rw[ha];exact h s)
theorem pU (i:Nat) {oi:Oper} {fuel:Nat} {listed:Array Bool} {a:Act} {w:World} (hi:ops[i]?=some oi)
  (h:wpAnyH P md ops Q S fuel (listed.setIfInBounds i true) (a.put oi.dst undef) w)
  (hs:Region.noSelect ops=true:=by kernel_rfl) (hf:Region.free md ops listed i=true:=by kernel_rfl) (hr:(Region.ready md ops listed).contains i=true:=by kernel_rfl)
  (hw:Region.wanted oi (yielded ops a.tmps)=false:=by kernel_rfl) (hS:S w:=by assumption) (hQ:∀c a w,Q (.panic c) (a.put oi.dst undef) w->Q (.panic c) a w:=by exact fun _ _ _ h=>h):wpAnyH P md ops Q S (fuel+1) listed a w:=
 wpAnyH_take hi hs hf hr hQ (Or.inr ⟨hw,rfl⟩) hS h
end
section
variable {α:Type _}
theorem tk1 (l:List α) (i:Nat) (a:α):l.toArray.setIfInBounds i a=(l.set i a).toArray:=setIfInBounds_toArray l i a
theorem tk2 (x:α) (xs:List α) (a:α):(x::xs).set 0 a=a::xs:=rfl
theorem tk3 (x:α) (xs:List α) (n:Nat) (a:α):(x::xs).set (n+1) a=x::xs.set n a:=rfl
theorem tk4 (l:List α) (i:Nat) (h:i<l.toArray.size):l.toArray[i]=l[i]'(by simpa using h):=getElem_toArray h
theorem jY (a:α) (as:List α) (i:Nat) (h:i+1<(a::as).length):(a::as)[i+1]=as[i]'(by simpa using h):=rfl
theorem jZ (a:α) (as:List α) (h:0<(a::as).length):(a::as)[0]=a:=rfl
end
end Go.Proofs.YtjpbmbgincdjaaaGreatDoor
namespace Go.Proofs.YtjpbmbgincdjaaaGreatDoor
open List
theorem tX (s:Nat) (h:s<32):2 ^ s*2 ^ (32-s)=4294967296:=by
 rw[<-Nat.pow_add,show s+(32-s)=32 from by omega]
theorem ZY (x s t:Nat) (hs:s<32) (ht:t<2 ^ s):
  t|||(x*2 ^ s) % 4294967296=t+(x*2 ^ s) % 4294967296:=by
 have e:(x*2 ^ s) % 4294967296=(x % 2 ^ (32-s))*2 ^ s:=by
  rw[<-tX s hs,Nat.mul_comm x,Nat.mul_mod_mul_left,Nat.mul_comm]
 rw[e];exact qC _ _ _ ht
theorem Qm (x s t:Nat) (hs:s<32) (ht:t<2 ^ s):t+(x*2 ^ s) % 4294967296<4294967296:=by
 have e:(x*2 ^ s) % 4294967296=(x % 2 ^ (32-s))*2 ^ s:=by
  rw[<-tX s hs,Nat.mul_comm x,Nat.mul_mod_mul_left,Nat.mul_comm]
 have h1:x % 2 ^ (32-s)+1<=2 ^ (32-s):=Nat.mod_lt _ (Nat.pow_pos (by omega));have h2:=Nat.mul_le_mul_right (2 ^ s) h1;rw[Nat.mul_comm (2 ^ (32-s)),tX s hs,Nat.add_mul] at h2;omega
theorem Z4 (x s:Nat) (_hs:s<32) (hx:x<4294967296):(x*2 ^ s) / 4294967296<2 ^ s:=by
 rw[Nat.div_lt_iff_lt_mul (by omega),Nat.mul_comm (2 ^ s)];exact Nat.mul_lt_mul_of_pos_right hx (Nat.pow_pos (by omega))
theorem ady (k s:Nat) (xs os:List Nat) (t:Nat) (hk:os.length=k)
  (h:val (2 ^ 32) os+t*(2 ^ 32) ^ k=val (2 ^ 32) (xs.take k)*2 ^ s):
  val (2 ^ 32) (os++[t+(xs.getD k 0*2 ^ s) % 4294967296])+(xs.getD k 0*2 ^ s) / 4294967296*(2 ^ 32) ^ (k+1)=val (2 ^ 32) (xs.take (k+1))*2 ^ s:=by
 rw[gy,hk,cZ,show (2 ^ 32) ^ (k+1)=(2 ^ 32) ^ k*4294967296 from Nat.pow_succ ..];generalize xs.getD k 0=x;have e:=Nat.div_add_mod (x*2 ^ s) 4294967296;generalize (x*2 ^ s) / 4294967296=q at*;generalize hr:(x*2 ^ s) % 4294967296=r at*;generalize (2 ^ 32) ^ k=E at*;generalize val (2 ^ 32) os=V at*;generalize val (2 ^ 32) (xs.take k)=X at*;generalize 2 ^ s=S at*
 grind
theorem Jm (m n:Nat):fM (m+1) n=fM m n++[n / (2 ^ 32) ^ m % 2 ^ 32]:=by simp[fM,range_succ]
theorem Ug (xs:List Nat) (h:∀x∈xs,x<2 ^ 32) (k s:Nat) (hs:s<32) (hk:k<xs.length):
  val (2 ^ 32) xs / 2 ^ s / (2 ^ 32) ^ k % 2 ^ 32=xs.getD k 0 / 2 ^ s+(xs.getD (k+1) 0*2 ^ (32-s)) % 4294967296:=by
 have hsplit:=tX s hs;have hS:0<2 ^ s:=Nat.pow_pos (by omega);have hT:0<2 ^ (32-s):=Nat.pow_pos (by omega)
 have e1:val (2 ^ 32) xs / (2 ^ 32) ^ k=xs.getD k 0+4294967296*val (2 ^ 32) (xs.drop (k+1)):=by
  rw[qE (2 ^ 32) xs k (by omega),Nat.add_mul_div_left _ _ (Nat.pow_pos (by omega)),drop_eq_getElem_cons hk,val,getD_lt hk];have:=iE (2 ^ 32) (xs.take k) (fun x hx=>h x (mem_of_mem_take hx));rw[length_take_of_le (by omega)] at this;rw[Nat.div_eq_of_lt this,Nat.zero_add]
 have e2:val (2 ^ 32) (xs.drop (k+1)) % 2 ^ s=xs.getD (k+1) 0 % 2 ^ s:=by
  rcases Nat.lt_or_ge (k+1) xs.length with h2|h2
  ·rw[drop_eq_getElem_cons h2,val,getD_lt h2,show (2:Nat) ^ 32=2 ^ s*2 ^ (32-s) from hsplit.symm,Nat.mul_assoc,Nat.add_mul_mod_self_left]
  ·rw[drop_eq_nil_of_le h2,getD_eq_getElem?_getD,getElem?_eq_none h2];rfl
 have hx:=aP (b:=2 ^ 32) (by omega) h k;rw[Nat.div_div_eq_div_mul,Nat.mul_comm (2 ^ s),<-Nat.div_div_eq_div_mul,e1];generalize val (2 ^ 32) (xs.drop (k+1))=M at*;generalize xs.getD k 0=x at*;generalize xs.getD (k+1) 0=y at*
 have e3:(x+4294967296*M) / 2 ^ s=x / 2 ^ s+2 ^ (32-s)*M:=by
  rw[<-hsplit,Nat.mul_assoc,Nat.add_mul_div_left _ _ hS]
 have e4:(2 ^ (32-s)*M) % 4294967296=(y*2 ^ (32-s)) % 4294967296:=by
  rw[<-hsplit,Nat.mul_comm (2 ^ s),Nat.mul_mod_mul_left,e2,Nat.mul_comm y,Nat.mul_mod_mul_left]
 have e5:x / 2 ^ s<2 ^ (32-s):=by
  rw[Nat.div_lt_iff_lt_mul hS,Nat.mul_comm,hsplit];exact hx
 have e6:(y*2 ^ (32-s)) % 4294967296+2 ^ (32-s)<=4294967296:=by
  have h1:y % 2 ^ s+1<=2 ^ s:=Nat.mod_lt _ hS;have h2:=Nat.mul_le_mul_left (2 ^ (32-s)) h1;rw[<-hsplit,Nat.mul_comm (2 ^ s),Nat.mul_comm y,Nat.mul_mod_mul_left];rw[Nat.mul_add] at h2;omega
 rw[e3,show (2:Nat) ^ 32=4294967296 from rfl,Nat.add_mod,e4,Nat.mod_eq_of_lt (show x / 2 ^ s<4294967296 by omega)];exact Nat.mod_eq_of_lt (by omega)
theorem adz (x y s:Nat) (hs:s<32) (hx:x<4294967296):
  x / 2 ^ s|||(y*2 ^ (32-s)) % 4294967296=x / 2 ^ s+(y*2 ^ (32-s)) % 4294967296:=by
 have hsplit:=tX s hs;have hS:0<2 ^ s:=Nat.pow_pos (by omega)
 have e:(y*2 ^ (32-s)) % 4294967296=(y % 2 ^ s)*2 ^ (32-s):=by
  rw[<-hsplit,Nat.mul_comm (2 ^ s),Nat.mul_comm y,Nat.mul_mod_mul_left,Nat.mul_comm]
 rw[e];exact qC _ _ _ (by rw[Nat.div_lt_iff_lt_mul hS,Nat.mul_comm,hsplit];exact hx)
def nV (u0 u1 u2 v0 v1:Nat):Nat:=min ((u0*18446744073709551616+u1*4294967296+u2) / (v0*4294967296+v1)) 4294967295
theorem adA (u0 u1 u2 v0 v1:Nat):nV u0 u1 u2 v0 v1<4294967296:=Nat.lt_succ_of_le (Nat.min_le_right _ _)
theorem WX (a b q:Nat) (hb:0<b) (h:a<(q+1)*b):a / b<=q:=by
 have:=(Nat.div_lt_iff_lt_mul hb).2 h;omega
theorem WY (u0 u1 u2 v0 v1 q r:Nat) (hv0:0<v0) (h:q*v0+r=u0*4294967296+u1)
  (hc:4294967295<q∨r*4294967296+u2<q*v1) (hq:nV u0 u1 u2 v0 v1<=q):nV u0 u1 u2 v0 v1<=q-1/\0<q:=by
 rcases hc with hc|hc
 ·refine⟨?_,by omega⟩;have:nV u0 u1 u2 v0 v1<=4294967295:=Nat.min_le_right _ _;omega
 ·have hq0:0<q:=by
   rcases Nat.eq_zero_or_pos q with h0|h0
   ·subst h0;omega
   ·exact h0
  refine⟨?_,hq0⟩;refine Nat.le_trans (Nat.min_le_left _ _) (WX _ _ _ (by omega) ?_);rw[Nat.sub_add_cancel hq0,Nat.mul_add,<-Nat.mul_assoc q v0 4294967296]
  have:q*v0*4294967296+r*4294967296=u0*18446744073709551616+u1*4294967296:=by
   rw[<-Nat.add_mul,h];omega
  rw[<-this,Nat.add_assoc];exact Nat.add_lt_add_left hc _
theorem Q8 (u0 u1 u2 v0 v1 q r:Nat) (hv0:0<v0) (h:q*v0+r=u0*4294967296+u1)
  (hc:q<=4294967295) (hc2:q*v1<=r*4294967296+u2) (hq:nV u0 u1 u2 v0 v1<=q):q=nV u0 u1 u2 v0 v1:=by
 refine Nat.le_antisymm ?_ hq;unfold nV;rw[Nat.le_min];refine⟨?_,hc⟩;rw[Nat.le_div_iff_mul_le (by omega),Nat.mul_add,<-Nat.mul_assoc q v0 4294967296]
 have:q*v0*4294967296+r*4294967296=u0*18446744073709551616+u1*4294967296:=by
  rw[<-Nat.add_mul,h];omega
 omega
theorem Jo (u0 u1 u2 v0 v1 q r:Nat) (hv0:0<v0) (hu:u0<=v0) (hu1:u1<4294967296) (hv1:v1<4294967296) (h:q*v0+r=u0*4294967296+u1)
  (hr:4294967295<r) (hq:nV u0 u1 u2 v0 v1<=q):q=nV u0 u1 u2 v0 v1:=by
 have hq1:q<=4294967295:=by
  rcases Nat.lt_or_ge 4294967295 q with h1|h1
  ·exfalso;have h2:4294967296*v0<=q*v0:=Nat.mul_le_mul_right _ h1;have h3:u0*4294967296<=v0*4294967296:=Nat.mul_le_mul_right _ hu;omega
  ·exact h1
 refine Q8 u0 u1 u2 v0 v1 q r hv0 h hq1 ?_ hq;have h1:q*v1<=4294967295*4294967295:=Nat.mul_le_mul hq1 (by omega);have h2:4294967296*4294967296<=r*4294967296:=Nat.mul_le_mul_right _ (by omega);omega
theorem WZ (u0 u1 u2 v0 v1:Nat) (hv0:0<v0) (hu2:u2<4294967296):nV u0 u1 u2 v0 v1<=(u0*4294967296+u1) / v0:=by
 refine Nat.le_trans (Nat.min_le_left _ _) ?_;rw[Nat.le_div_iff_mul_le hv0];have h:=Nat.div_mul_le_self (u0*18446744073709551616+u1*4294967296+u2) (v0*4294967296+v1);generalize (u0*18446744073709551616+u1*4294967296+u2) / (v0*4294967296+v1)=q at*;rw[Nat.mul_add,<-Nat.mul_assoc] at h;omega
theorem Xa (E U V u0 u1 u2 v0 v1 U' V':Nat) (hE:0<E) (hV:V=(v0*4294967296+v1)*E+V') (hU:U=(u0*18446744073709551616+u1*4294967296+u2)*E+U')
  (hU':U'<E) (hV':V'<E) (hv0:0<v0) (hlt:U<V*4294967296):
  U / V<=nV u0 u1 u2 v0 v1/\nV u0 u1 u2 v0 v1<=U / V+1:=by
 have hqh:nV u0 u1 u2 v0 v1=min ((u0*18446744073709551616+u1*4294967296+u2) / (v0*4294967296+v1)) 4294967295:=rfl;rw[hqh];clear hqh;obtain⟨W,hW⟩:=zF (v0*4294967296+v1);obtain⟨T,hT⟩:=zF (u0*18446744073709551616+u1*4294967296+u2);rw[hW] at hV⊢;rw[hT] at hU⊢;have hW0:4294967296<=W:=by omega
 have hV0:0<V:=by rw[hV];have:=Nat.mul_pos (show 0<W by omega) hE;omega
 clear hW hT;constructor
 ·rw[Nat.le_min];constructor
  ·rw[Nat.le_div_iff_mul_le (by omega)];have h1:=Nat.div_mul_le_self U V;generalize U / V=q at*;rw[hV,hU,Nat.mul_add,<-Nat.mul_assoc] at h1;rcases Nat.lt_or_ge T (q*W) with h2|h2
   ·exfalso;have h3:=Nat.mul_le_mul_right E (show T+1<=q*W from h2);rw[Nat.add_mul] at h3;omega
   ·exact h2
  ·have:=(Nat.div_lt_iff_lt_mul hV0).2 (by rw[Nat.mul_comm];exact hlt);omega
 ·have hq1:=Nat.min_le_left (T / W) 4294967295;have hq2:=Nat.min_le_right (T / W) 4294967295;generalize min (T / W) 4294967295=q at*;rcases Nat.eq_zero_or_pos q with h0|h0
  ·rw[h0];exact Nat.zero_le _
  ·obtain⟨p,rfl⟩:∃p,q=p+1:=⟨q-1,by omega⟩
   have h1:p<=U / V:=by
    rw[Nat.le_div_iff_mul_le hV0,hV,hU,Nat.mul_add,<-Nat.mul_assoc]
    have h2:(p+1)*W<=T:=by
     have:=Nat.mul_le_mul_right W hq1;have:=Nat.div_mul_le_self T W;omega
    rw[Nat.add_mul] at h2;have h3:p*V'<=p*E:=Nat.mul_le_mul_left _ (by omega);have h4:(p*W+p)*E<=T*E:=Nat.mul_le_mul_right _ (by omega);rw[Nat.add_mul] at h4;omega
   omega
def seg (zs:List Nat) (j n:Nat):List Nat:=(zs.drop j).take n
theorem L8 (zs:List Nat) (j:Nat):seg zs j 0=[]:=by simp[seg]
theorem seg_length (zs:List Nat) (j n:Nat) (h:j+n<=zs.length):(seg zs j n).length=n:=by simp[seg];omega
theorem rU (zs:List Nat) (j n:Nat) (h:j+n<zs.length):seg zs j (n+1)=seg zs j n++[zs.getD (j+n) 0]:=by
 unfold seg;rw[take_succ_eq_append_getElem (by simp;omega),getElem_drop,getD_lt h]
theorem Q9 (zs:List Nat) (j n y:Nat) (h:j+n<zs.length):seg (zs.set (j+n) y) j (n+1)=seg zs j n++[y]:=by
 rw[rU _ _ _ (by rw[length_set];exact h),getD_lt (by rw[length_set];exact h),getElem_set_self];congr 1;apply ext_getElem?;intro i;unfold seg;rw[getElem?_take,getElem?_take];split
 ·rw[getElem?_drop,getElem?_drop,getElem?_set_ne (by omega)]
 ·rfl
theorem Jp (zs ys:List Nat) (j n:Nat) (hl:zs.length=ys.length) (h:∀p,j<=p->p<j+n->zs.getD p 0=ys.getD p 0):seg zs j n=seg ys j n:=by
 apply ext_getElem?;intro i;unfold seg;rw[getElem?_take,getElem?_take];split
 ·next hi=>
  rw[getElem?_drop,getElem?_drop];rcases Nat.lt_or_ge (j+i) zs.length with h1|h1
  ·have:=h (j+i) (by omega) (by omega);rw[getD_lt h1,getD_lt (by omega)] at this;rw[getElem?_eq_getElem h1,getElem?_eq_getElem (by omega),this]
  ·rw[getElem?_eq_none h1,getElem?_eq_none (by omega)]
 ·rfl
theorem Iy {zs:List Nat} {j n b:Nat} (h:∀x∈zs,x<b):∀x∈seg zs j n,x<b:=fun x hx=>h x (mem_of_mem_drop (mem_of_mem_take hx))
theorem Jq (B i q:Nat) (zs zi:List Nat) (ys:List Nat) (j c b y t:Nat) (h1:j+i<zs.length) (h2:j+i<zi.length) (hn:(seg zi j i).length=i) (hn0:(seg zs j i).length=i)
  (h:val B (seg zs j i)+(c+b)*B ^ i=val B (seg zi j i)+q*val B (ys.take i))
  (hd:y+(q*ys.getD i 0+c) % B+b=zs.getD (j+i) 0+t*B):
  val B (seg zs j (i+1))+((q*ys.getD i 0+c) / B+t)*B ^ (i+1)=val B (seg (zi.set (j+i) y) j (i+1))+q*val B (ys.take (i+1)):=by
 rw[rU zs j i h1,Q9 zi j i y h2,gy,gy,hn,hn0,cZ,Nat.pow_succ];generalize zs.getD (j+i) 0=u at*;generalize ys.getD i 0=v at*;have e:=Nat.div_add_mod (q*v+c) B;generalize (q*v+c) / B=p at*;generalize (q*v+c) % B=r at*;generalize B ^ i=E at*;have e3:(y+r+b)*E=(u+t*B)*E:=by rw[hd]
 grind
theorem Jr (B i:Nat) (zs zi:List Nat) (ys:List Nat) (j c:Nat) (h1:j+i<zs.length) (h2:j+i<zi.length) (hn:(seg zi j i).length=i) (hn0:(seg zs j i).length=i)
  (h:val B (seg zs j i)+val B (ys.take i)=val B (seg zi j i)+c*B ^ i):
  val B (seg zs j (i+1))+val B (ys.take (i+1))=val B (seg (zi.set (j+i) ((zs.getD (j+i) 0+ys.getD i 0+c) % B)) j (i+1))+(zs.getD (j+i) 0+ys.getD i 0+c) / B*B ^ (i+1):=by
 rw[rU zs j i h1,Q9 zi j i _ h2,gy,gy,hn,hn0,cZ,Nat.pow_succ];generalize zs.getD (j+i) 0=u at*;generalize ys.getD i 0=v at*;have e:=Nat.div_add_mod (u+v+c) B;generalize (u+v+c) / B=p at*;generalize (u+v+c) % B=r at*;generalize B ^ i=E at*
 grind
theorem Xb (B i:Nat) (zs zi:List Nat) (ys:List Nat) (j c:Nat) (hl:ys.length<=i) (h1:j+i<zs.length) (h2:j+i<zi.length) (hn:(seg zi j i).length=i) (hn0:(seg zs j i).length=i)
  (h:val B (seg zs j i)+val B (ys.take i)=val B (seg zi j i)+c*B ^ i):
  val B (seg zs j (i+1))+val B ys=val B (seg (zi.set (j+i) ((zs.getD (j+i) 0+c) % B)) j (i+1))+(zs.getD (j+i) 0+c) / B*B ^ (i+1):=by
 have:=Jr B i zs zi ys j c h1 h2 hn hn0 h;have hy:ys.getD i 0=0:=by rw[getD_eq_getElem?_getD,getElem?_eq_none hl];rfl
 rwa[hy,Nat.add_zero,take_of_length_le (show ys.length<=i+1 by omega)] at this
theorem Az (B:Nat) (zs:List Nat) (j n:Nat) (h:j+n<=zs.length):
  val B zs=val B (zs.take j)+B ^ j*(val B (seg zs j n)+B ^ n*val B (zs.drop (j+n))):=by
 rw[qE B zs j (by omega),qE B (zs.drop j) n (by simp;omega),drop_drop];rfl
theorem Xc (B:Nat) (zs:List Nat) (j n:Nat) (h:j+n+2<zs.length):
  val B (seg zs j (n+3))=val B (seg zs j n)+B ^ n*(zs.getD (j+n) 0+B*(zs.getD (j+n+1) 0+B*zs.getD (j+n+2) 0)):=by
 rw[show n+3=(n+2)+1 from rfl,rU zs j (n+2) (by omega),gy,seg_length _ _ _ (by omega),rU zs j (n+1) (by omega),gy,seg_length _ _ _ (by omega),
  rU zs j n (by omega),gy,seg_length _ _ _ (by omega)]
 rw[show j+(n+1)=j+n+1 from rfl,show j+(n+2)=j+n+2 from rfl,Nat.pow_succ,Nat.pow_succ]
 grind
theorem val_two (B:Nat) (ys:List Nat) (n:Nat) (h:ys.length=n+2):
  val B ys=val B (ys.take n)+B ^ n*(ys.getD n 0+B*ys.getD (n+1) 0):=by
 have e:val B ys=val B (ys.take (n+2)):=by rw[take_of_length_le (by omega)]
 rw[e,cZ,cZ,Nat.pow_succ]
 grind
theorem L9 (zs ys:List Nat) (j n:Nat) (hz:∀x∈zs,x<2 ^ 32) (hy:∀x∈ys,x<2 ^ 32) (hyl:ys.length=n+2) (hjl:j+n+2<zs.length)
  (hv0:0<ys.getD (n+1) 0) (hR:val (2 ^ 32) zs<val (2 ^ 32) ys*(2 ^ 32) ^ (j+1)):
  zs.getD (j+n+2) 0<=ys.getD (n+1) 0/\
  val (2 ^ 32) (seg zs j (n+3)) / val (2 ^ 32) ys<=nV (zs.getD (j+n+2) 0) (zs.getD (j+n+1) 0) (zs.getD (j+n) 0) (ys.getD (n+1) 0) (ys.getD n 0)/\
  nV (zs.getD (j+n+2) 0) (zs.getD (j+n+1) 0) (zs.getD (j+n) 0) (ys.getD (n+1) 0) (ys.getD n 0)<=val (2 ^ 32) (seg zs j (n+3)) / val (2 ^ 32) ys+1:=by
 have e1:=Xc (2 ^ 32) zs j n hjl;have e2:=val_two (2 ^ 32) ys n hyl;have hE:0<(2 ^ 32) ^ n:=Nat.pow_pos (by omega);have hEj:0<(2 ^ 32) ^ j:=Nat.pow_pos (by omega)
 have hU':val (2 ^ 32) (seg zs j n)<(2 ^ 32) ^ n:=by
  have:=iE (2 ^ 32) (seg zs j n) (Iy hz);rwa[seg_length _ _ _ (by omega)] at this
 have hV':val (2 ^ 32) (ys.take n)<(2 ^ 32) ^ n:=by
  have:=iE (2 ^ 32) (ys.take n) (fun x hx=>hy x (mem_of_mem_take hx));rwa[length_take_of_le (by omega)] at this
 have hlt:val (2 ^ 32) (seg zs j (n+3))<val (2 ^ 32) ys*4294967296:=by
  rw[Az (2 ^ 32) zs j (n+3) (by omega),show (2 ^ 32) ^ (j+1)=4294967296*(2 ^ 32) ^ j from by rw[Nat.pow_succ,Nat.mul_comm],<-Nat.mul_assoc] at hR;rcases Nat.lt_or_ge (val (2 ^ 32) (seg zs j (n+3))) (val (2 ^ 32) ys*4294967296) with h|h
  ·exact h
  ·exfalso;have h2:=Nat.mul_le_mul_left ((2 ^ 32) ^ j) (Nat.le_trans h (Nat.le_add_right _ ((2 ^ 32) ^ (n+3)*val (2 ^ 32) (zs.drop (j+(n+3))))));rw[Nat.mul_comm ((2 ^ 32) ^ j) (val (2 ^ 32) ys*4294967296)] at h2;omega
 have u2:=aP (b:=2 ^ 32) (by omega) hz (j+n);have u1:=aP (b:=2 ^ 32) (by omega) hz (j+n+1);have v1:=aP (b:=2 ^ 32) (by omega) hy n;generalize zs.getD (j+n+2) 0=a0 at*;generalize zs.getD (j+n+1) 0=a1 at*;generalize zs.getD (j+n) 0=a2 at*;generalize ys.getD (n+1) 0=b0 at*;generalize ys.getD n 0=b1 at*
 have e1':val (2 ^ 32) (seg zs j (n+3))=(a0*18446744073709551616+a1*4294967296+a2)*(2 ^ 32) ^ n+val (2 ^ 32) (seg zs j n):=by
  rw[e1,Nat.add_comm,Nat.mul_comm];congr 2;omega
 have e2':val (2 ^ 32) ys=(b0*4294967296+b1)*(2 ^ 32) ^ n+val (2 ^ 32) (ys.take n):=by
  rw[e2,Nat.add_comm,Nat.mul_comm];congr 2;omega
 refine⟨?_,Xa _ _ _ a0 a1 a2 b0 b1 _ _ hE e2' e1' hU' hV' hv0 hlt⟩;rcases Nat.lt_or_ge b0 a0 with h|h
 ·exfalso;clear hR e1 e2;rw[e1',e2'] at hlt;generalize val (2 ^ 32) (seg zs j n)=s at*;generalize val (2 ^ 32) (ys.take n)=t at*;generalize (2 ^ 32) ^ n=E at*;have h3:(b0+1)*18446744073709551616<=a0*18446744073709551616:=Nat.mul_le_mul_right _ h;have h4:((b0*4294967296+b1)*4294967296+4294967296)*E<=(a0*18446744073709551616+a1*4294967296+a2)*E:=Nat.mul_le_mul_right _ (by omega);rw[Nat.add_mul] at h4;have h5:((b0*4294967296+b1)*E+t)*4294967296=(b0*4294967296+b1)*4294967296*E+t*4294967296:=by grind
  omega
 ·exact h
theorem DC (zs zs2 ys:List Nat) (j n Qh d N:Nat) (hl:zs2.length=zs.length) (hz:∀x∈zs,x<2 ^ 32) (hyl:ys.length=n+2) (hjl:j+n+2<zs.length) (hy:∀x∈ys,x<2 ^ 32) (hV:0<val (2 ^ 32) ys)
  (hout:∀p,(p<j∨j+(n+2)<p)->zs2.getD p 0=zs.getD p 0) (hR:val (2 ^ 32) zs<val (2 ^ 32) ys*(2 ^ 32) ^ (j+1))
  (hN:N=Qh*val (2 ^ 32) ys*(2 ^ 32) ^ (j+1)+val (2 ^ 32) zs)
  (hd:d=val (2 ^ 32) (seg zs j (n+3)) / val (2 ^ 32) ys) (h2:val (2 ^ 32) (seg zs2 j (n+3))=val (2 ^ 32) (seg zs j (n+3)) % val (2 ^ 32) ys):
  val (2 ^ 32) zs2<val (2 ^ 32) ys*(2 ^ 32) ^ j/\N=(d+2 ^ 32*Qh)*val (2 ^ 32) ys*(2 ^ 32) ^ j+val (2 ^ 32) zs2:=by
 have p1:=Az (2 ^ 32) zs j (n+3) (by omega);have p2:=Az (2 ^ 32) zs2 j (n+3) (by omega)
 have t1:zs2.take j=zs.take j:=by
  have:=Jp zs2 zs 0 j hl (fun p h1 h2=>hout p (.inl (by omega)));simpa [seg] using this
 have t2:zs2.drop (j+(n+3))=zs.drop (j+(n+3)):=by
  have:=Jp zs2 zs (j+(n+3)) zs.length hl (fun p h1 h2=>hout p (.inr (by omega)));unfold seg at this;rwa[take_of_length_le (by simp;omega),take_of_length_le (by simp)] at this
 have hVb:val (2 ^ 32) ys<(2 ^ 32) ^ (n+2):=by have:=iE (2 ^ 32) ys hy;rwa[hyl] at this
 have hE:0<(2 ^ 32) ^ j:=Nat.pow_pos (by omega)
 have hlow:val (2 ^ 32) (zs.take j)<(2 ^ 32) ^ j:=by
  have:=iE (2 ^ 32) (zs.take j) (fun x hx=>hz x (mem_of_mem_take hx));rwa[length_take_of_le (by omega)] at this
 have htop:val (2 ^ 32) (zs.drop (j+(n+3)))=0:=by
  rcases Nat.eq_zero_or_pos (val (2 ^ 32) (zs.drop (j+(n+3)))) with h|h
  ·exact h
  ·exfalso;have h3:(2 ^ 32) ^ (n+3)<=(2 ^ 32) ^ (n+3)*val (2 ^ 32) (zs.drop (j+(n+3))):=Nat.le_mul_of_pos_right _ h
   have h4:(2 ^ 32) ^ j*(2 ^ 32) ^ (n+3)<=val (2 ^ 32) zs:=by
    rw[p1];exact Nat.le_trans (Nat.mul_le_mul_left _ (Nat.le_trans h3 (Nat.le_add_left _ _))) (Nat.le_add_left _ _)
   have h5:val (2 ^ 32) ys*(2 ^ 32) ^ (j+1)<(2 ^ 32) ^ (n+2)*(2 ^ 32) ^ (j+1):=Nat.mul_lt_mul_of_pos_right hVb (Nat.pow_pos (by omega));rw[<-Nat.pow_add] at h4 h5;rw[show j+(n+3)=n+2+(j+1) from by omega] at h4;omega
 rw[t1,t2,htop,h2,Nat.mul_zero,Nat.add_zero] at p2;rw[htop,Nat.mul_zero,Nat.add_zero] at p1;have hm:=Nat.mod_lt (val (2 ^ 32) (seg zs j (n+3))) hV;have hdm:=Nat.div_add_mod (val (2 ^ 32) (seg zs j (n+3))) (val (2 ^ 32) ys);rw[<-hd] at hdm;rw[show (2 ^ 32) ^ (j+1)=4294967296*(2 ^ 32) ^ j from by rw[Nat.pow_succ,Nat.mul_comm]] at hN;clear hout t1 t2 h2 hR hd htop hVb;generalize val (2 ^ 32) (seg zs j (n+3))=U at*;generalize val (2 ^ 32) ys=V at*;generalize val (2 ^ 32) (zs.take j)=lo at*;generalize (2 ^ 32) ^ j=E at*;constructor
 ·rw[p2];have:=Nat.mul_le_mul_left E (show U % V+1<=V from hm);rw[Nat.mul_add,Nat.mul_comm E V] at this;omega
 ·generalize U % V=r at*;rw[p2,hN,p1,<-hdm,show (2:Nat) ^ 32=4294967296 from rfl];clear hz hy hdm p1 p2 hN
  grind
theorem Uh (U U1 Q V:Nat) (hV:0<V) (h:U=U1+Q*V) (h1:U / V<=Q):Q=U / V/\U1=U % V:=by
 have h2:Q<=U / V:=(Nat.le_div_iff_mul_le hV).2 (by omega);have h3:Q=U / V:=by omega
 refine⟨h3,?_⟩;have h4:=Nat.div_add_mod U V;rw[<-h3,Nat.mul_comm] at h4;omega
theorem Ui (U U1 U2 Q V E c:Nat) (hV:0<V) (hVE:V<=E) (h:U+1*E=U1+Q*V) (h1:U / V<=Q) (h2:Q<=U / V+1) (hU1:U1<E) (hU2:U2<E) (h3:U1+V=U2+c*E):
  0<Q/\Q-1=U / V/\U2=U % V:=by
 have h4:U / V<Q:=(Nat.div_lt_iff_lt_mul hV).2 (by omega);have h5:Q=U / V+1:=by omega
 have h6:=Nat.div_add_mod U V;have h7:=Nat.mod_lt U hV;generalize U / V=d at*;generalize U % V=r at*;subst h5;rw[Nat.add_mul,Nat.mul_comm d V] at h;refine⟨by omega,by omega,?_⟩
 have hc:c=1:=by
  rcases Nat.lt_or_ge c 1 with h8|h8
  ·obtain rfl:c=0:=by omega
   omega
  ·rcases Nat.lt_or_ge 1 c with h9|h9
   ·have:=Nat.mul_le_mul_right E (show 2<=c from h9);omega
   ·omega
 subst hc;omega
end Go.Proofs.YtjpbmbgincdjaaaGreatDoor
namespace Go.Proofs.YtjpbmbgincdjaaaGreatDoor
open Go.RowKit List
def dep (ops:Array Oper) (md:Region.Mode) (l:Array Bool) (i:Nat):Nat->Nat->Bool
 |0,_=>false
 |f+1,k=> !l.getD k true&&((ops[k]?).map fun o=>o.after.any fun e=>Region.binds md e&&(e.on==i||dep ops md l i f e.on)).getD false
theorem Iz {l:Array Bool} {k:Nat} (h:l.getD k true=false):l.getD k false=false:=by
 by_cases hk:k<l.size
 ·simpa [hk] using h
 ·simp[hk] at h
section
variable {P:Program} {ops:Array Oper} {Q:Exit->Act->World->Prop} {md:Region.Mode} {S:World->Prop} {x:Nat} {l:Array Bool} {i:Nat}
theorem aeV {f k:Nat} (h:dep ops md l i f k=true):l.getD k true=false:=by
 cases f with
 |zero=>cases h
 |succ f=>unfold dep at h;rw[Bool.and_eq_true] at h;simpa using h.1
theorem Xd (hi:l.getD i true=false) {f k:Nat} (h:dep ops md l i f k=true):k∉Region.ready md ops l:=by
 cases f with
 |zero=>cases h
 |succ f=>
  unfold dep at h;rw[Bool.and_eq_true] at h;intro hk;obtain⟨_,o,ho,hall⟩:=mem_ready.1 hk;have h2:=h.2;rw[ho,Option.map_some,Option.getD_some,Array.any_eq_true'] at h2;obtain⟨e,he,h3⟩:=h2;rw[Bool.and_eq_true,Bool.or_eq_true] at h3;have h4:=hall e he h3.1;rcases h3.2 with h5|h5
  ·rw[eq_of_beq h5,Iz hi] at h4;cases h4
  ·rw[Iz (aeV h5)] at h4;cases h4
theorem adB (hi:l.getD i true=false) {j:Nat} (hj:j∈Region.ready md ops l):∀{f k:Nat},dep ops md l i f k=true->dep ops md (l.setIfInBounds j true) i f k=true:=by
 intro f
 induction f with
 |zero=>intro k h;cases h
 |succ f ih=>
  intro k h;have hk:j≠k:=by rintro rfl;exact Xd hi h hj
  unfold dep at h⊢;rw[Bool.and_eq_true] at h⊢;refine⟨by rw[Go.getD_set_ne _ hk];exact h.1,?_⟩;have h2:=h.2;cases ho:ops[k]? with
  |none=>rw[ho] at h2;cases h2
  |some o=>
   rw[ho] at h2;rw[Option.map_some,Option.getD_some,Array.any_eq_true'] at h2⊢;obtain⟨e,he,h3⟩:=h2;rw[Bool.and_eq_true,Bool.or_eq_true] at h3;exact⟨e,he,by rw[Bool.and_eq_true,Bool.or_eq_true];exact⟨h3.1,h3.2.imp id ih⟩⟩
def dw (P:Program) (md:Region.Mode) (ops:Array Oper) (Q:Exit->Act->World->Prop) (S:World->Prop) (x:Nat):Nat->Array Bool->Act->World->Prop
 |0,l,a,w=>Region.ready md ops l=[]/\Q .normal a w
 |f+1,l,a,w=>(Region.ready md ops l=[]->Q .normal a w)/\
  ∀i∈Region.ready md ops l,wpOp P ops Q i (fun a' w'=>(i≠x->S w')/\dw P md ops Q S x f (l.setIfInBounds i true) a' w') a w
theorem FK:∀(f:Nat) (l:Array Bool) (a:Act) (w:World),dw P md ops Q S x f l a w->wpAny P md ops Q f l a w
 |0,_,_,_,h=>h
 |f+1,_,_,_,h=>⟨h.1,fun i hi=>wpOp_mono (fun a' w' k=>FK f _ a' w' k.2) (h.2 i hi)⟩
theorem vK {oi:Oper} {v:Value} (hi:ops[i]?=some oi) (hsel:∀(j:Nat) (o:Oper) cs b,ops[j]?=some o->o.op≠.select cs b)
  (hQ:∀c a w,Q (.panic c) (a.put oi.dst v) w->Q (.panic c) a w) (D:Nat):
  ∀(f:Nat) (l:Array Bool) (a:Act) (w:World),
   (∀j oj,ops[j]?=some oj->j≠i->l.getD j true=false->(∀e∈oj.after,Region.binds md e=true->e.on≠i)->oi.apart ops oj=true)->
   (x<ops.size->dep ops md l i D x=true)->i∈Region.ready md ops l->YieldsIf P ops S oi v a->S w->
   dw P md ops Q S x f (l.setIfInBounds i true) (a.put oi.dst v) w->dw P md ops Q S x (f+1) l a w:=by
 intro f
 induction f with
 |zero=>
  intro l a w _ _ hr hy hS H;refine⟨fun h=>(by rw[h] at hr;cases hr),fun j hj=>?_⟩;by_cases hji:j=i
  ·subst hji;exact hy.wpOp hi hS ⟨fun _=>hS,H⟩
  ·have:=ready_mono hj hji;rw[H.1] at this;cases this
 |succ f ih=>
  intro l a w hfree hd hr hy hS H;refine⟨fun h=>(by rw[h] at hr;cases hr),fun j hj=>?_⟩;by_cases hji:j=i
  ·subst hji;exact hy.wpOp hi hS ⟨fun _=>hS,H⟩
  ·obtain⟨hju,oj,hoj,hall⟩:=mem_ready.1 hj;have hiu:=(mem_ready.1 hr).1
   have FN:j≠x:=by
    rintro rfl;exact Xd hiu (hd (Array.getElem?_eq_some_iff.1 hoj).1) hj
   have hnot:∀e∈oj.after,Region.binds md e=true->e.on≠i:=fun e he hb heq=>by
    have h1:=hall e he hb;rw[heq,Iz hiu] at h1;cases h1
   have h2:=wpOp_putIf hoj (hfree j oj hoj hji hju hnot) (fun cs b=>hsel i oi cs b hi) (fun cs b=>hsel j oj cs b hoj) hQ hy (H.2 j (ready_mono hj hji));refine wpOp_mono (fun a' w' h3=>⟨h3.2.1,ih (l.setIfInBounds j true) a' w' (fun k ok hk hki hun hno=>hfree k ok hk hki ?_ hno) (fun hx=>adB hiu hj (hd hx)) (ready_mono hr (Ne.symm hji)) h3.1 (h3.2.1 FN) ?_⟩) h2
   ·by_cases hjk:j=k
    ·subst hjk;exact hju
    ·rw[Go.getD_set_ne true hjk] at hun;exact hun
   ·rw[Array.setIfInBounds_comm _ _ hji];exact h3.2.2
theorem jL (S:World->Prop) (x:Nat) {id:Nat} {a:Act} {w:World} (hS:S w.drew) {n:Nat} (h:∀w1,Below w.heap.size w w1->S w1->dw P .any ops (NoPanic Q) S x n (Array.replicate n false) a w1) (hm:P.follows .mixedOrders=true:=by kernel_rfl) (hn:ops.size=n:=by (simp only[size_toArray,length_cons,length_nil,Nat.reduceAdd];rfl)):(Code.region id ops true).wp P Q a w:=
 wp_region_noPanic (wp_region_any hm (FK _ _ _ _ (by rw[hn];exact h w.drew (aI _ _ 1) hS)))
theorem iW {a:Act} {w:World} {f:Nat} (h:Q .normal a w) (hr:Region.ready md ops l=[]:=by kernel_rfl):dw P md ops (NoPanic Q) S x f l a w:=by
 cases f with
 |zero=>exact⟨hr,NoPanic.normal h⟩
 |succ f=>exact⟨fun _=>NoPanic.normal h,by rw[hr];simp⟩
theorem iM (i:Nat) {v:Value} {oi:Oper} {f:Nat} {a a':Act} {w:World} (h:dw P md ops Q S x f (l.setIfInBounds i true) a' w)
  (hi:ops[i]?=some oi:=by rfl) (hy:∀w,S w->(execOp a.eval oi).run P w=.ok (.value v) w:=by ((intro w hSw;(try dsimp only at hSw);go_simp);all_goals with_reducible rfl))
  (ha:a.put oi.dst v=a':=by ((try simp only[Act.put,tk1,tk2,tk3,tk4,jY,jZ]);rfl))
  (hs:Region.noSelect ops=true:=by kernel_rfl) (hf:Region.free md ops l i=true:=by kernel_rfl) (hr:(Region.ready md ops l).contains i=true:=by kernel_rfl)
  (hw:Region.wanted oi (yielded ops a.tmps)=true:=by kernel_rfl) (hS:S w:=by assumption) (hQ:∀c a w,Q (.panic c) (a.put oi.dst v) w->Q (.panic c) a w:=by exact fun _ _ _ h=>h)
  (hx:(decide (ops.size<=x)||dep ops md l i ops.size x)=true:=by kernel_rfl):dw P md ops Q S x (f+1) l a w:=
 vK hi (Region.noSelect_spec hs) hQ ops.size f l a w (Region.free_spec hi hf) (fun h0=>by rcases Bool.or_eq_true _ _ ▸ hx with h1|h1;exact absurd (of_decide_eq_true h1) (by omega);exact h1) (by simpa using hr) (Or.inl ⟨hw,hy⟩) hS (by rw[ha];exact h)
theorem dR {i:Nat} {v:Value} {oi:Oper} {f:Nat} {a a':Act} {w:World} (h:dw P md ops Q S x f (l.setIfInBounds i true) a' w)
  (hn:ops.size-(f+1)=i:=by ((try simp only[size_toArray,length_cons,length_nil,Nat.reduceAdd,Nat.reduceSub]);rfl)) (hi:ops[i]?=some oi:=by rfl) (hy:∀w,S w->(execOp a.eval oi).run P w=.ok (.value v) w:=by ((intro w hSw;(try dsimp only at hSw);go_simp);all_goals with_reducible rfl))
  (ha:a.put oi.dst v=a':=by ((try simp only[Act.put,tk1,tk2,tk3,tk4,jY,jZ]);rfl))
  (hs:Region.noSelect ops=true:=by kernel_rfl) (hf:Region.free md ops l i=true:=by kernel_rfl) (hr:(Region.ready md ops l).contains i=true:=by kernel_rfl)
  (hw:Region.wanted oi (yielded ops a.tmps)=true:=by kernel_rfl) (hS:S w:=by assumption) (hQ:∀c a w,Q (.panic c) (a.put oi.dst v) w->Q (.panic c) a w:=by exact fun _ _ _ h=>h)
  (hx:(decide (ops.size<=x)||dep ops md l i ops.size x)=true:=by kernel_rfl):dw P md ops Q S x (f+1) l a w:=
 vK hi (Region.noSelect_spec hs) hQ ops.size f l a w (Region.free_spec hi hf) (fun h0=>by rcases Bool.or_eq_true _ _ ▸ hx with h1|h1;exact absurd (of_decide_eq_true h1) (by omega);exact h1) (by simpa using hr) (Or.inl ⟨hw,hy⟩) hS (by rw[ha];exact h)
theorem reN (i:Nat) {oi:Oper} {f:Nat} {a a':Act} {w:World} (h:dw P md ops Q S x f (l.setIfInBounds i true) a' w)
  (hi:ops[i]?=some oi:=by rfl)
  (ha:a.put oi.dst undef=a':=by ((try simp only[Act.put,tk1,tk2,tk3,tk4,jY,jZ]);rfl))
  (hs:Region.noSelect ops=true:=by kernel_rfl) (hf:Region.free md ops l i=true:=by kernel_rfl) (hr:(Region.ready md ops l).contains i=true:=by kernel_rfl)
  (hw:Region.wanted oi (yielded ops a.tmps)=false:=by kernel_rfl) (hS:S w:=by assumption) (hQ:∀c a w,Q (.panic c) (a.put oi.dst undef) w->Q (.panic c) a w:=by exact fun _ _ _ h=>h)
  (hx:(decide (ops.size<=x)||dep ops md l i ops.size x)=true:=by kernel_rfl):dw P md ops Q S x (f+1) l a w:=
 vK hi (Region.noSelect_spec hs) hQ ops.size f l a w (Region.free_spec hi hf) (fun h0=>by rcases Bool.or_eq_true _ _ ▸ hx with h1|h1;exact absurd (of_decide_eq_true h1) (by omega);exact h1) (by simpa using hr) (Or.inr ⟨hw,rfl⟩) hS (by rw[ha];exact h)
theorem Lp {i:Nat} {o:Oper} {f:Nat} {a:Act} {w:World} (ho:ops[i]?=some o) (hr:Region.ready md ops l=[i])
  (h:wpOp P ops Q i (fun a' w'=>(i≠x->S w')/\dw P md ops Q S x f (l.setIfInBounds i true) a' w') a w):dw P md ops Q S x (f+1) l a w:=
 ⟨fun h0=>(by rw[hr] at h0;cases h0),fun j hj=>(by rw[hr,mem_singleton] at hj;subst hj;exact h)⟩
theorem FP (i j:Nat) {f:Nat} {a:Act} {w:World} (hi:wpOp P ops Q i (fun a' w'=>(i≠x->S w')/\dw P md ops Q S x f (l.setIfInBounds i true) a' w') a w)
  (hj:wpOp P ops Q j (fun a' w'=>(j≠x->S w')/\dw P md ops Q S x f (l.setIfInBounds j true) a' w') a w) (hr:Region.ready md ops l=[i,j]:=by kernel_rfl):dw P md ops Q S x (f+1) l a w:=
 ⟨fun h0=>(by rw[hr] at h0;cases h0),fun k hk=>(by
   rw[hr] at hk;rcases mem_cons.1 hk with rfl|hk
   ·exact hi
   ·rw[mem_singleton] at hk;subst hk;exact hj)⟩
theorem DF {S':World->Prop} (hS:∀w,S' w->S w):∀(f:Nat) (l:Array Bool) (a:Act) (w:World),dw P md ops Q S' x f l a w->dw P md ops Q S x f l a w
 |0,_,_,_,h=>h
 |f+1,_,_,_,h=>⟨h.1,fun i hi=>wpOp_mono (fun a' w' k=>⟨fun hx=>hS _ (k.1 hx),DF hS f _ a' w' k.2⟩) (h.2 i hi)⟩
theorem reM (S':World->Prop) {f:Nat} {a:Act} {w:World} (h':S' w) (hS:∀w,S' w->S w) (h:S' w->dw P md ops Q S' x f l a w):dw P md ops Q S x f l a w:=DF hS _ _ _ _ (h h')
theorem opC {i:Nat} {o:Oper} {fn:FuncId} {args:Array Value} {R:Ending->World->Prop} {f:Nat} {a:Act} {a':Value->Act} {w:World} (c:Calls P fn args w R)
  (h:∀e w',R e w'->∃v,e=.returned v/\S w'/\(S w'->dw P md ops Q S x f (l.setIfInBounds i true) (a' v) w'))
  (ho:ops[i]?=some o:=by rfl) (hw:Region.wanted o (yielded ops a.tmps)=true:=by kernel_rfl)
  (he:(execOp a.eval o).run P w=.ok (.enter fn args) w:=by (go_simp;all_goals first|with_reducible rfl|rfl|(repeat' (first|rfl|refine⟨?_,?_⟩))))
  (ha:∀v,a.put o.dst v=a' v:=by (intro v;(try simp only[Act.put,tk1,tk2,tk3,tk4,jY,jZ]);rfl)):
  wpOp P ops Q i (fun a' w'=>(i≠x->S w')/\dw P md ops Q S x f (l.setIfInBounds i true) a' w') a w:=by
 unfold wpOp;simp only[ho,hw,if_true,Oper.wp,he,Oper.upon]
 refine .inl (c.mono fun e w' hR=>?_);obtain⟨v,rfl,hS,hk⟩:=h e w' hR;show _/\dw P md ops Q S x f _ (a.put o.dst v) w';rw[ha];exact⟨fun _=>hS,hk hS⟩
theorem mg (i:Nat) {o:Oper} {fn:FuncId} {args:Array Value} {R:Ending->World->Prop} {f:Nat} {a:Act} {a':Value->Act} {w:World} (c:Calls P fn args w R)
  (h:∀e w',R e w'->∃v,e=.returned v/\S w'/\(S w'->dw P md ops Q S x f (l.setIfInBounds i true) (a' v) w'))
  (ho:ops[i]?=some o:=by rfl) (hr:Region.ready md ops l=[i]:=by kernel_rfl) (hw:Region.wanted o (yielded ops a.tmps)=true:=by kernel_rfl)
  (he:(execOp a.eval o).run P w=.ok (.enter fn args) w:=by (go_simp;all_goals first|with_reducible rfl|rfl|(repeat' (first|rfl|refine⟨?_,?_⟩))))
  (ha:∀v,a.put o.dst v=a' v:=by (intro v;(try simp only[Act.put,tk1,tk2,tk3,tk4,jY,jZ]);rfl)):dw P md ops Q S x (f+1) l a w:=
 Lp ho hr (opC c h ho hw he ha)
theorem Js {i:Nat} {o:Oper} {v:Value} {f:Nat} {a a':Act} {w w':World} (hS:i≠x->S w') (h:S w'->dw P md ops Q S x f (l.setIfInBounds i true) a' w')
  (ho:ops[i]?=some o:=by rfl) (hw:Region.wanted o (yielded ops a.tmps)=true:=by kernel_rfl)
  (he:(execOp a.eval o).run P w=.ok (.value v) w':=by (go_simp;all_goals first|with_reducible rfl|(repeat' (first|rfl|refine⟨?_,?_⟩))))
  (ha:a.put o.dst v=a':=by ((try simp only[Act.put,tk1,tk2,tk3,tk4,jY,jZ]);rfl)) (hx:i≠x:=by decide):
  wpOp P ops Q i (fun a' w'=>(i≠x->S w')/\dw P md ops Q S x f (l.setIfInBounds i true) a' w') a w:=by
 unfold wpOp;simp only[ho,hw,if_true,Oper.wp,he,Oper.upon]
 rw[ha];exact .inl ⟨hS,h (hS hx)⟩
theorem ng (i:Nat) {o:Oper} {v:Value} {f:Nat} {a a':Act} {w w':World} (hS:i≠x->S w') (h:S w'->dw P md ops Q S x f (l.setIfInBounds i true) a' w')
  (ho:ops[i]?=some o:=by rfl) (hr:Region.ready md ops l=[i]:=by kernel_rfl) (hw:Region.wanted o (yielded ops a.tmps)=true:=by kernel_rfl)
  (he:(execOp a.eval o).run P w=.ok (.value v) w':=by (go_simp;all_goals first|with_reducible rfl|(repeat' (first|rfl|refine⟨?_,?_⟩))))
  (ha:a.put o.dst v=a':=by ((try simp only[Act.put,tk1,tk2,tk3,tk4,jY,jZ]);rfl)) (hx:i≠x:=by decide):dw P md ops Q S x (f+1) l a w:=
 Lp ho hr (Js hS h ho hw he ha hx)
theorem nZ (i:Nat) {o:Oper} {f:Nat} {a a':Act} {w w':World} (hS:i≠x->S w') (h:(i≠x->S w')->dw P md ops Q S x f (l.setIfInBounds i true) a' w')
  (ho:ops[i]?=some o:=by rfl) (hr:Region.ready md ops l=[i]:=by kernel_rfl) (hw:Region.wanted o (yielded ops a.tmps)=true:=by kernel_rfl)
  (he:(execOp a.eval o).run P w=.ok .skip w':=by (go_simp;all_goals first|with_reducible rfl|(repeat' (first|rfl|refine⟨?_,?_⟩))))
  (ha:a.put o.dst undef=a':=by ((try simp only[Act.put,tk1,tk2,tk3,tk4,jY,jZ]);rfl)):dw P md ops Q S x (f+1) l a w:=by
 refine Lp ho hr ?_;unfold wpOp;simp only[ho,hw,if_true,Oper.wp,he,Oper.upon]
 rw[ha];exact .inl ⟨hS,h hS⟩
theorem reR (i:Nat) {o:Oper} {f:Nat} {a:Act} {w:World} (h:∀K':Act->World->Prop,Shut (∀a w,(i≠x->S w)->((i≠x->S w)->dw P md ops Q S x f (l.setIfInBounds i true) a w)->K' a w)->if Region.wanted o (yielded ops a.tmps)=true then Oper.wp P o a w K' Q else K' (a.put o.dst undef) w)
  (ho:ops[i]?=some o:=by rfl) (hr:Region.ready md ops l=[i]:=by kernel_rfl):dw P md ops Q S x (f+1) l a w:=by
 refine Lp ho hr ?_;have h1:=h (fun a' w'=>(i≠x->S w')/\dw P md ops Q S x f (l.setIfInBounds i true) a' w') (fun a w h1 h2=>⟨h1,h2 h1⟩);unfold wpOp;simp only[ho]
 split
 ·rename_i hw;rw[if_pos hw] at h1;exact .inl h1
 ·rename_i hw;rw[if_neg hw] at h1;exact h1
end
theorem zP {P:Program} {W:World} {news:Array Value} {ops:Array Oper} {rest:List Oper} {o:Oper} {a:Act} {Q:Exit->Act->World->Prop} {s x:Operand} {t e:TypeId} {z v:Value} {base size bytes n:Nat} {xs:List Value} {a':Value->Act}
  (hinfo:(P.info? e).map (fun i=>(i.zero,i.size,i.bytes))=some (some z,size,bytes)) (ht:P.underlying t=some (.slice e)) (hown:W.ownsRow base e size v n xs) (hn:n<=100000) (hbase:base<=W.heap.size)
  (h:∀v' w',w'.ownsRow base e size v' (n+1) (xs++news.toList)->Below base W w'->wpList P ops Q rest (a' v') w')
  (hgd:o.guard=none:=by rfl) (ho:o.op=.call {callee:=.builtin .append,args:=#[s,x],argTypes:=#[t,t]}:=by rfl) (hs:a.eval s=v:=by rfl) (hx:a.eval x=.slice (some ⟨W.heap.size,0,none⟩) 1 1:=by rfl)
  (hl:news.size=1*size:=by rfl) (hzs:z.cells.size=size:=by rfl) (hsz:0<size:=by decide) (hby:bytes<=1000:=by decide) (h1:∀u∈news.toList,u.oneCell'=true:=by (simp<;>(repeat' constructor)))
  (ha:∀v,a.put o.dst v=a' v:=by (intro v;rfl)):wpList P ops Q (o::rest) a (W.alloc (.cells news e)):=
 dW W news hgd s x t ho base e z size bytes 1 ht hinfo hzs hsz v n xs hs hown hx hl h1 (by unfold maxLen;omega) (Nat.le_trans (Nat.mul_le_mul (show n+1<=100001 by omega) hby) (by decide)) hbase (fun v' w' h2 h3=>by rw[ha];exact h v' w' h2 h3)
section
variable (m0:Mm) (ps:Nat->List (Ky × En)) (p:Nat->Bool)
def FM:Nat->Mm
 |0=>m0
 |n+1=>bif p n then upd (FM n) (ps n) else FM n
end
def wr (ps:Nat->List (Ky × En)) (i:Nat) (k:Ky):Bool:=(get k (ps i)).isSome
section
variable {m0:Mm} {ps:Nat->List (Ky × En)} {p q:Nat->Bool} {k:Ky}
theorem Em {m:Mm} {l:List (Ky × En)} (h:get k l=none):upd m l k=m k:=by simp only[upd,h]
theorem Mc {m:Mm} {l:List (Ky × En)} {e:En} (h:get k l=some e):upd m l k=some e:=by simp only[upd,h]
theorem ace {i:Nat} (h:wr ps i k=false):get k (ps i)=none:=by
 unfold wr at h;cases hg:get k (ps i)<;>simp_all
theorem vM:∀n,(∀i,i<n->wr ps i k=true->p i=q i)->FM m0 ps p n k=FM m0 ps q n k
 |0,_=>rfl
 |n+1,h=>by
  have ih:=vM n fun i hi=>h i (Nat.lt_succ_of_lt hi)
  unfold FM;cases hw:wr ps n k with
  |true=>
   rw[h n (Nat.lt_succ_self n) hw];cases q n
   ·exact ih
   ·simp only[cond_true,upd,ih]
  |false=>
   have h1:∀b:Bool,∀m:Mm,(bif b then upd m (ps n) else m) k=m k:=fun b m=>by
    cases b
    ·rfl
    ·exact Em (ace hw)
   rw[h1,h1,ih]
theorem Rf {i:Nat} {e:En} (hp:p i=true) (he:get k (ps i)=some e):∀n,i<n->(∀j,j<n->p j=true->i<j->wr ps j k=false)->FM m0 ps p n k=some e
 |n+1,hi,h=>by
  unfold FM;by_cases hin:i=n
  ·subst hin;rw[hp];exact Mc he
  ·have ih:=Rf hp he n (by omega) fun j hj=>h j (Nat.lt_succ_of_lt hj)
   cases hpn:p n
   ·exact ih
   ·simp only[cond_true]
    rw[Em (ace (h n (Nat.lt_succ_self n) hpn (by omega))),ih]
theorem aeX {n i:Nat} (hi:i<n) (hq:∀j,q j=(p j||j==i)) (h:∀j,j<n->p j=true->i<j->∀k,wr ps i k=true->wr ps j k=false):FM m0 ps q n=upd (FM m0 ps p n) (ps i):=by
 funext k
 cases hg:get k (ps i) with
 |some e=>
  rw[Mc hg];refine Rf (by rw[hq];simp) hg n hi fun j hj hqj hij=>h j hj ?_ hij k (by unfold wr;rw[hg];rfl)
  rw[hq] at hqj;have:(j==i)=false:=by simp;omega
  simpa [this] using hqj
 |none=>
  rw[Em hg];refine vM n fun j _ hw=>?_
  have:(j==i)=false:=by
   have:j≠i:=by rintro rfl;unfold wr at hw;rw[hg] at hw;cases hw
   simpa using this
  rw[hq,this,Bool.or_false]
end
def Uj (P:Program) {Ld:bU} (X:Cx Ld) (N:Nat) (ops:Array Oper) (o:Oper) (pre:List (Ky × Option En)) (post:List (Ky × En)):Prop:=
 ∀(m:Mm) (a:Act) (w:World) (K:Act->World->Prop) (Q:Exit->Act->World->Prop),RS X N m a w->(∀kc∈pre,m kc.1=kc.2)->(∀a' w',RS X N (upd m post) a' w'->K a' w')->
  if Region.wanted o (yielded ops a.tmps)=true then o.wp P a w K Q else K (a.put o.dst undef) w
def FQ (ops:Array Oper) (A:List (List Nat)):Bool:=
 (List.range ops.size).all fun j=>match ops[j]? with
   |none=>true
   |some o=>(o.after.all fun e=> !Region.binds .any e||decide (e.on<j))&&(A.getD j []).all fun i=>o.after.any fun e=>Region.binds .any e&&(e.on==i||(A.getD e.on []).contains i)
def hits (a b:List Ky):Bool:=a.any fun k=>b.any fun k'=>k.eq k'
def FT (A:List (List Nat)) (ks:List (List Ky × List Ky)):Bool:=
 (List.range ks.length).all fun j=>match ks[j]? with
   |none=>true
   |some y=>(List.range j).all fun i=>match ks[i]? with
    |none=>true
    |some x=>(A.getD j []).contains i|| !(hits x.2 (y.1++y.2)||hits x.1 y.2)
def Md (ops:Array Oper):List (List Nat):=
 ops.toList.foldl (fun A o=>A++[o.after.toList.foldl (fun s e=>bif Region.binds .any e then ((e.on::A.getD e.on []).filter fun i=> !s.contains i)++s else s) []]) []
theorem IB {a b:List Ky} (h:hits a b=false) {k:Ky} (ha:k∈a) (hb:k∈b):False:=by
 have:hits a b=true:=any_eq_true.2 ⟨k,ha,any_eq_true.2 ⟨k,hb,Ky.eq_self k⟩⟩;rw[h] at this;cases this
theorem get_mem {k:Ky}:∀{l:List (Ky × En)} {e:En},get k l=some e->k∈l.map (·.1)
 |(k',e')::l,e,h=>by
  unfold get at h;cases hk:k.eq k'
  ·rw[hk] at h;exact mem_cons_of_mem _ (get_mem h)
  ·rw[Ky.eq_iff.1 hk];exact mem_cons_self
def cnt (l:Array Bool):Nat->Nat
 |0=>0
 |n+1=>cnt l n+bif l.getD n true then 0 else 1
theorem Rh {l:Array Bool} {i:Nat} (hu:l.getD i true=false):∀n,i<n->cnt (l.setIfInBounds i true) n+1=cnt l n
 |n+1,hi=>by
  unfold cnt;by_cases hin:i=n
  ·subst hin
   have hs:(l.setIfInBounds i true).getD i true=true:=by
    by_cases h:i<l.size
    ·simp[h]
    ·simp[h] at hu
   have h0:∀k,k<=i->cnt (l.setIfInBounds i true) k=cnt l k:=by
    intro k
    induction k with
    |zero=>intro _;rfl
    |succ k ih=>intro hk;unfold cnt;rw[ih (by omega),Go.getD_set_ne true (by omega)]
   rw[hs,hu,h0 i (Nat.le_refl _)];simp
  ·rw[Go.getD_set_ne true hin];have:=Rh hu n (by omega);omega
theorem Me {l:Array Bool}:∀n,cnt l n=0->∀i,i<n->l.getD i true=true
 |n+1,h,i,hi=>by
  unfold cnt at h;by_cases hin:i=n
  ·subst hin;cases hg:l.getD i true
   ·rw[hg] at h;simp at h
   ·rfl
  ·exact Me n (by omega) i (by omega)
section
variable {P:Program} {Ld:bU} {X:Cx Ld} {N:Nat} {ops:Array Oper} {m0:Mm} {pr:Nat->List (Ky × Option En)} {ps:Nat->List (Ky × En)} {A:List (List Nat)} {ks:List (List Ky × List Ky)}
theorem FU {l:Array Bool} (hA:FQ ops A=true) (hd:∀(j:Nat) o,ops[j]?=some o->l.getD j true=true->∀e∈o.after,Region.binds .any e=true->l.getD e.on false=true):
  ∀(n j:Nat),j<=n->∀o,ops[j]?=some o->(∀e∈o.after,Region.binds .any e=true->l.getD e.on false=true)->∀i,(A.getD j []).contains i=true->l.getD i false=true:=by
 have hA':∀(j:Nat) o,ops[j]?=some o->(∀e∈o.after,Region.binds .any e=true->e.on<j)/\∀i,(A.getD j []).contains i=true->∃e∈o.after,Region.binds .any e=true/\(e.on=i∨(A.getD e.on []).contains i=true):=by
  intro j o ho;have h1:=all_eq_true.1 hA j (mem_range.2 (Array.getElem?_eq_some_iff.1 ho).1);rw[ho] at h1;simp only[Bool.and_eq_true,Array.all_eq_true',Bool.or_eq_true,Bool.not_eq_true',decide_eq_true_eq,all_eq_true,Array.any_eq_true',beq_iff_eq] at h1
  exact⟨fun e he hb=>(h1.1 e he).resolve_left (by rw[hb];simp),fun i hi=>by
   obtain⟨e,he,hb,h2⟩:=h1.2 i (by simpa using hi);exact⟨e,he,hb,h2⟩⟩
 intro n
 induction n with
 |zero=>
  intro j hj o ho he i hi;obtain⟨e,h1,h2,h3⟩:=(hA' j o ho).2 i hi;exact absurd ((hA' j o ho).1 e h1 h2) (by omega)
 |succ n ih=>
  intro j hj o ho he i hi;obtain⟨e,h1,h2,h3⟩:=(hA' j o ho).2 i hi;have h4:=he e h1 h2;rcases h3 with rfl|h3
  ·exact h4
  ·have hlt:=(hA' j o ho).1 e h1 h2;have hjs:=(Array.getElem?_eq_some_iff.1 ho).1;have hoe:ops[e.on]?=some ops[e.on]:=Array.getElem?_eq_getElem (by omega);refine ih e.on (by omega) _ hoe (hd e.on _ hoe ?_) i h3;by_cases hs:e.on<l.size
   ·simpa [hs] using h4
   ·simp[hs] at h4
theorem Uk (hk:∀(i:Nat),i<ops.size->ks[i]?=some ((pr i).map (·.1),(ps i).map (·.1))) (hc:FT A ks=true) (hn:ks.length=ops.size) {i j:Nat} (hij:i<j) (hj:j<ops.size) (hno:(A.getD j []).contains i=false):
  (∀k,wr ps i k=true->wr ps j k=false)/\(∀kc∈pr j,wr ps i kc.1=false)/\∀kc∈pr i,wr ps j kc.1=false:=by
 have h1:=all_eq_true.1 hc j (mem_range.2 (by omega));rw[hk j hj] at h1;have h2:=all_eq_true.1 h1 i (mem_range.2 hij);rw[hk i (by omega)] at h2;simp only[hno,Bool.false_or,Bool.not_eq_true',Bool.or_eq_false_iff] at h2
 have mw:∀{i k},wr ps i k=true->k∈(ps i).map (·.1):=by
  intro i k h;unfold wr at h;obtain⟨e,he⟩:=Option.isSome_iff_exists.1 h;exact get_mem he
 refine⟨fun k hw=>?_,fun kc hkc=>?_,fun kc hkc=>?_⟩
 ·cases h:wr ps j k
  ·rfl
  ·exact (IB h2.1 (mw hw) (mem_append_right _ (mw h))).elim
 ·cases h:wr ps i kc.1
  ·rfl
  ·exact (IB h2.1 (mw h) (mem_append_left _ (mem_map_of_mem hkc))).elim
 ·cases h:wr ps j kc.1
  ·rfl
  ·exact (IB h2.2 (mem_map_of_mem hkc) (mw h)).elim
theorem adC {Q:Exit->Act->World->Prop} (hk:∀(i:Nat),i<ops.size->ks[i]?=some ((pr i).map (·.1),(ps i).map (·.1))) (hn:ks.length=ops.size) (hA:FQ ops A=true) (hc:FT A ks=true)
  (hs:∀(i:Nat) o,ops[i]?=some o->Uj P X N ops o (pr i) (ps i)) (hp:∀i,i<ops.size->∀kc∈pr i,FM m0 ps (fun _=>true) i kc.1=kc.2)
  (hQ:∀a w,RS X N (FM m0 ps (fun _=>true) ops.size) a w->Q .normal a w):
  ∀(f:Nat) (l:Array Bool) (a:Act) (w:World),l.size=ops.size->cnt l ops.size<=f->(∀(j:Nat) o,ops[j]?=some o->l.getD j true=true->∀e∈o.after,Region.binds .any e=true->l.getD e.on false=true)->
   RS X N (FM m0 ps (fun i=>l.getD i true) ops.size) a w->wpAny P .any ops Q f l a w:=by
 have hlt:∀(j:Nat) o,ops[j]?=some o->∀e∈o.after,Region.binds .any e=true->e.on<j:=by
  intro j o ho e he hb;have h1:=all_eq_true.1 hA j (mem_range.2 (Array.getElem?_eq_some_iff.1 ho).1);rw[ho] at h1;simp only[Bool.and_eq_true,Array.all_eq_true',Bool.or_eq_true,Bool.not_eq_true',decide_eq_true_eq] at h1;exact (h1.1 e he).resolve_left (by rw[hb];simp)
 have hend:∀(l:Array Bool) a w,l.size=ops.size->Region.ready .any ops l=[]->RS X N (FM m0 ps (fun i=>l.getD i true) ops.size) a w->Q .normal a w:=by
  intro l a w hsz hr hR
  have hall:∀n i,i<=n->i<ops.size->l.getD i true=true:=by
   intro n
   induction n with
   |zero=>
    intro i hi his;cases hg:l.getD i true
    ·have:i∈Region.ready .any ops l:=mem_ready.2 ⟨hg,_,Array.getElem?_eq_getElem his,fun e he hb=>absurd (hlt i _ (Array.getElem?_eq_getElem his) e he hb) (by omega)⟩;rw[hr] at this;cases this
    ·rfl
   |succ n ih=>
    intro i hi his;cases hg:l.getD i true
    ·have:i∈Region.ready .any ops l:=mem_ready.2 ⟨hg,_,Array.getElem?_eq_getElem his,fun e he hb=>by
      have h1:=hlt i _ (Array.getElem?_eq_getElem his) e he hb;have h2:=ih e.on (by omega) (by omega);have h3:e.on<l.size:=by omega
      simpa [h3] using h2⟩
     rw[hr] at this;cases this
    ·rfl
  refine hQ a w ?_
  have:FM m0 ps (fun i=>l.getD i true) ops.size=FM m0 ps (fun _=>true) ops.size:=by
   funext k
   exact vM _ fun i hi _=>hall i i (Nat.le_refl _) hi
  rwa[this] at hR
 intro f
 induction f with
 |zero=>
  intro l a w hsz hcn _ hR;have h0:=Me ops.size (Nat.le_zero.1 hcn)
  have hr:Region.ready .any ops l=[]:=by
   rcases h:Region.ready .any ops l with _|⟨i,t⟩
   ·rfl
   ·have hi:i∈Region.ready .any ops l:=by rw[h];simp
    obtain⟨hu,o,ho,_⟩:=mem_ready.1 hi;rw[h0 i (Array.getElem?_eq_some_iff.1 ho).1] at hu;cases hu
  exact⟨hr,hend l a w hsz hr hR⟩
 |succ f ih=>
  intro l a w hsz hcn hd hR;refine⟨fun hr=>hend l a w hsz hr hR,fun i hi=>?_⟩;obtain⟨hu,o,ho,he⟩:=mem_ready.1 hi;have his:=(Array.getElem?_eq_some_iff.1 ho).1;have hex:∀e∈o.after,Region.binds .any e=true->l.getD e.on false=true:=he
  have hfl:∀j,j<ops.size->l.getD j false=true->l.getD j true=true:=fun j hj h=>by
   have:j<l.size:=by omega
   simpa [this] using h
  --listed operations that touch what i touches stand ahead of it
  have Xe:∀j,j<ops.size->i<j->l.getD j true=true->(A.getD j []).contains i=false:=by
   intro j hj hij hl;cases hcn:(A.getD j []).contains i
   ·rfl
   ·have hoj:ops[j]?=some ops[j]:=Array.getElem?_eq_getElem hj;have:=hfl i his (FU hA hd j j (Nat.le_refl _) _ hoj (hd j _ hoj hl) i hcn);rw[hu] at this;cases this
  have adD:∀j,j<i->l.getD j true=false->(A.getD i []).contains j=false:=by
   intro j hj hl;cases hcn:(A.getD i []).contains j
   ·rfl
   ·have:=hfl j (by omega) (FU hA hd i i (Nat.le_refl _) _ ho hex j hcn);rw[hl] at this;cases this
  have hpre:∀kc∈pr i,FM m0 ps (fun i=>l.getD i true) ops.size kc.1=kc.2:=by
   intro kc hkc;rw[<-hp i his kc hkc]
   --both are the memory of those listed ahead of i
   have h1:FM m0 ps (fun j=>l.getD j true) ops.size kc.1=FM m0 ps (fun j=>decide (j<i)) ops.size kc.1:=by
    refine vM _ fun j hj hw=>?_
    rcases Nat.lt_trichotomy j i with hlt'|rfl|hgt
    ·rw[decide_eq_true hlt'];cases hl:l.getD j true
     ·have:=(Uk hk hc hn hlt' his (adD j hlt' hl)).2.1 kc hkc;rw[this] at hw;cases hw
     ·rfl
    ·rw[hu,decide_eq_false (Nat.lt_irrefl _)]
    ·rw[decide_eq_false (by omega)];cases hl:l.getD j true
     ·rfl
     ·have:=(Uk hk hc hn hgt hj (Xe j hj hgt hl)).2.2 kc hkc;rw[this] at hw;cases hw
   rw[h1]
   have h2:∀n,FM m0 ps (fun j=>decide (j<i)) (i+n)=FM m0 ps (fun j=>decide (j<i)) i:=by
    intro n
    induction n with
    |zero=>rfl
    |succ n ihn=>
     show FM m0 ps _ (i+n+1)=_;rw[FM,decide_eq_false (by omega),cond_false,ihn]
   rw[show ops.size=i+(ops.size-i) by omega,h2];exact vM _ fun j hj _=>by rw[decide_eq_true hj]
  unfold wpOp;simp only[ho]
  have hst:=hs i o ho _ a w (fun a' w'=>wpAny P .any ops Q f (l.setIfInBounds i true) a' w') Q hR hpre (fun a' w' hR'=>?_)
  ·split
   ·rename_i hw;rw[if_pos hw] at hst;exact .inl hst
   ·rename_i hw;rw[if_neg hw] at hst;exact hst
  ·refine ih _ a' w' (by rw[Array.size_setIfInBounds];exact hsz) (by have:=Rh hu ops.size his;omega) ?_ ?_
   ·intro j oj hoj hl e he' hb
    have hjl:j=i∨l.getD j true=true:=by
     by_cases hji:j=i
     ·exact .inl hji
     ·rw[Go.getD_set_ne true (Ne.symm hji)] at hl;exact .inr hl
    have h3:l.getD e.on false=true:=by
     rcases hjl with rfl|hjl
     ·rw[ho] at hoj;cases hoj;exact hex e he' hb
     ·exact hd j oj hoj hjl e he' hb
    by_cases hei:e.on=i
    ·rw[hei];have:i<l.size:=by omega
     simp[this]
    ·rw[Go.getD_set_ne false (Ne.symm hei)];exact h3
   ·have h4:FM m0 ps (fun j=>(l.setIfInBounds i true).getD j true) ops.size=upd (FM m0 ps (fun j=>l.getD j true) ops.size) (ps i):=by
     refine aeX his (fun j=>?_) fun j hj hl hij k hw=>(Uk hk hc hn hij hj (Xe j hj hij hl)).1 k hw
     by_cases hji:j=i
     ·subst hji;have:j<l.size:=by omega
      simp[this]
     ·have:(j==i)=false:=by simpa using hji
      rw[Go.getD_set_ne true (Ne.symm hji),this,Bool.or_false]
    rw[h4];exact hR'
end
end Go.Proofs.YtjpbmbgincdjaaaGreatDoor
