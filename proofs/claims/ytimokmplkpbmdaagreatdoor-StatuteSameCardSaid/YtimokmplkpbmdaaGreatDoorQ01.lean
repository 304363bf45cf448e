/- A part of the proof: Tk Knuth Divm Te. -/
import Derived.Test.YtimokmplkpbmdaaGreatDoorQ00
set_option linter.all false
set_option maxRecDepth 100000
set_option maxHeartbeats 0
namespace Go.Proofs.YtimokmplkpbmdaaGreatDoor
open Go.RowKit
theorem zE {α:Sort _} (x:α):∃y,y=x:=⟨x,rfl⟩
theorem zF {α:Sort _} (x:α):∃y,x=y:=⟨x,rfl⟩
theorem zH {p:Prop} (h:p):Hid p:=Lib.hid h
theorem zB (w:World) (o:Obj):Below w.heap.size w (w.alloc o):=(Below.refl _ _).alloc (Nat.le_refl _) _
theorem zA {w W:World} {cs:Array Value} {t:TypeId} (h:w.alloc (.cells cs t)=W):aj W w.heap.size t cs.toList/\Below w.heap.size w W:=by subst h;exact⟨aj.new _ _ _,zB _ _⟩
section
variable {P:Program} {ops:Array Oper} {Q:Exit->Act->World->Prop} {md:Region.Mode} {S:World->Prop}
theorem tkY (i:Nat) (v:Value) {oi:Oper} {fuel:Nat} {listed:Array Bool} {a:Act} {w:World} (hi:ops[i]?=some oi) (hy:∀w,S w->(execOp a.eval oi).run P w=.ok (.value v) w)
  (h:wpAnyH P md ops Q S fuel (listed.setIfInBounds i true) (a.put oi.dst v) w)
  (hs:Region.noSelect ops=true:=by kernel_rfl) (hf:Region.free md ops listed i=true:=by kernel_rfl) (hr:(Region.ready md ops listed).contains i=true:=by kernel_rfl)
  (hw:Region.wanted oi (yielded ops a.tmps)=true:=by kernel_rfl) (hS:S w:=by assumption) (hQ:∀c a w,Q (.panic c) (a.put oi.dst v) w->Q (.panic c) a w:=by exact fun _ _ _ h=>h):wpAnyH P md ops Q S (fuel+1) listed a w:=
 wpAnyH_take hi hs hf hr hQ (Or.inl ⟨hw,hy⟩) hS h
theorem aP (i:Nat) {v:Value} {oi:Oper} {fuel:Nat} {listed:Array Bool} {a a':Act} {w:World} (h:wpAnyH P md ops Q S fuel (listed.setIfInBounds i true) a' w)
  (hi:ops[i]?=some oi:=by rfl) (hy:∀w,S w->(execOp a.eval oi).run P w=.ok (.value v) w:=by ((intro w hSw;(try dsimp only at hSw);go_simp);all_goals with_reducible rfl))
  (ha:a.put oi.dst v=a':=by ((try simp only[Act.put,List.setIfInBounds_toArray,List.set_cons_zero,List.set_cons_succ,List.getElem_toArray,List.getElem_cons_succ,List.getElem_cons_zero]);rfl))
  (hs:Region.noSelect ops=true:=by kernel_rfl) (hf:Region.free md ops listed i=true:=by kernel_rfl) (hr:(Region.ready md ops listed).contains i=true:=by kernel_rfl)
  (hw:Region.wanted oi (yielded ops a.tmps)=true:=by kernel_rfl) (hS:S w:=by assumption) (hQ:∀c a w,Q (.panic c) (a.put oi.dst v) w->Q (.panic c) a w:=by exact fun _ _ _ h=>h):wpAnyH P md ops Q S (fuel+1) listed a w:=
 wpAnyH_take hi hs hf hr hQ (Or.inl ⟨hw,hy⟩) hS (by rw[ha];exact h)
theorem iV (i:Nat) {o:Oper} {fuel:Nat} {listed:Array Bool} {a:Act} {w:World} (h:(∀K':Act->World->Prop,Shut (∀a w,S w->(S w->wpAnyH P md ops Q S fuel (listed.setIfInBounds i true) a w)->K' a w)->if Region.wanted o (yielded ops a.tmps)=true then Oper.wp P o a w K' Q else K' (a.put o.dst undef) w))
  (ho:ops[i]?=some o:=by rfl) (hr:Region.ready md ops listed=[i]:=by kernel_rfl):wpAnyH P md ops Q S (fuel+1) listed a w:=wpAnyH_ready hr (by simp) (AllReadyH.cons ho h AllReadyH.nil)
theorem RJ (i j:Nat) {o o':Oper} {fuel:Nat} {listed:Array Bool} {a:Act} {w:World} (h:(∀K':Act->World->Prop,Shut (∀a w,S w->(S w->wpAnyH P md ops Q S fuel (listed.setIfInBounds i true) a w)->K' a w)->if Region.wanted o (yielded ops a.tmps)=true then Oper.wp P o a w K' Q else K' (a.put o.dst undef) w)) (h':(∀K':Act->World->Prop,Shut (∀a w,S w->(S w->wpAnyH P md ops Q S fuel (listed.setIfInBounds j true) a w)->K' a w)->if Region.wanted o' (yielded ops a.tmps)=true then Oper.wp P o' a w K' Q else K' (a.put o'.dst undef) w))
  (ho:ops[i]?=some o:=by rfl) (ho':ops[j]?=some o':=by rfl) (hr:Region.ready md ops listed=[i,j]:=by kernel_rfl):wpAnyH P md ops Q S (fuel+1) listed a w:=wpAnyH_ready hr (by simp) (AllReadyH.cons ho h (AllReadyH.cons ho' h' AllReadyH.nil))
theorem gI {K:Act->World->Prop} {fuel:Nat} {listed:Array Bool} {a a':Act} {w:World} (hK:Shut (∀a w,S w->(S w->wpAnyH P md ops Q S fuel listed a w)->K a w)) (hS:S w) (h:S w->wpAnyH P md ops Q S fuel listed a' w)
  (ha:a=a':=by ((try simp only[Act.put,List.setIfInBounds_toArray,List.set_cons_zero,List.set_cons_succ,List.getElem_toArray,List.getElem_cons_succ,List.getElem_cons_zero]);rfl)):K a w:=hK.out _ _ hS (fun s=>by rw[ha];exact h s)
theorem lD (i:Nat) {oi:Oper} {fuel:Nat} {listed:Array Bool} {a:Act} {w:World} (hi:ops[i]?=some oi)
  (h:wpAnyH P md ops Q S fuel (listed.setIfInBounds i true) (a.put oi.dst undef) w)
  (hs:Region.noSelect ops=true:=by kernel_rfl) (hf:Region.free md ops listed i=true:=by kernel_rfl) (hr:(Region.ready md ops listed).contains i=true:=by kernel_rfl)
  (hw:Region.wanted oi (yielded ops a.tmps)=false:=by kernel_rfl) (hS:S w:=by assumption) (hQ:∀c a w,Q (.panic c) (a.put oi.dst undef) w->Q (.panic c) a w:=by exact fun _ _ _ h=>h):wpAnyH P md ops Q S (fuel+1) listed a w:=
 wpAnyH_take hi hs hf hr hQ (Or.inr ⟨hw,rfl⟩) hS h
end
section
variable {α:Type _}
theorem tk1 (l:List α) (i:Nat) (a:α):l.toArray.setIfInBounds i a=(l.set i a).toArray:=List.setIfInBounds_toArray l i a
theorem tk2 (x:α) (xs:List α) (a:α):(x::xs).set 0 a=a::xs:=rfl
theorem tk3 (x:α) (xs:List α) (n:Nat) (a:α):(x::xs).set (n+1) a=x::xs.set n a:=rfl
theorem tk4 (l:List α) (i:Nat) (h:i<l.toArray.size):l.toArray[i]=l[i]'(by simpa using h):=List.getElem_toArray h
theorem gU (a:α) (as:List α) (i:Nat) (h:i+1<(a::as).length):(a::as)[i+1]=as[i]'(by simpa using h):=rfl
theorem gV (a:α) (as:List α) (h:0<(a::as).length):(a::as)[0]=a:=rfl
end
end Go.Proofs.YtimokmplkpbmdaaGreatDoor
namespace Go.Proofs.YtimokmplkpbmdaaGreatDoor
theorem uF (s:Nat) (h:s<32):2 ^ s*2 ^ (32-s)=4294967296:=by
 rw[<-Nat.pow_add,show s+(32-s)=32 from by omega]
theorem YP (x s t:Nat) (hs:s<32) (ht:t<2 ^ s):
  t|||(x*2 ^ s) % 4294967296=t+(x*2 ^ s) % 4294967296:=by
 have e:(x*2 ^ s) % 4294967296=(x % 2 ^ (32-s))*2 ^ s:=by
  rw[<-uF s hs,Nat.mul_comm x,Nat.mul_mod_mul_left,Nat.mul_comm]
 rw[e];exact qB _ _ _ ht
theorem OY (x s t:Nat) (hs:s<32) (ht:t<2 ^ s):t+(x*2 ^ s) % 4294967296<4294967296:=by
 have e:(x*2 ^ s) % 4294967296=(x % 2 ^ (32-s))*2 ^ s:=by
  rw[<-uF s hs,Nat.mul_comm x,Nat.mul_mod_mul_left,Nat.mul_comm]
 have h1:x % 2 ^ (32-s)+1<=2 ^ (32-s):=Nat.mod_lt _ (Nat.pow_pos (by omega));have h2:=Nat.mul_le_mul_right (2 ^ s) h1;rw[Nat.mul_comm (2 ^ (32-s)),uF s hs,Nat.add_mul] at h2;omega
theorem YQ (x s:Nat) (_hs:s<32) (hx:x<4294967296):(x*2 ^ s) / 4294967296<2 ^ s:=by
 rw[Nat.div_lt_iff_lt_mul (by omega),Nat.mul_comm (2 ^ s)];exact Nat.mul_lt_mul_of_pos_right hx (Nat.pow_pos (by omega))
theorem ach (k s:Nat) (xs os:List Nat) (t:Nat) (hk:os.length=k)
  (h:val (2 ^ 32) os+t*(2 ^ 32) ^ k=val (2 ^ 32) (xs.take k)*2 ^ s):
  val (2 ^ 32) (os++[t+(xs.getD k 0*2 ^ s) % 4294967296])+(xs.getD k 0*2 ^ s) / 4294967296*(2 ^ 32) ^ (k+1)=val (2 ^ 32) (xs.take (k+1))*2 ^ s:=by
 rw[fQ,hk,dB,show (2 ^ 32) ^ (k+1)=(2 ^ 32) ^ k*4294967296 from Nat.pow_succ ..];generalize xs.getD k 0=x;have e:=Nat.div_add_mod (x*2 ^ s) 4294967296;generalize (x*2 ^ s) / 4294967296=q at*;generalize hr:(x*2 ^ s) % 4294967296=r at*;generalize (2 ^ 32) ^ k=E at*;generalize val (2 ^ 32) os=V at*;generalize val (2 ^ 32) (xs.take k)=X at*;generalize 2 ^ s=S at*
 grind
theorem Jk (m n:Nat):eY (m+1) n=eY m n++[n / (2 ^ 32) ^ m % 2 ^ 32]:=by simp[eY,List.range_succ]
theorem RN (xs:List Nat) (h:∀x∈xs,x<2 ^ 32) (k s:Nat) (hs:s<32) (hk:k<xs.length):
  val (2 ^ 32) xs / 2 ^ s / (2 ^ 32) ^ k % 2 ^ 32=xs.getD k 0 / 2 ^ s+(xs.getD (k+1) 0*2 ^ (32-s)) % 4294967296:=by
 have hsplit:=uF s hs;have hS:0<2 ^ s:=Nat.pow_pos (by omega);have hT:0<2 ^ (32-s):=Nat.pow_pos (by omega)
 have e1:val (2 ^ 32) xs / (2 ^ 32) ^ k=xs.getD k 0+4294967296*val (2 ^ 32) (xs.drop (k+1)):=by
  rw[qC (2 ^ 32) xs k (by omega),Nat.add_mul_div_left _ _ (Nat.pow_pos (by omega)),List.drop_eq_getElem_cons hk,val,getD_lt hk];have:=gZ (2 ^ 32) (xs.take k) (fun x hx=>h x (List.mem_of_mem_take hx));rw[List.length_take_of_le (by omega)] at this;rw[Nat.div_eq_of_lt this,Nat.zero_add]
 have e2:val (2 ^ 32) (xs.drop (k+1)) % 2 ^ s=xs.getD (k+1) 0 % 2 ^ s:=by
  rcases Nat.lt_or_ge (k+1) xs.length with h2|h2
  ·rw[List.drop_eq_getElem_cons h2,val,getD_lt h2,show (2:Nat) ^ 32=2 ^ s*2 ^ (32-s) from hsplit.symm,Nat.mul_assoc,Nat.add_mul_mod_self_left]
  ·rw[List.drop_eq_nil_of_le h2,List.getD_eq_getElem?_getD,List.getElem?_eq_none h2];rfl
 have hx:=aT (b:=2 ^ 32) (by omega) h k;rw[Nat.div_div_eq_div_mul,Nat.mul_comm (2 ^ s),<-Nat.div_div_eq_div_mul,e1];generalize val (2 ^ 32) (xs.drop (k+1))=M at*;generalize xs.getD k 0=x at*;generalize xs.getD (k+1) 0=y at*
 have e3:(x+4294967296*M) / 2 ^ s=x / 2 ^ s+2 ^ (32-s)*M:=by
  rw[<-hsplit,Nat.mul_assoc,Nat.add_mul_div_left _ _ hS]
 have e4:(2 ^ (32-s)*M) % 4294967296=(y*2 ^ (32-s)) % 4294967296:=by
  rw[<-hsplit,Nat.mul_comm (2 ^ s),Nat.mul_mod_mul_left,e2,Nat.mul_comm y,Nat.mul_mod_mul_left]
 have e5:x / 2 ^ s<2 ^ (32-s):=by
  rw[Nat.div_lt_iff_lt_mul hS,Nat.mul_comm,hsplit];exact hx
 have e6:(y*2 ^ (32-s)) % 4294967296+2 ^ (32-s)<=4294967296:=by
  have h1:y % 2 ^ s+1<=2 ^ s:=Nat.mod_lt _ hS;have h2:=Nat.mul_le_mul_left (2 ^ (32-s)) h1;rw[<-hsplit,Nat.mul_comm (2 ^ s),Nat.mul_comm y,Nat.mul_mod_mul_left];rw[Nat.mul_add] at h2;omega
 rw[e3,show (2:Nat) ^ 32=4294967296 from rfl,Nat.add_mod,e4,Nat.mod_eq_of_lt (show x / 2 ^ s<4294967296 by omega)];exact Nat.mod_eq_of_lt (by omega)
theorem aci (x y s:Nat) (hs:s<32) (hx:x<4294967296):
  x / 2 ^ s|||(y*2 ^ (32-s)) % 4294967296=x / 2 ^ s+(y*2 ^ (32-s)) % 4294967296:=by
 have hsplit:=uF s hs;have hS:0<2 ^ s:=Nat.pow_pos (by omega)
 have e:(y*2 ^ (32-s)) % 4294967296=(y % 2 ^ s)*2 ^ (32-s):=by
  rw[<-hsplit,Nat.mul_comm (2 ^ s),Nat.mul_comm y,Nat.mul_mod_mul_left,Nat.mul_comm]
 rw[e];exact qB _ _ _ (by rw[Nat.div_lt_iff_lt_mul hS,Nat.mul_comm,hsplit];exact hx)
def nM (u0 u1 u2 v0 v1:Nat):Nat:=min ((u0*18446744073709551616+u1*4294967296+u2) / (v0*4294967296+v1)) 4294967295
theorem acj (u0 u1 u2 v0 v1:Nat):nM u0 u1 u2 v0 v1<4294967296:=Nat.lt_succ_of_le (Nat.min_le_right _ _)
theorem Vu (a b q:Nat) (hb:0<b) (h:a<(q+1)*b):a / b<=q:=by
 have:=(Nat.div_lt_iff_lt_mul hb).2 h;omega
theorem Vw (u0 u1 u2 v0 v1 q r:Nat) (hv0:0<v0) (h:q*v0+r=u0*4294967296+u1)
  (hc:4294967295<q∨r*4294967296+u2<q*v1) (hq:nM u0 u1 u2 v0 v1<=q):nM u0 u1 u2 v0 v1<=q-1/\0<q:=by
 rcases hc with hc|hc
 ·refine⟨?_,by omega⟩;have:nM u0 u1 u2 v0 v1<=4294967295:=Nat.min_le_right _ _;omega
 ·have hq0:0<q:=by
   rcases Nat.eq_zero_or_pos q with h0|h0
   ·subst h0;omega
   ·exact h0
  refine⟨?_,hq0⟩;refine Nat.le_trans (Nat.min_le_left _ _) (Vu _ _ _ (by omega) ?_);rw[Nat.sub_add_cancel hq0,Nat.mul_add,<-Nat.mul_assoc q v0 4294967296]
  have:q*v0*4294967296+r*4294967296=u0*18446744073709551616+u1*4294967296:=by
   rw[<-Nat.add_mul,h];omega
  rw[<-this,Nat.add_assoc];exact Nat.add_lt_add_left hc _
theorem Qk (u0 u1 u2 v0 v1 q r:Nat) (hv0:0<v0) (h:q*v0+r=u0*4294967296+u1)
  (hc:q<=4294967295) (hc2:q*v1<=r*4294967296+u2) (hq:nM u0 u1 u2 v0 v1<=q):q=nM u0 u1 u2 v0 v1:=by
 refine Nat.le_antisymm ?_ hq;unfold nM;rw[Nat.le_min];refine⟨?_,hc⟩;rw[Nat.le_div_iff_mul_le (by omega),Nat.mul_add,<-Nat.mul_assoc q v0 4294967296]
 have:q*v0*4294967296+r*4294967296=u0*18446744073709551616+u1*4294967296:=by
  rw[<-Nat.add_mul,h];omega
 omega
theorem Jl (u0 u1 u2 v0 v1 q r:Nat) (hv0:0<v0) (hu:u0<=v0) (hu1:u1<4294967296) (hv1:v1<4294967296) (h:q*v0+r=u0*4294967296+u1)
  (hr:4294967295<r) (hq:nM u0 u1 u2 v0 v1<=q):q=nM u0 u1 u2 v0 v1:=by
 have hq1:q<=4294967295:=by
  rcases Nat.lt_or_ge 4294967295 q with h1|h1
  ·exfalso;have h2:4294967296*v0<=q*v0:=Nat.mul_le_mul_right _ h1;have h3:u0*4294967296<=v0*4294967296:=Nat.mul_le_mul_right _ hu;omega
  ·exact h1
 refine Qk u0 u1 u2 v0 v1 q r hv0 h hq1 ?_ hq;have h1:q*v1<=4294967295*4294967295:=Nat.mul_le_mul hq1 (by omega);have h2:4294967296*4294967296<=r*4294967296:=Nat.mul_le_mul_right _ (by omega);omega
theorem Vx (u0 u1 u2 v0 v1:Nat) (hv0:0<v0) (hu2:u2<4294967296):nM u0 u1 u2 v0 v1<=(u0*4294967296+u1) / v0:=by
 refine Nat.le_trans (Nat.min_le_left _ _) ?_;rw[Nat.le_div_iff_mul_le hv0];have h:=Nat.div_mul_le_self (u0*18446744073709551616+u1*4294967296+u2) (v0*4294967296+v1);generalize (u0*18446744073709551616+u1*4294967296+u2) / (v0*4294967296+v1)=q at*;rw[Nat.mul_add,<-Nat.mul_assoc] at h;omega
theorem Vy (E U V u0 u1 u2 v0 v1 U' V':Nat) (hE:0<E) (hV:V=(v0*4294967296+v1)*E+V') (hU:U=(u0*18446744073709551616+u1*4294967296+u2)*E+U')
  (hU':U'<E) (hV':V'<E) (hv0:0<v0) (hlt:U<V*4294967296):
  U / V<=nM u0 u1 u2 v0 v1/\nM u0 u1 u2 v0 v1<=U / V+1:=by
 have hqh:nM u0 u1 u2 v0 v1=min ((u0*18446744073709551616+u1*4294967296+u2) / (v0*4294967296+v1)) 4294967295:=rfl;rw[hqh];clear hqh;obtain⟨W,hW⟩:=zF (v0*4294967296+v1);obtain⟨T,hT⟩:=zF (u0*18446744073709551616+u1*4294967296+u2);rw[hW] at hV⊢;rw[hT] at hU⊢;have hW0:4294967296<=W:=by omega
 have hV0:0<V:=by rw[hV];have:=Nat.mul_pos (show 0<W by omega) hE;omega
 clear hW hT;constructor
 ·rw[Nat.le_min];constructor
  ·rw[Nat.le_div_iff_mul_le (by omega)];have h1:=Nat.div_mul_le_self U V;generalize U / V=q at*;rw[hV,hU,Nat.mul_add,<-Nat.mul_assoc] at h1;rcases Nat.lt_or_ge T (q*W) with h2|h2
   ·exfalso;have h3:=Nat.mul_le_mul_right E (show T+1<=q*W from h2);rw[Nat.add_mul] at h3;omega
   ·exact h2
  ·have:=(Nat.div_lt_iff_lt_mul hV0).2 (by rw[Nat.mul_comm];exact hlt);omega
 ·have hq1:=Nat.min_le_left (T / W) 4294967295;have hq2:=Nat.min_le_right (T / W) 4294967295;generalize min (T / W) 4294967295=q at*;rcases Nat.eq_zero_or_pos q with h0|h0
  ·rw[h0];exact Nat.zero_le _
  ·obtain⟨p,rfl⟩:∃p,q=p+1:=⟨q-1,by omega⟩
   have h1:p<=U / V:=by
    rw[Nat.le_div_iff_mul_le hV0,hV,hU,Nat.mul_add,<-Nat.mul_assoc]
    have h2:(p+1)*W<=T:=by
     have:=Nat.mul_le_mul_right W hq1;have:=Nat.div_mul_le_self T W;omega
    rw[Nat.add_mul] at h2;have h3:p*V'<=p*E:=Nat.mul_le_mul_left _ (by omega);have h4:(p*W+p)*E<=T*E:=Nat.mul_le_mul_right _ (by omega);rw[Nat.add_mul] at h4;omega
   omega
def seg (zs:List Nat) (j n:Nat):List Nat:=(zs.drop j).take n
theorem Lr (zs:List Nat) (j:Nat):seg zs j 0=[]:=by simp[seg]
theorem seg_length (zs:List Nat) (j n:Nat) (h:j+n<=zs.length):(seg zs j n).length=n:=by simp[seg];omega
theorem sF (zs:List Nat) (j n:Nat) (h:j+n<zs.length):seg zs j (n+1)=seg zs j n++[zs.getD (j+n) 0]:=by
 unfold seg;rw[List.take_succ_eq_append_getElem (by simp;omega),List.getElem_drop,getD_lt h]
theorem Ql (zs:List Nat) (j n y:Nat) (h:j+n<zs.length):seg (zs.set (j+n) y) j (n+1)=seg zs j n++[y]:=by
 rw[sF _ _ _ (by rw[List.length_set];exact h),getD_lt (by rw[List.length_set];exact h),List.getElem_set_self];congr 1;apply List.ext_getElem?;intro i;unfold seg;rw[List.getElem?_take,List.getElem?_take];split
 ·rw[List.getElem?_drop,List.getElem?_drop,List.getElem?_set_ne (by omega)]
 ·rfl
theorem Jm (zs ys:List Nat) (j n:Nat) (hl:zs.length=ys.length) (h:∀p,j<=p->p<j+n->zs.getD p 0=ys.getD p 0):seg zs j n=seg ys j n:=by
 apply List.ext_getElem?;intro i;unfold seg;rw[List.getElem?_take,List.getElem?_take];split
 ·next hi=>
  rw[List.getElem?_drop,List.getElem?_drop];rcases Nat.lt_or_ge (j+i) zs.length with h1|h1
  ·have:=h (j+i) (by omega) (by omega);rw[getD_lt h1,getD_lt (by omega)] at this;rw[List.getElem?_eq_getElem h1,List.getElem?_eq_getElem (by omega),this]
  ·rw[List.getElem?_eq_none h1,List.getElem?_eq_none (by omega)]
 ·rfl
theorem Iw {zs:List Nat} {j n b:Nat} (h:∀x∈zs,x<b):∀x∈seg zs j n,x<b:=fun x hx=>h x (List.mem_of_mem_drop (List.mem_of_mem_take hx))
theorem Jo (B i q:Nat) (zs zi:List Nat) (ys:List Nat) (j c b y t:Nat) (h1:j+i<zs.length) (h2:j+i<zi.length) (hn:(seg zi j i).length=i) (hn0:(seg zs j i).length=i)
  (h:val B (seg zs j i)+(c+b)*B ^ i=val B (seg zi j i)+q*val B (ys.take i))
  (hd:y+(q*ys.getD i 0+c) % B+b=zs.getD (j+i) 0+t*B):
  val B (seg zs j (i+1))+((q*ys.getD i 0+c) / B+t)*B ^ (i+1)=val B (seg (zi.set (j+i) y) j (i+1))+q*val B (ys.take (i+1)):=by
 rw[sF zs j i h1,Ql zi j i y h2,fQ,fQ,hn,hn0,dB,Nat.pow_succ];generalize zs.getD (j+i) 0=u at*;generalize ys.getD i 0=v at*;have e:=Nat.div_add_mod (q*v+c) B;generalize (q*v+c) / B=p at*;generalize (q*v+c) % B=r at*;generalize B ^ i=E at*;have e3:(y+r+b)*E=(u+t*B)*E:=by rw[hd]
 grind
theorem Jp (B i:Nat) (zs zi:List Nat) (ys:List Nat) (j c:Nat) (h1:j+i<zs.length) (h2:j+i<zi.length) (hn:(seg zi j i).length=i) (hn0:(seg zs j i).length=i)
  (h:val B (seg zs j i)+val B (ys.take i)=val B (seg zi j i)+c*B ^ i):
  val B (seg zs j (i+1))+val B (ys.take (i+1))=val B (seg (zi.set (j+i) ((zs.getD (j+i) 0+ys.getD i 0+c) % B)) j (i+1))+(zs.getD (j+i) 0+ys.getD i 0+c) / B*B ^ (i+1):=by
 rw[sF zs j i h1,Ql zi j i _ h2,fQ,fQ,hn,hn0,dB,Nat.pow_succ];generalize zs.getD (j+i) 0=u at*;generalize ys.getD i 0=v at*;have e:=Nat.div_add_mod (u+v+c) B;generalize (u+v+c) / B=p at*;generalize (u+v+c) % B=r at*;generalize B ^ i=E at*
 grind
theorem Vz (B i:Nat) (zs zi:List Nat) (ys:List Nat) (j c:Nat) (hl:ys.length<=i) (h1:j+i<zs.length) (h2:j+i<zi.length) (hn:(seg zi j i).length=i) (hn0:(seg zs j i).length=i)
  (h:val B (seg zs j i)+val B (ys.take i)=val B (seg zi j i)+c*B ^ i):
  val B (seg zs j (i+1))+val B ys=val B (seg (zi.set (j+i) ((zs.getD (j+i) 0+c) % B)) j (i+1))+(zs.getD (j+i) 0+c) / B*B ^ (i+1):=by
 have:=Jp B i zs zi ys j c h1 h2 hn hn0 h;have hy:ys.getD i 0=0:=by rw[List.getD_eq_getElem?_getD,List.getElem?_eq_none hl];rfl
 rwa[hy,Nat.add_zero,List.take_of_length_le (show ys.length<=i+1 by omega)] at this
theorem BA (B:Nat) (zs:List Nat) (j n:Nat) (h:j+n<=zs.length):
  val B zs=val B (zs.take j)+B ^ j*(val B (seg zs j n)+B ^ n*val B (zs.drop (j+n))):=by
 rw[qC B zs j (by omega),qC B (zs.drop j) n (by simp;omega),List.drop_drop];rfl
theorem VA (B:Nat) (zs:List Nat) (j n:Nat) (h:j+n+2<zs.length):
  val B (seg zs j (n+3))=val B (seg zs j n)+B ^ n*(zs.getD (j+n) 0+B*(zs.getD (j+n+1) 0+B*zs.getD (j+n+2) 0)):=by
 rw[show n+3=(n+2)+1 from rfl,sF zs j (n+2) (by omega),fQ,seg_length _ _ _ (by omega),sF zs j (n+1) (by omega),fQ,seg_length _ _ _ (by omega),
  sF zs j n (by omega),fQ,seg_length _ _ _ (by omega)]
 rw[show j+(n+1)=j+n+1 from rfl,show j+(n+2)=j+n+2 from rfl,Nat.pow_succ,Nat.pow_succ]
 grind
theorem val_two (B:Nat) (ys:List Nat) (n:Nat) (h:ys.length=n+2):
  val B ys=val B (ys.take n)+B ^ n*(ys.getD n 0+B*ys.getD (n+1) 0):=by
 have e:val B ys=val B (ys.take (n+2)):=by rw[List.take_of_length_le (by omega)]
 rw[e,dB,dB,Nat.pow_succ]
 grind
theorem Ls (zs ys:List Nat) (j n:Nat) (hz:∀x∈zs,x<2 ^ 32) (hy:∀x∈ys,x<2 ^ 32) (hyl:ys.length=n+2) (hjl:j+n+2<zs.length)
  (hv0:0<ys.getD (n+1) 0) (hR:val (2 ^ 32) zs<val (2 ^ 32) ys*(2 ^ 32) ^ (j+1)):
  zs.getD (j+n+2) 0<=ys.getD (n+1) 0/\
  val (2 ^ 32) (seg zs j (n+3)) / val (2 ^ 32) ys<=nM (zs.getD (j+n+2) 0) (zs.getD (j+n+1) 0) (zs.getD (j+n) 0) (ys.getD (n+1) 0) (ys.getD n 0)/\
  nM (zs.getD (j+n+2) 0) (zs.getD (j+n+1) 0) (zs.getD (j+n) 0) (ys.getD (n+1) 0) (ys.getD n 0)<=val (2 ^ 32) (seg zs j (n+3)) / val (2 ^ 32) ys+1:=by
 have e1:=VA (2 ^ 32) zs j n hjl;have e2:=val_two (2 ^ 32) ys n hyl;have hE:0<(2 ^ 32) ^ n:=Nat.pow_pos (by omega);have hEj:0<(2 ^ 32) ^ j:=Nat.pow_pos (by omega)
 have hU':val (2 ^ 32) (seg zs j n)<(2 ^ 32) ^ n:=by
  have:=gZ (2 ^ 32) (seg zs j n) (Iw hz);rwa[seg_length _ _ _ (by omega)] at this
 have hV':val (2 ^ 32) (ys.take n)<(2 ^ 32) ^ n:=by
  have:=gZ (2 ^ 32) (ys.take n) (fun x hx=>hy x (List.mem_of_mem_take hx));rwa[List.length_take_of_le (by omega)] at this
 have hlt:val (2 ^ 32) (seg zs j (n+3))<val (2 ^ 32) ys*4294967296:=by
  rw[BA (2 ^ 32) zs j (n+3) (by omega),show (2 ^ 32) ^ (j+1)=4294967296*(2 ^ 32) ^ j from by rw[Nat.pow_succ,Nat.mul_comm],<-Nat.mul_assoc] at hR;rcases Nat.lt_or_ge (val (2 ^ 32) (seg zs j (n+3))) (val (2 ^ 32) ys*4294967296) with h|h
  ·exact h
  ·exfalso;have h2:=Nat.mul_le_mul_left ((2 ^ 32) ^ j) (Nat.le_trans h (Nat.le_add_right _ ((2 ^ 32) ^ (n+3)*val (2 ^ 32) (zs.drop (j+(n+3))))));rw[Nat.mul_comm ((2 ^ 32) ^ j) (val (2 ^ 32) ys*4294967296)] at h2;omega
 have u2:=aT (b:=2 ^ 32) (by omega) hz (j+n);have u1:=aT (b:=2 ^ 32) (by omega) hz (j+n+1);have v1:=aT (b:=2 ^ 32) (by omega) hy n;generalize zs.getD (j+n+2) 0=a0 at*;generalize zs.getD (j+n+1) 0=a1 at*;generalize zs.getD (j+n) 0=a2 at*;generalize ys.getD (n+1) 0=b0 at*;generalize ys.getD n 0=b1 at*
 have e1':val (2 ^ 32) (seg zs j (n+3))=(a0*18446744073709551616+a1*4294967296+a2)*(2 ^ 32) ^ n+val (2 ^ 32) (seg zs j n):=by
  rw[e1,Nat.add_comm,Nat.mul_comm];congr 2;omega
 have e2':val (2 ^ 32) ys=(b0*4294967296+b1)*(2 ^ 32) ^ n+val (2 ^ 32) (ys.take n):=by
  rw[e2,Nat.add_comm,Nat.mul_comm];congr 2;omega
 refine⟨?_,Vy _ _ _ a0 a1 a2 b0 b1 _ _ hE e2' e1' hU' hV' hv0 hlt⟩;rcases Nat.lt_or_ge b0 a0 with h|h
 ·exfalso;clear hR e1 e2;rw[e1',e2'] at hlt;generalize val (2 ^ 32) (seg zs j n)=s at*;generalize val (2 ^ 32) (ys.take n)=t at*;generalize (2 ^ 32) ^ n=E at*;have h3:(b0+1)*18446744073709551616<=a0*18446744073709551616:=Nat.mul_le_mul_right _ h;have h4:((b0*4294967296+b1)*4294967296+4294967296)*E<=(a0*18446744073709551616+a1*4294967296+a2)*E:=Nat.mul_le_mul_right _ (by omega);rw[Nat.add_mul] at h4;have h5:((b0*4294967296+b1)*E+t)*4294967296=(b0*4294967296+b1)*4294967296*E+t*4294967296:=by grind
  omega
 ·exact h
theorem D9 (zs zs2 ys:List Nat) (j n Qh d N:Nat) (hl:zs2.length=zs.length) (hz:∀x∈zs,x<2 ^ 32) (hyl:ys.length=n+2) (hjl:j+n+2<zs.length) (hy:∀x∈ys,x<2 ^ 32) (hV:0<val (2 ^ 32) ys)
  (hout:∀p,(p<j∨j+(n+2)<p)->zs2.getD p 0=zs.getD p 0) (hR:val (2 ^ 32) zs<val (2 ^ 32) ys*(2 ^ 32) ^ (j+1))
  (hN:N=Qh*val (2 ^ 32) ys*(2 ^ 32) ^ (j+1)+val (2 ^ 32) zs)
  (hd:d=val (2 ^ 32) (seg zs j (n+3)) / val (2 ^ 32) ys) (h2:val (2 ^ 32) (seg zs2 j (n+3))=val (2 ^ 32) (seg zs j (n+3)) % val (2 ^ 32) ys):
  val (2 ^ 32) zs2<val (2 ^ 32) ys*(2 ^ 32) ^ j/\N=(d+2 ^ 32*Qh)*val (2 ^ 32) ys*(2 ^ 32) ^ j+val (2 ^ 32) zs2:=by
 have p1:=BA (2 ^ 32) zs j (n+3) (by omega);have p2:=BA (2 ^ 32) zs2 j (n+3) (by omega)
 have t1:zs2.take j=zs.take j:=by
  have:=Jm zs2 zs 0 j hl (fun p h1 h2=>hout p (.inl (by omega)));simpa [seg] using this
 have t2:zs2.drop (j+(n+3))=zs.drop (j+(n+3)):=by
  have:=Jm zs2 zs (j+(n+3)) zs.length hl (fun p h1 h2=>hout p (.inr (by omega)));unfold seg at this;rwa[List.take_of_length_le (by simp;omega),List.take_of_length_le (by simp)] at this
 have hVb:val (2 ^ 32) ys<(2 ^ 32) ^ (n+2):=by have:=gZ (2 ^ 32) ys hy;rwa[hyl] at this
 have hE:0<(2 ^ 32) ^ j:=Nat.pow_pos (by omega)
 have hlow:val (2 ^ 32) (zs.take j)<(2 ^ 32) ^ j:=by
  have:=gZ (2 ^ 32) (zs.take j) (fun x hx=>hz x (List.mem_of_mem_take hx));rwa[List.length_take_of_le (by omega)] at this
 have htop:val (2 ^ 32) (zs.drop (j+(n+3)))=0:=by
  rcases Nat.eq_zero_or_pos (val (2 ^ 32) (zs.drop (j+(n+3)))) with h|h
  ·exact h
  ·exfalso;have h3:(2 ^ 32) ^ (n+3)<=(2 ^ 32) ^ (n+3)*val (2 ^ 32) (zs.drop (j+(n+3))):=Nat.le_mul_of_pos_right _ h
   have h4:(2 ^ 32) ^ j*(2 ^ 32) ^ (n+3)<=val (2 ^ 32) zs:=by
    rw[p1];exact Nat.le_trans (Nat.mul_le_mul_left _ (Nat.le_trans h3 (Nat.le_add_left _ _))) (Nat.le_add_left _ _)
   have h5:val (2 ^ 32) ys*(2 ^ 32) ^ (j+1)<(2 ^ 32) ^ (n+2)*(2 ^ 32) ^ (j+1):=Nat.mul_lt_mul_of_pos_right hVb (Nat.pow_pos (by omega));rw[<-Nat.pow_add] at h4 h5;rw[show j+(n+3)=n+2+(j+1) from by omega] at h4;omega
 rw[t1,t2,htop,h2,Nat.mul_zero,Nat.add_zero] at p2;rw[htop,Nat.mul_zero,Nat.add_zero] at p1;have hm:=Nat.mod_lt (val (2 ^ 32) (seg zs j (n+3))) hV;have hdm:=Nat.div_add_mod (val (2 ^ 32) (seg zs j (n+3))) (val (2 ^ 32) ys);rw[<-hd] at hdm;rw[show (2 ^ 32) ^ (j+1)=4294967296*(2 ^ 32) ^ j from by rw[Nat.pow_succ,Nat.mul_comm]] at hN;clear hout t1 t2 h2 hR hd htop hVb;generalize val (2 ^ 32) (seg zs j (n+3))=U at*;generalize val (2 ^ 32) ys=V at*;generalize val (2 ^ 32) (zs.take j)=lo at*;generalize (2 ^ 32) ^ j=E at*;constructor
 ·rw[p2];have:=Nat.mul_le_mul_left E (show U % V+1<=V from hm);rw[Nat.mul_add,Nat.mul_comm E V] at this;omega
 ·generalize U % V=r at*;rw[p2,hN,p1,<-hdm,show (2:Nat) ^ 32=4294967296 from rfl];clear hz hy hdm p1 p2 hN
  grind
theorem RP (U U1 Q V:Nat) (hV:0<V) (h:U=U1+Q*V) (h1:U / V<=Q):Q=U / V/\U1=U % V:=by
 have h2:Q<=U / V:=(Nat.le_div_iff_mul_le hV).2 (by omega);have h3:Q=U / V:=by omega
 refine⟨h3,?_⟩;have h4:=Nat.div_add_mod U V;rw[<-h3,Nat.mul_comm] at h4;omega
theorem RQ (U U1 U2 Q V E c:Nat) (hV:0<V) (hVE:V<=E) (h:U+1*E=U1+Q*V) (h1:U / V<=Q) (h2:Q<=U / V+1) (hU1:U1<E) (hU2:U2<E) (h3:U1+V=U2+c*E):
  0<Q/\Q-1=U / V/\U2=U % V:=by
 have h4:U / V<Q:=(Nat.div_lt_iff_lt_mul hV).2 (by omega);have h5:Q=U / V+1:=by omega
 have h6:=Nat.div_add_mod U V;have h7:=Nat.mod_lt U hV;generalize U / V=d at*;generalize U % V=r at*;subst h5;rw[Nat.add_mul,Nat.mul_comm d V] at h;refine⟨by omega,by omega,?_⟩
 have hc:c=1:=by
  rcases Nat.lt_or_ge c 1 with h8|h8
  ·obtain rfl:c=0:=by omega
   omega
  ·rcases Nat.lt_or_ge 1 c with h9|h9
   ·have:=Nat.mul_le_mul_right E (show 2<=c from h9);omega
   ·omega
 subst hc;omega
end Go.Proofs.YtimokmplkpbmdaaGreatDoor
namespace Go.Proofs.YtimokmplkpbmdaaGreatDoor
open Go.RowKit
def dep (ops:Array Oper) (md:Region.Mode) (l:Array Bool) (i:Nat):Nat->Nat->Bool
 |0,_=>false
 |f+1,k=> !l.getD k true&&((ops[k]?).map fun o=>o.after.any fun e=>Region.binds md e&&(e.on==i||dep ops md l i f e.on)).getD false
theorem Iy {l:Array Bool} {k:Nat} (h:l.getD k true=false):l.getD k false=false:=by
 by_cases hk:k<l.size
 ·simpa [hk] using h
 ·simp[hk] at h
section
variable {P:Program} {ops:Array Oper} {Q:Exit->Act->World->Prop} {md:Region.Mode} {S:World->Prop} {x:Nat} {l:Array Bool} {i:Nat}
theorem adp {f k:Nat} (h:dep ops md l i f k=true):l.getD k true=false:=by
 cases f with
 |zero=>cases h
 |succ f=>unfold dep at h;rw[Bool.and_eq_true] at h;simpa using h.1
theorem VB (hi:l.getD i true=false) {f k:Nat} (h:dep ops md l i f k=true):k∉Region.ready md ops l:=by
 cases f with
 |zero=>cases h
 |succ f=>
  unfold dep at h;rw[Bool.and_eq_true] at h;intro hk;obtain⟨_,o,ho,hall⟩:=mem_ready.1 hk;have h2:=h.2;rw[ho,Option.map_some,Option.getD_some,Array.any_eq_true'] at h2;obtain⟨e,he,h3⟩:=h2;rw[Bool.and_eq_true,Bool.or_eq_true] at h3;have h4:=hall e he h3.1;rcases h3.2 with h5|h5
  ·rw[eq_of_beq h5,Iy hi] at h4;cases h4
  ·rw[Iy (adp h5)] at h4;cases h4
theorem acn (hi:l.getD i true=false) {j:Nat} (hj:j∈Region.ready md ops l):∀{f k:Nat},dep ops md l i f k=true->dep ops md (l.setIfInBounds j true) i f k=true:=by
 intro f
 induction f with
 |zero=>intro k h;cases h
 |succ f ih=>
  intro k h;have hk:j≠k:=by rintro rfl;exact VB hi h hj
  unfold dep at h⊢;rw[Bool.and_eq_true] at h⊢;refine⟨by rw[Go.getD_set_ne _ hk];exact h.1,?_⟩;have h2:=h.2;cases ho:ops[k]? with
  |none=>rw[ho] at h2;cases h2
  |some o=>
   rw[ho] at h2;rw[Option.map_some,Option.getD_some,Array.any_eq_true'] at h2⊢;obtain⟨e,he,h3⟩:=h2;rw[Bool.and_eq_true,Bool.or_eq_true] at h3;exact⟨e,he,by rw[Bool.and_eq_true,Bool.or_eq_true];exact⟨h3.1,h3.2.imp id ih⟩⟩
def dw (P:Program) (md:Region.Mode) (ops:Array Oper) (Q:Exit->Act->World->Prop) (S:World->Prop) (x:Nat):Nat->Array Bool->Act->World->Prop
 |0,l,a,w=>Region.ready md ops l=[]/\Q .normal a w
 |f+1,l,a,w=>(Region.ready md ops l=[]->Q .normal a w)/\
  ∀i∈Region.ready md ops l,wpOp P ops Q i (fun a' w'=>(i≠x->S w')/\dw P md ops Q S x f (l.setIfInBounds i true) a' w') a w
theorem F7:∀(f:Nat) (l:Array Bool) (a:Act) (w:World),dw P md ops Q S x f l a w->wpAny P md ops Q f l a w
 |0,_,_,_,h=>h
 |f+1,_,_,_,h=>⟨h.1,fun i hi=>wpOp_mono (fun a' w' k=>F7 f _ a' w' k.2) (h.2 i hi)⟩
theorem wC {oi:Oper} {v:Value} (hi:ops[i]?=some oi) (hsel:∀(j:Nat) (o:Oper) cs b,ops[j]?=some o->o.op≠.select cs b)
  (hQ:∀c a w,Q (.panic c) (a.put oi.dst v) w->Q (.panic c) a w) (D:Nat):
  ∀(f:Nat) (l:Array Bool) (a:Act) (w:World),
   (∀j oj,ops[j]?=some oj->j≠i->l.getD j true=false->(∀e∈oj.after,Region.binds md e=true->e.on≠i)->oi.apart ops oj=true)->
   (x<ops.size->dep ops md l i D x=true)->i∈Region.ready md ops l->YieldsIf P ops S oi v a->S w->
   dw P md ops Q S x f (l.setIfInBounds i true) (a.put oi.dst v) w->dw P md ops Q S x (f+1) l a w:=by
 intro f
 induction f with
 |zero=>
  intro l a w _ _ hr hy hS H;refine⟨fun h=>(by rw[h] at hr;cases hr),fun j hj=>?_⟩;by_cases hji:j=i
  ·subst hji;exact hy.wpOp hi hS ⟨fun _=>hS,H⟩
  ·have:=ready_mono hj hji;rw[H.1] at this;cases this
 |succ f ih=>
  intro l a w hfree hd hr hy hS H;refine⟨fun h=>(by rw[h] at hr;cases hr),fun j hj=>?_⟩;by_cases hji:j=i
  ·subst hji;exact hy.wpOp hi hS ⟨fun _=>hS,H⟩
  ·obtain⟨hju,oj,hoj,hall⟩:=mem_ready.1 hj;have hiu:=(mem_ready.1 hr).1
   have mZ:j≠x:=by
    rintro rfl;exact VB hiu (hd (Array.getElem?_eq_some_iff.1 hoj).1) hj
   have hnot:∀e∈oj.after,Region.binds md e=true->e.on≠i:=fun e he hb heq=>by
    have h1:=hall e he hb;rw[heq,Iy hiu] at h1;cases h1
   have h2:=wpOp_putIf hoj (hfree j oj hoj hji hju hnot) (fun cs b=>hsel i oi cs b hi) (fun cs b=>hsel j oj cs b hoj) hQ hy (H.2 j (ready_mono hj hji));refine wpOp_mono (fun a' w' h3=>⟨h3.2.1,ih (l.setIfInBounds j true) a' w' (fun k ok hk hki hun hno=>hfree k ok hk hki ?_ hno) (fun hx=>acn hiu hj (hd hx)) (ready_mono hr (Ne.symm hji)) h3.1 (h3.2.1 mZ) ?_⟩) h2
   ·by_cases hjk:j=k
    ·subst hjk;exact hju
    ·rw[Go.getD_set_ne true hjk] at hun;exact hun
   ·rw[Array.setIfInBounds_comm _ _ hji];exact h3.2.2
theorem dN (S:World->Prop) (x:Nat) {id:Nat} {a:Act} {w:World} (hS:S w.drew) {n:Nat} (h:∀w1,Below w.heap.size w w1->S w1->dw P .any ops (NoPanic Q) S x n (Array.replicate n false) a w1) (hm:P.follows .mixedOrders=true:=by kernel_rfl) (hn:ops.size=n:=by (simp only[List.size_toArray,List.length_cons,List.length_nil,Nat.reduceAdd];rfl)):(Code.region id ops true).wp P Q a w:=
 wp_region_noPanic (wp_region_any hm (F7 _ _ _ _ (by rw[hn];exact h w.drew (ak _ _ 1) hS)))
theorem dH {a:Act} {w:World} {f:Nat} (h:Q .normal a w) (hr:Region.ready md ops l=[]:=by kernel_rfl):dw P md ops (NoPanic Q) S x f l a w:=by
 cases f with
 |zero=>exact⟨hr,NoPanic.normal h⟩
 |succ f=>exact⟨fun _=>NoPanic.normal h,by rw[hr];simp⟩
theorem aG (i:Nat) {v:Value} {oi:Oper} {f:Nat} {a a':Act} {w:World} (h:dw P md ops Q S x f (l.setIfInBounds i true) a' w)
  (hi:ops[i]?=some oi:=by rfl) (hy:∀w,S w->(execOp a.eval oi).run P w=.ok (.value v) w:=by ((intro w hSw;(try dsimp only at hSw);go_simp);all_goals with_reducible rfl))
  (ha:a.put oi.dst v=a':=by ((try simp only[Act.put,tk1,tk2,tk3,tk4,gU,gV]);rfl))
  (hs:Region.noSelect ops=true:=by kernel_rfl) (hf:Region.free md ops l i=true:=by kernel_rfl) (hr:(Region.ready md ops l).contains i=true:=by kernel_rfl)
  (hw:Region.wanted oi (yielded ops a.tmps)=true:=by kernel_rfl) (hS:S w:=by assumption) (hQ:∀c a w,Q (.panic c) (a.put oi.dst v) w->Q (.panic c) a w:=by exact fun _ _ _ h=>h)
  (hx:(decide (ops.size<=x)||dep ops md l i ops.size x)=true:=by kernel_rfl):dw P md ops Q S x (f+1) l a w:=
 wC hi (Region.noSelect_spec hs) hQ ops.size f l a w (Region.free_spec hi hf) (fun h0=>by rcases Bool.or_eq_true _ _ ▸ hx with h1|h1;exact absurd (of_decide_eq_true h1) (by omega);exact h1) (by simpa using hr) (Or.inl ⟨hw,hy⟩) hS (by rw[ha];exact h)
theorem aW {i:Nat} {v:Value} {oi:Oper} {f:Nat} {a a':Act} {w:World} (h:dw P md ops Q S x f (l.setIfInBounds i true) a' w)
  (hn:ops.size-(f+1)=i:=by ((try simp only[List.size_toArray,List.length_cons,List.length_nil,Nat.reduceAdd,Nat.reduceSub]);rfl)) (hi:ops[i]?=some oi:=by rfl) (hy:∀w,S w->(execOp a.eval oi).run P w=.ok (.value v) w:=by ((intro w hSw;(try dsimp only at hSw);go_simp);all_goals with_reducible rfl))
  (ha:a.put oi.dst v=a':=by ((try simp only[Act.put,tk1,tk2,tk3,tk4,gU,gV]);rfl))
  (hs:Region.noSelect ops=true:=by kernel_rfl) (hf:Region.free md ops l i=true:=by kernel_rfl) (hr:(Region.ready md ops l).contains i=true:=by kernel_rfl)
  (hw:Region.wanted oi (yielded ops a.tmps)=true:=by kernel_rfl) (hS:S w:=by assumption) (hQ:∀c a w,Q (.panic c) (a.put oi.dst v) w->Q (.panic c) a w:=by exact fun _ _ _ h=>h)
  (hx:(decide (ops.size<=x)||dep ops md l i ops.size x)=true:=by kernel_rfl):dw P md ops Q S x (f+1) l a w:=
 wC hi (Region.noSelect_spec hs) hQ ops.size f l a w (Region.free_spec hi hf) (fun h0=>by rcases Bool.or_eq_true _ _ ▸ hx with h1|h1;exact absurd (of_decide_eq_true h1) (by omega);exact h1) (by simpa using hr) (Or.inl ⟨hw,hy⟩) hS (by rw[ha];exact h)
theorem oh (i:Nat) {oi:Oper} {f:Nat} {a a':Act} {w:World} (h:dw P md ops Q S x f (l.setIfInBounds i true) a' w)
  (hi:ops[i]?=some oi:=by rfl)
  (ha:a.put oi.dst undef=a':=by ((try simp only[Act.put,tk1,tk2,tk3,tk4,gU,gV]);rfl))
  (hs:Region.noSelect ops=true:=by kernel_rfl) (hf:Region.free md ops l i=true:=by kernel_rfl) (hr:(Region.ready md ops l).contains i=true:=by kernel_rfl)
  (hw:Region.wanted oi (yielded ops a.tmps)=false:=by kernel_rfl) (hS:S w:=by assumption) (hQ:∀c a w,Q (.panic c) (a.put oi.dst undef) w->Q (.panic c) a w:=by exact fun _ _ _ h=>h)
  (hx:(decide (ops.size<=x)||dep ops md l i ops.size x)=true:=by kernel_rfl):dw P md ops Q S x (f+1) l a w:=
 wC hi (Region.noSelect_spec hs) hQ ops.size f l a w (Region.free_spec hi hf) (fun h0=>by rcases Bool.or_eq_true _ _ ▸ hx with h1|h1;exact absurd (of_decide_eq_true h1) (by omega);exact h1) (by simpa using hr) (Or.inr ⟨hw,rfl⟩) hS (by rw[ha];exact h)
theorem KR {i:Nat} {o:Oper} {f:Nat} {a:Act} {w:World} (ho:ops[i]?=some o) (hr:Region.ready md ops l=[i])
  (h:wpOp P ops Q i (fun a' w'=>(i≠x->S w')/\dw P md ops Q S x f (l.setIfInBounds i true) a' w') a w):dw P md ops Q S x (f+1) l a w:=
 ⟨fun h0=>(by rw[hr] at h0;cases h0),fun j hj=>(by rw[hr,List.mem_singleton] at hj;subst hj;exact h)⟩
theorem F8 (i j:Nat) {f:Nat} {a:Act} {w:World} (hi:wpOp P ops Q i (fun a' w'=>(i≠x->S w')/\dw P md ops Q S x f (l.setIfInBounds i true) a' w') a w)
  (hj:wpOp P ops Q j (fun a' w'=>(j≠x->S w')/\dw P md ops Q S x f (l.setIfInBounds j true) a' w') a w) (hr:Region.ready md ops l=[i,j]:=by kernel_rfl):dw P md ops Q S x (f+1) l a w:=
 ⟨fun h0=>(by rw[hr] at h0;cases h0),fun k hk=>(by
   rw[hr] at hk;rcases List.mem_cons.1 hk with rfl|hk
   ·exact hi
   ·rw[List.mem_singleton] at hk;subst hk;exact hj)⟩
theorem Ea {S':World->Prop} (hS:∀w,S' w->S w):∀(f:Nat) (l:Array Bool) (a:Act) (w:World),dw P md ops Q S' x f l a w->dw P md ops Q S x f l a w
 |0,_,_,_,h=>h
 |f+1,_,_,_,h=>⟨h.1,fun i hi=>wpOp_mono (fun a' w' k=>⟨fun hx=>hS _ (k.1 hx),Ea hS f _ a' w' k.2⟩) (h.2 i hi)⟩
theorem reM (S':World->Prop) {f:Nat} {a:Act} {w:World} (h':S' w) (hS:∀w,S' w->S w) (h:S' w->dw P md ops Q S' x f l a w):dw P md ops Q S x f l a w:=Ea hS _ _ _ _ (h h')
theorem opC {i:Nat} {o:Oper} {fn:FuncId} {args:Array Value} {R:Ending->World->Prop} {f:Nat} {a:Act} {a':Value->Act} {w:World} (c:Calls P fn args w R)
  (h:∀e w',R e w'->∃v,e=.returned v/\S w'/\(S w'->dw P md ops Q S x f (l.setIfInBounds i true) (a' v) w'))
  (ho:ops[i]?=some o:=by rfl) (hw:Region.wanted o (yielded ops a.tmps)=true:=by kernel_rfl)
  (he:(execOp a.eval o).run P w=.ok (.enter fn args) w:=by (go_simp;all_goals first|with_reducible rfl|rfl|(repeat' (first|rfl|refine⟨?_,?_⟩))))
  (ha:∀v,a.put o.dst v=a' v:=by (intro v;(try simp only[Act.put,tk1,tk2,tk3,tk4,gU,gV]);rfl)):
  wpOp P ops Q i (fun a' w'=>(i≠x->S w')/\dw P md ops Q S x f (l.setIfInBounds i true) a' w') a w:=by
 unfold wpOp;simp only[ho,hw,if_true,Oper.wp,he,Oper.upon]
 refine .inl (c.mono fun e w' hR=>?_);obtain⟨v,rfl,hS,hk⟩:=h e w' hR;show _/\dw P md ops Q S x f _ (a.put o.dst v) w';rw[ha];exact⟨fun _=>hS,hk hS⟩
theorem cO (i:Nat) {o:Oper} {fn:FuncId} {args:Array Value} {R:Ending->World->Prop} {f:Nat} {a:Act} {a':Value->Act} {w:World} (c:Calls P fn args w R)
  (h:∀e w',R e w'->∃v,e=.returned v/\S w'/\(S w'->dw P md ops Q S x f (l.setIfInBounds i true) (a' v) w'))
  (ho:ops[i]?=some o:=by rfl) (hr:Region.ready md ops l=[i]:=by kernel_rfl) (hw:Region.wanted o (yielded ops a.tmps)=true:=by kernel_rfl)
  (he:(execOp a.eval o).run P w=.ok (.enter fn args) w:=by (go_simp;all_goals first|with_reducible rfl|rfl|(repeat' (first|rfl|refine⟨?_,?_⟩))))
  (ha:∀v,a.put o.dst v=a' v:=by (intro v;(try simp only[Act.put,tk1,tk2,tk3,tk4,gU,gV]);rfl)):dw P md ops Q S x (f+1) l a w:=
 KR ho hr (opC c h ho hw he ha)
theorem Jq {i:Nat} {o:Oper} {v:Value} {f:Nat} {a a':Act} {w w':World} (hS:i≠x->S w') (h:S w'->dw P md ops Q S x f (l.setIfInBounds i true) a' w')
  (ho:ops[i]?=some o:=by rfl) (hw:Region.wanted o (yielded ops a.tmps)=true:=by kernel_rfl)
  (he:(execOp a.eval o).run P w=.ok (.value v) w':=by (go_simp;all_goals first|with_reducible rfl|(repeat' (first|rfl|refine⟨?_,?_⟩))))
  (ha:a.put o.dst v=a':=by ((try simp only[Act.put,tk1,tk2,tk3,tk4,gU,gV]);rfl)) (hx:i≠x:=by decide):
  wpOp P ops Q i (fun a' w'=>(i≠x->S w')/\dw P md ops Q S x f (l.setIfInBounds i true) a' w') a w:=by
 unfold wpOp;simp only[ho,hw,if_true,Oper.wp,he,Oper.upon]
 rw[ha];exact .inl ⟨hS,h (hS hx)⟩
theorem iy (i:Nat) {o:Oper} {v:Value} {f:Nat} {a a':Act} {w w':World} (hS:i≠x->S w') (h:S w'->dw P md ops Q S x f (l.setIfInBounds i true) a' w')
  (ho:ops[i]?=some o:=by rfl) (hr:Region.ready md ops l=[i]:=by kernel_rfl) (hw:Region.wanted o (yielded ops a.tmps)=true:=by kernel_rfl)
  (he:(execOp a.eval o).run P w=.ok (.value v) w':=by (go_simp;all_goals first|with_reducible rfl|(repeat' (first|rfl|refine⟨?_,?_⟩))))
  (ha:a.put o.dst v=a':=by ((try simp only[Act.put,tk1,tk2,tk3,tk4,gU,gV]);rfl)) (hx:i≠x:=by decide):dw P md ops Q S x (f+1) l a w:=
 KR ho hr (Jq hS h ho hw he ha hx)
theorem iL (i:Nat) {o:Oper} {f:Nat} {a a':Act} {w w':World} (hS:i≠x->S w') (h:(i≠x->S w')->dw P md ops Q S x f (l.setIfInBounds i true) a' w')
  (ho:ops[i]?=some o:=by rfl) (hr:Region.ready md ops l=[i]:=by kernel_rfl) (hw:Region.wanted o (yielded ops a.tmps)=true:=by kernel_rfl)
  (he:(execOp a.eval o).run P w=.ok .skip w':=by (go_simp;all_goals first|with_reducible rfl|(repeat' (first|rfl|refine⟨?_,?_⟩))))
  (ha:a.put o.dst undef=a':=by ((try simp only[Act.put,tk1,tk2,tk3,tk4,gU,gV]);rfl)):dw P md ops Q S x (f+1) l a w:=by
 refine KR ho hr ?_;unfold wpOp;simp only[ho,hw,if_true,Oper.wp,he,Oper.upon]
 rw[ha];exact .inl ⟨hS,h hS⟩
theorem reR (i:Nat) {o:Oper} {f:Nat} {a:Act} {w:World} (h:∀K':Act->World->Prop,Shut (∀a w,(i≠x->S w)->((i≠x->S w)->dw P md ops Q S x f (l.setIfInBounds i true) a w)->K' a w)->if Region.wanted o (yielded ops a.tmps)=true then Oper.wp P o a w K' Q else K' (a.put o.dst undef) w)
  (ho:ops[i]?=some o:=by rfl) (hr:Region.ready md ops l=[i]:=by kernel_rfl):dw P md ops Q S x (f+1) l a w:=by
 refine KR ho hr ?_;have h1:=h (fun a' w'=>(i≠x->S w')/\dw P md ops Q S x f (l.setIfInBounds i true) a' w') (fun a w h1 h2=>⟨h1,h2 h1⟩);unfold wpOp;simp only[ho]
 split
 ·rename_i hw;rw[if_pos hw] at h1;exact .inl h1
 ·rename_i hw;rw[if_neg hw] at h1;exact h1
end
theorem zP {P:Program} {W:World} {news:Array Value} {ops:Array Oper} {rest:List Oper} {o:Oper} {a:Act} {Q:Exit->Act->World->Prop} {s x:Operand} {t e:TypeId} {z v:Value} {base size bytes n:Nat} {xs:List Value} {a':Value->Act}
  (hinfo:(P.info? e).map (fun i=>(i.zero,i.size,i.bytes))=some (some z,size,bytes)) (ht:P.underlying t=some (.slice e)) (hown:W.ownsRow base e size v n xs) (hn:n<=100000) (hbase:base<=W.heap.size)
  (h:∀v' w',w'.ownsRow base e size v' (n+1) (xs++news.toList)->Below base W w'->wpList P ops Q rest (a' v') w')
  (hgd:o.guard=none:=by rfl) (ho:o.op=.call {callee:=.builtin .append,args:=#[s,x],argTypes:=#[t,t]}:=by rfl) (hs:a.eval s=v:=by rfl) (hx:a.eval x=.slice (some ⟨W.heap.size,0,none⟩) 1 1:=by rfl)
  (hl:news.size=1*size:=by rfl) (hzs:z.cells.size=size:=by rfl) (hsz:0<size:=by decide) (hby:bytes<=1000:=by decide) (h1:∀u∈news.toList,u.oneCell'=true:=by (simp<;>(repeat' constructor)))
  (ha:∀v,a.put o.dst v=a' v:=by (intro v;rfl)):wpList P ops Q (o::rest) a (W.alloc (.cells news e)):=
 bP W news hgd s x t ho base e z size bytes 1 ht hinfo hzs hsz v n xs hs hown hx hl h1 (by unfold maxLen;omega) (Nat.le_trans (Nat.mul_le_mul (show n+1<=100001 by omega) hby) (by decide)) hbase (fun v' w' h2 h3=>by rw[ha];exact h v' w' h2 h3)
end Go.Proofs.YtimokmplkpbmdaaGreatDoor
