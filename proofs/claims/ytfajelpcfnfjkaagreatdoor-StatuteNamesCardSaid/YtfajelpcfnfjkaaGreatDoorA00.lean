/- A part of the proof: Tk Dig Knuth Bytes Divm. -/
import Derived.OrdersHeld
import Derived.KernelRfl
set_option linter.unusedVariables false
set_option linter.unusedSimpArgs false
namespace Go.Proofs.YtfajelpcfnfjkaaGreatDoor
section
variable {P:Program} {ops:Array Oper} {Q:Exit→Act→World→Prop} {md:Region.Mode} {S:World→Prop}
theorem tkY (i:Nat) (v:Value) {oi:Oper} {fuel:Nat} {listed:Array Bool} {a:Act} {w:World} (hi:ops[i]?=some oi) (hy:∀w,S w→(execOp a.eval oi).run P w=.ok (.value v) w)
  (h:wpAnyH P md ops Q S fuel (listed.setIfInBounds i true) (a.put oi.dst v) w)
  (hs:Region.noSelect ops=true:=by kernel_rfl) (hf:Region.free md ops listed i=true:=by kernel_rfl) (hr:(Region.ready md ops listed).contains i=true:=by kernel_rfl)
  (hw:Region.wanted oi (yielded ops a.tmps)=true:=by kernel_rfl) (hS:S w:=by assumption) (hQ:∀c a w,Q (.panic c) (a.put oi.dst v) w→Q (.panic c) a w:=by exact fun _ _ _ h=>h):wpAnyH P md ops Q S (fuel+1) listed a w:=
 wpAnyH_take hi hs hf hr hQ (Or.inl ⟨hw,hy⟩) hS h
theorem tkN (i:Nat) {oi:Oper} {fuel:Nat} {listed:Array Bool} {a:Act} {w:World} (hi:ops[i]?=some oi)
  (h:wpAnyH P md ops Q S fuel (listed.setIfInBounds i true) (a.put oi.dst undef) w)
  (hs:Region.noSelect ops=true:=by kernel_rfl) (hf:Region.free md ops listed i=true:=by kernel_rfl) (hr:(Region.ready md ops listed).contains i=true:=by kernel_rfl)
  (hw:Region.wanted oi (yielded ops a.tmps)=false:=by kernel_rfl) (hS:S w:=by assumption) (hQ:∀c a w,Q (.panic c) (a.put oi.dst undef) w→Q (.panic c) a w:=by exact fun _ _ _ h=>h):wpAnyH P md ops Q S (fuel+1) listed a w:=
 wpAnyH_take hi hs hf hr hQ (Or.inr ⟨hw,rfl⟩) hS h
end
section
variable {α:Type _}
theorem tk1 (l:List α) (i:Nat) (a:α):l.toArray.setIfInBounds i a=(l.set i a).toArray:=List.setIfInBounds_toArray l i a
theorem tk2 (x:α) (xs:List α) (a:α):(x::xs).set 0 a=a::xs:=rfl
theorem tk3 (x:α) (xs:List α) (n:Nat) (a:α):(x::xs).set (n+1) a=x::xs.set n a:=rfl
theorem tk4 (l:List α) (i:Nat) (h:i<l.toArray.size):l.toArray[i]=l[i]'(by simpa using h):=List.getElem_toArray h
theorem tk5 (a:α) (as:List α) (i:Nat) (h:i+1<(a::as).length):(a::as)[i+1]=as[i]'(by simpa using h):=rfl
theorem tk6 (a:α) (as:List α) (h:0<(a::as).length):(a::as)[0]=a:=rfl
end
theorem getD_lt {α:Type} {xs:List α} {n:Nat} {d:α} (h:n<xs.length):xs.getD n d=xs[n]:=by
 rw[List.getD_eq_getElem?_getD,List.getElem?_eq_getElem h];rfl
def val (B:Nat):List Nat→Nat
 |[]=>0
 |x::xs=>x+B*val B xs
theorem val_append (B:Nat) (xs ys:List Nat):val B (xs++ys)=val B xs+B ^ xs.length*val B ys:=by
 induction xs with
 |nil=>simp[val]
 |cons x xs ih=>simp only[List.cons_append,val,ih,List.length_cons,Nat.pow_succ];grind
theorem val_take_succ (B:Nat) (xs:List Nat) (k:Nat) (h:k<xs.length):
  val B (xs.take (k+1))=val B (xs.take k)+B ^ k*xs[k]:=by
 rw[List.take_succ_eq_append_getElem h,val_append,List.length_take_of_le (by omega)];simp[val]
theorem val_lt (B:Nat) (xs:List Nat) (h:∀x∈xs,x<B):val B xs<B ^ xs.length:=by
 induction xs with
 |nil=>simp[val]
 |cons x xs ih=>
  have hx:=h x (by simp);have:=ih (fun y hy=>h y (by simp[hy]));simp only[val,List.length_cons,Nat.pow_succ]
  have h2:val B xs+1≤B ^ xs.length:=this;have h3:B*(val B xs+1)≤B*B ^ xs.length:=Nat.mul_le_mul_left _ h2;rw[Nat.mul_comm (B ^ xs.length) B];rw[Nat.mul_add] at h3;omega
theorem val_replicate_zero (B n:Nat):val B (List.replicate n 0)=0:=by
 induction n with
 |zero=>rfl
 |succ n ih=>simp[List.replicate_succ,val,ih]
theorem val_set (B:Nat) (xs:List Nat) (j:Nat) (h:j<xs.length) (y:Nat):
  val B (xs.set j y)+B ^ j*xs[j]=val B xs+B ^ j*y:=by
 induction xs generalizing j with
 |nil=>simp at h
 |cons x xs ih=>
  cases j with
  |zero=>simp[val];omega
  |succ j=>
   have:=ih j (by simpa using h);simp only[List.set_cons_succ,val,List.getElem_cons_succ,Nat.pow_succ]
   have hj:j<xs.length:=by simpa using h
   have e:B*(val B (xs.set j y)+B ^ j*xs[j]'hj)=B*(val B xs+B ^ j*y):=by rw[this]
   rw[Nat.mul_add,Nat.mul_add,←Nat.mul_assoc,←Nat.mul_assoc] at e;rw[Nat.mul_comm (B ^ j) B];omega
structure Canon (B:Nat) (xs:List Nat):Prop where
 lt:∀x∈xs,x<B
 last:∀h:xs≠[],xs.getLast h≠0
theorem Canon.nil (B:Nat):Canon B []:=⟨by simp,by simp⟩
theorem Canon.ge {B:Nat} {xs:List Nat} (h:Canon B xs) (hn:xs≠[]):B ^ (xs.length-1)≤val B xs:=by
 have e:=List.dropLast_concat_getLast hn;have h0:=h.last hn;rw[←e,val_append];simp only[List.length_dropLast,List.length_append,List.length_singleton,val,Nat.mul_zero,Nat.add_zero,Nat.add_sub_cancel]
 have:1≤xs.getLast hn:=by omega
 have:=Nat.mul_le_mul_left (B ^ (xs.length-1)) this;omega
theorem Canon.val_zero {B:Nat} (hB:0<B) {xs:List Nat} (h:Canon B xs):val B xs=0↔xs=[]:=by
 constructor
 ·intro h0;by_cases hn:xs=[]
  ·exact hn
  ·have h1:=h.ge hn;have h2:0<B ^ (xs.length-1):=Nat.pow_pos hB;omega
 ·rintro rfl;rfl
def trimLen (xs:List Nat):Nat→Nat
 |0=>0
 |n+1=>if xs.getD n 0=0 then trimLen xs n else n+1
theorem trimLen_le (xs:List Nat) (n:Nat):trimLen xs n≤n:=by
 induction n with
 |zero=>simp[trimLen]
 |succ n ih=>simp only[trimLen];split<;>omega
def trimD (xs:List Nat):List Nat:=xs.take (trimLen xs xs.length)
theorem val_take_trim (B:Nat) (xs:List Nat) (n:Nat) (h:n≤xs.length):val B (xs.take (trimLen xs n))=val B (xs.take n):=by
 induction n with
 |zero=>rfl
 |succ n ih=>
  simp only[trimLen]
  split
  ·next h0=>
   rw[ih (by omega),val_take_succ _ _ _ (by omega)];rw[getD_lt (by omega)] at h0;simp[h0]
  ·rfl
theorem val_trimD (B:Nat) (xs:List Nat):val B (trimD xs)=val B xs:=by
 unfold trimD;rw[val_take_trim _ _ _ (Nat.le_refl _),List.take_length]
theorem trimLen_last (xs:List Nat) (n:Nat) (hn:0<trimLen xs n):xs.getD (trimLen xs n-1) 0≠0:=by
 induction n with
 |zero=>simp[trimLen] at hn
 |succ n ih=>
  simp only[trimLen] at hn⊢;split
  ·next h0=>rw[if_pos h0] at hn;exact ih hn
  ·next h0=>simpa using h0
theorem trimD_length (xs:List Nat):(trimD xs).length=trimLen xs xs.length:=by
 unfold trimD;rw[List.length_take_of_le (trimLen_le _ _)]
theorem canon_trimD (B:Nat) (xs:List Nat) (h:∀x∈xs,x<B):Canon B (trimD xs):=by
 refine⟨fun x hx=>h x (List.mem_of_mem_take hx),fun hn=>?_⟩;have hl:=trimD_length xs;have hp:0<trimLen xs xs.length:=by rw[←hl];exact List.length_pos_iff.2 hn
 have h1:=trimLen_last xs xs.length hp;have hle:=trimLen_le xs xs.length;rw[List.getLast_eq_getElem]
 have:(trimD xs)[(trimD xs).length-1]'(by omega)=xs[trimLen xs xs.length-1]'(by omega):=by
  simp only[trimD,List.getElem_take]
  congr 1;rw[List.length_take_of_le hle]
 rw[this];rwa[getD_lt (by omega)] at h1
theorem val_digit (B:Nat) (hB:0<B) (xs:List Nat) (h:∀x∈xs,x<B) (j:Nat) (hj:j<xs.length):val B xs / B ^ j % B=xs[j]:=by
 induction xs generalizing j with
 |nil=>simp at hj
 |cons x xs ih=>
  have hx:=h x (by simp);cases j with
  |zero=>simp[val,Nat.add_mul_mod_self_left,Nat.mod_eq_of_lt hx]
  |succ j=>
   have:=ih (fun y hy=>h y (by simp[hy])) j (by simpa using hj);simp only[val,List.getElem_cons_succ,Nat.pow_succ]
   rw[Nat.mul_comm (B ^ j) B,←Nat.div_div_eq_div_mul,Nat.add_mul_div_left _ _ hB,Nat.div_eq_of_lt hx,Nat.zero_add,this]
def digs (m n:Nat):List Nat:=(List.range m).map fun j=>n / (2 ^ 32) ^ j % 2 ^ 32
theorem digs_length (m n:Nat):(digs m n).length=m:=by simp[digs]
theorem digs_lt (m n:Nat):∀x∈digs m n,x<2 ^ 32:=by
 intro x hx;simp only[digs,List.mem_map] at hx;obtain⟨j,_,rfl⟩:=hx;exact Nat.mod_lt _ (by omega)
theorem digs_get (m n j:Nat) (h:j<m):(digs m n).getD j 0=n / (2 ^ 32) ^ j % 2 ^ 32:=by
 rw[getD_lt (by rw[digs_length];exact h)];simp[digs]
theorem digs_zero (m:Nat):digs m 0=List.replicate m 0:=by
 apply List.ext_getElem<;>simp[digs]
theorem val_digs (m n:Nat):val (2 ^ 32) (digs m n)=n % (2 ^ 32) ^ m:=by
 induction m with
 |zero=>simp[digs,val,Nat.mod_one]
 |succ m ih=>
  have e:digs (m+1) n=digs m n++[n / (2 ^ 32) ^ m % 2 ^ 32]:=by simp[digs,List.range_succ]
  rw[e,val_append,ih,digs_length,show (2 ^ 32) ^ (m+1)=(2 ^ 32) ^ m*2 ^ 32 from Nat.pow_succ ..,Nat.mod_mul];simp[val]
theorem pow32 (j:Nat):(2 ^ 32) ^ j=256 ^ (4*j):=by
 rw[show (2:Nat) ^ 32=256 ^ 4 from rfl,←Nat.pow_mul]
theorem digs_bound (m N k:Nat) (hN:N<256 ^ k) (hk:k / 4<m):(digs m N).getD (k / 4) 0<256 ^ (k % 4):=by
 rw[digs_get _ _ _ hk,pow32]
 have h:N / 256 ^ (4*(k / 4))<256 ^ (k % 4):=by
  rw[Nat.div_lt_iff_lt_mul (Nat.pow_pos (by omega)),←Nat.pow_add];rwa[show k % 4+4*(k / 4)=k from by omega]
 exact Nat.lt_of_le_of_lt (Nat.mod_le _ _) h
theorem digs_step (m N c k:Nat) (hN:N<256 ^ k) (hc:c<256) (hk:k / 4<m):
  digs m (c*256 ^ k+N)=(digs m N).set (k / 4) ((digs m N).getD (k / 4) 0+c*256 ^ (k % 4)):=by
 apply List.ext_getElem
 ·simp[digs]
 ·intro j h1 h2;rw[digs_length] at h1;rw[List.getElem_set];simp only[digs,List.getElem_map,List.getElem_range]
  split
  ·next he=>
   subst he;have hb:=digs_bound m N k hN hk;have hg:=digs_get m N (k / 4) hk;simp only[digs] at hb hg;rw[hg] at hb⊢;rw[pow32] at hb⊢;have hk':k=4*(k / 4)+k % 4:=by omega
   have hp:0<256 ^ (4*(k / 4)):=Nat.pow_pos (by omega)
   have h3:N / 256 ^ (4*(k / 4))<256 ^ (k % 4):=by
    rw[Nat.div_lt_iff_lt_mul hp,←Nat.pow_add];rwa[show k % 4+4*(k / 4)=k from by omega]
   have e:c*256 ^ k+N=N+256 ^ (4*(k / 4))*(c*256 ^ (k % 4)):=by
    conv=>lhs;rw[hk',Nat.pow_add]
    grind
   have hq:256 ^ (k % 4)*256≤2 ^ 32:=by
    have:k % 4=0∨k % 4=1∨k % 4=2∨k % 4=3:=by omega
    rcases this with h|h|h|h<;>rw[h]<;>decide
   have hm:c*256 ^ (k % 4)+256 ^ (k % 4)≤256 ^ (k % 4)*256:=by
    have:=Nat.mul_le_mul_right (256 ^ (k % 4)) (show c+1≤256 by omega)
    grind
   have h5:N / 256 ^ (4*(k / 4))+c*256 ^ (k % 4)<2 ^ 32:=by omega
   have h6:N / 256 ^ (4*(k / 4))<2 ^ 32:=by omega
   rw[e,Nat.add_mul_div_left _ _ hp,Nat.mod_eq_of_lt h5,Nat.mod_eq_of_lt h6]
  ·next he=>
   rw[pow32];have hp:0<256 ^ (4*j):=Nat.pow_pos (by omega);rcases Nat.lt_or_ge j (k / 4) with hlt|hge
   ·have e:c*256 ^ k+N=N+256 ^ (4*j)*(2 ^ 32*(c*256 ^ (k-4*(j+1)))):=by
     have:256 ^ k=256 ^ (4*j)*(256 ^ 4*256 ^ (k-4*(j+1))):=by
      rw[←Nat.pow_add,←Nat.pow_add];congr 1;omega
     rw[this,show (256:Nat) ^ 4=2 ^ 32 from rfl];grind
    rw[e,Nat.add_mul_div_left _ _ hp,Nat.add_mul_mod_self_left]
   ·have hlt:c*256 ^ k+N<256 ^ (4*j):=by
     have h4:256 ^ (k+1)≤256 ^ (4*j):=Nat.pow_le_pow_right (by omega) (by omega);have:=Nat.mul_le_mul_right (256 ^ k) (show c+1≤256 by omega);rw[Nat.pow_succ] at h4
     grind
    have hN':N<256 ^ (4*j):=by omega
    rw[Nat.div_eq_of_lt hlt,Nat.div_eq_of_lt hN']
theorem add_is_or (x c t:Nat) (h:x<2 ^ t):x|||(c*2 ^ t)=x+c*2 ^ t:=by
 rw[Nat.or_comm,←Nat.shiftLeft_eq,←Nat.shiftLeft_add_eq_or_of_lt h,Nat.add_comm]
theorem val_split (B:Nat) (xs:List Nat) (k:Nat) (h:k≤xs.length):val B xs=val B (xs.take k)+B ^ k*val B (xs.drop k):=by
 have:=val_append B (xs.take k) (xs.drop k);rwa[List.take_append_drop,List.length_take_of_le h] at this
theorem Canon.len_lt {B:Nat} (hB:0<B) {xs ys:List Nat} (hx:Canon B xs) (hy:Canon B ys) (h:xs.length<ys.length):val B xs<val B ys:=by
 have h1:=val_lt B xs hx.lt;have h2:=hy.ge (by intro e;subst e;simp at h);have h3:B ^ xs.length≤B ^ (ys.length-1):=Nat.pow_le_pow_right hB (by omega);omega
theorem val_digit_lt (B:Nat) (xs ys:List Nat) (hx:∀x∈xs,x<B) (k:Nat) (h1:k<xs.length) (h2:k<ys.length)
  (hd:xs.drop (k+1)=ys.drop (k+1)) (hlt:xs.getD k 0<ys.getD k 0):val B xs<val B ys:=by
 rw[getD_lt h1,getD_lt h2] at hlt;rw[val_split B xs (k+1) h1,val_split B ys (k+1) h2,hd,val_take_succ _ _ _ h1,val_take_succ _ _ _ h2];have h3:=val_lt B (xs.take k) (fun x hx'=>hx x (List.mem_of_mem_take hx'));rw[List.length_take_of_le (by omega)] at h3;have h4:B ^ k*(xs[k]+1)≤B ^ k*ys[k]:=Nat.mul_le_mul_left _ hlt;rw[Nat.mul_add] at h4;omega
theorem drop_eq_cons (xs ys:List Nat) (k:Nat) (h1:k<xs.length) (h2:k<ys.length) (hd:xs.drop (k+1)=ys.drop (k+1)) (he:xs.getD k 0=ys.getD k 0):
  xs.drop k=ys.drop k:=by
 rw[getD_lt h1,getD_lt h2] at he;rw[List.drop_eq_getElem_cons h1,List.drop_eq_getElem_cons h2,he,hd]
def cmpI (n m:Nat):Int:=if n<m then-1 else if n=m then 0 else 1
theorem cmpI_lt {n m:Nat} (h:n<m):cmpI n m= -1:=if_pos h
theorem cmpI_gt {n m:Nat} (h:m<n):cmpI n m=1:=by unfold cmpI;rw[if_neg (by omega),if_neg (by omega)]
theorem cmpI_eq (n:Nat):cmpI n n=0:=by unfold cmpI;simp
theorem val_take_getD (B:Nat) (xs:List Nat) (k:Nat):val B (xs.take (k+1))=val B (xs.take k)+B ^ k*xs.getD k 0:=by
 rcases Nat.lt_or_ge k xs.length with h|h
 ·rw[val_take_succ _ _ _ h,getD_lt h]
 ·rw[List.take_of_length_le (by omega),List.take_of_length_le h,List.getD_eq_getElem?_getD,List.getElem?_eq_none h];simp
theorem val_snoc (B:Nat) (os:List Nat) (y:Nat):val B (os++[y])=val B os+B ^ os.length*y:=by
 rw[val_append];simp[val]
theorem getD_lt_of {xs:List Nat} {b:Nat} (hb:0<b) (h:∀x∈xs,x<b) (k:Nat):xs.getD k 0<b:=by
 rcases Nat.lt_or_ge k xs.length with hk|hk
 ·rw[getD_lt hk];exact h _ (List.getElem_mem hk)
 ·rw[List.getD_eq_getElem?_getD,List.getElem?_eq_none hk];exact hb
theorem snoc_lt {os:List Nat} {b y:Nat} (h:∀x∈os,x<b) (hy:y<b):∀x∈os++[y],x<b:=by
 intro x hx;rcases List.mem_append.1 hx with hx|hx
 ·exact h x hx
 ·obtain rfl:x=y:=by simpa using hx
  exact hy
theorem fill_set {α:Type} (os:List α) (n k:Nat) (z y:α) (hk:os.length=k) (h:k<n):
  (os++List.replicate (n-k) z).set k y=(os++[y])++List.replicate (n-(k+1)) z:=by
 rw[List.set_append_right _ _ (by omega),show n-k=(n-(k+1))+1 from by omega,List.replicate_succ,hk,Nat.sub_self,List.set_cons_zero];simp
theorem sum_step (B k:Nat) (xs ys os:List Nat) (c:Nat) (hB:0<B) (hk:os.length=k)
  (h:val B os+c*B ^ k=val B (xs.take k)+val B (ys.take k)):
  val B (os++[(xs.getD k 0+c+ys.getD k 0) % B])+(xs.getD k 0+c+ys.getD k 0) / B*B ^ (k+1)=val B (xs.take (k+1))+val B (ys.take (k+1)):=by
 rw[val_snoc,hk,val_take_getD,val_take_getD,Nat.pow_succ];generalize xs.getD k 0=x;generalize ys.getD k 0=y;have e:=Nat.div_add_mod (x+c+y) B;generalize (x+c+y) / B=q at*;generalize (x+c+y) % B=r at*
 grind
theorem set_lt {xs:List Nat} {b y:Nat} (h:∀x∈xs,x<b) (hy:y<b) (k:Nat):∀x∈xs.set k y,x<b:=by
 intro x hx;rcases List.mem_or_eq_of_mem_set hx with hx|rfl
 ·exact h x hx
 ·exact hy
theorem prod_inner (B i j:Nat) (xs ys out:List Nat) (c:Nat) (hB:0<B) (hp:i+j<out.length)
  (h:val B out+c*B ^ (i+j)=val B (xs.take i)*val B ys+xs.getD i 0*val B (ys.take j)*B ^ i):
  val B (out.set (i+j) ((xs.getD i 0*ys.getD j 0+out.getD (i+j) 0+c) % B))+(xs.getD i 0*ys.getD j 0+out.getD (i+j) 0+c) / B*B ^ (i+(j+1))=
   val B (xs.take i)*val B ys+xs.getD i 0*val B (ys.take (j+1))*B ^ i:=by
 have hs:=val_set B out (i+j) hp ((xs.getD i 0*ys.getD j 0+out.getD (i+j) 0+c) % B);rw[←getD_lt (d:=0) hp] at hs;rw[val_take_getD,←Nat.add_assoc,Nat.pow_succ];have hpw:B ^ (i+j)=B ^ i*B ^ j:=Nat.pow_add ..;generalize out.getD (i+j) 0=o at*;generalize xs.getD i 0=x at*;generalize ys.getD j 0=y at*;have e:=Nat.div_add_mod (x*y+o+c) B;generalize (x*y+o+c) / B=q at*;generalize (x*y+o+c) % B=r at*;generalize B ^ (i+j)=E at*
 grind
theorem prod_outer (B i:Nat) (xs ys out:List Nat) (c:Nat) (hp:i+ys.length<out.length) (h0:out.getD (i+ys.length) 0=0)
  (h:val B out+c*B ^ (i+ys.length)=val B (xs.take i)*val B ys+xs.getD i 0*val B (ys.take ys.length)*B ^ i):
  val B (out.set (i+ys.length) c)=val B (xs.take (i+1))*val B ys:=by
 have hs:=val_set B out (i+ys.length) hp c;rw[←getD_lt (d:=0) hp,h0] at hs;rw[List.take_length] at h;rw[val_take_getD];generalize xs.getD i 0=x at*
 grind
theorem getD_set_ne (xs:List Nat) (k p y:Nat) (h:k≠p):(xs.set k y).getD p 0=xs.getD p 0:=by
 simp[List.getD_eq_getElem?_getD,List.getElem?_set_ne h]
theorem mul_bound (x y o c:Nat) (hx:x<4294967296) (hy:y<4294967296) (ho:o<4294967296) (hc:c<4294967296):
  x*y≤18446744065119617025:=by
 have:=Nat.mul_le_mul (show x≤4294967295 by omega) (show y≤4294967295 by omega);omega
theorem short_step (B b k:Nat) (xs qs:List Nat) (r:Nat) (hk:k<xs.length) (h:val B (xs.drop (k+1))=val B qs*b+r):
  val B (xs.drop k)=val B ((r*B+xs.getD k 0) / b::qs)*b+(r*B+xs.getD k 0) % b:=by
 rw[List.drop_eq_getElem_cons hk,val,h,getD_lt hk,val];generalize xs[k]=x;have e:=Nat.div_add_mod (r*B+x) b;generalize (r*B+x) / b=q at*;generalize (r*B+x) % b=t at*
 grind
theorem fill_down {α:Type} (k n:Nat) (qs:List α) (z y:α):(List.replicate (k+1) z++qs).set k y=List.replicate k z++(y::qs):=by
 rw[List.replicate_succ',List.append_assoc,List.set_append_right _ _ (by simp)];simp
theorem pow_split (s:Nat) (h:s<32):2 ^ s*2 ^ (32-s)=4294967296:=by
 rw[←Nat.pow_add,show s+(32-s)=32 from by omega]
theorem up_digit (x s t:Nat) (hs:s<32) (ht:t<2 ^ s):
  t|||(x*2 ^ s) % 4294967296=t+(x*2 ^ s) % 4294967296:=by
 have e:(x*2 ^ s) % 4294967296=(x % 2 ^ (32-s))*2 ^ s:=by
  rw[←pow_split s hs,Nat.mul_comm x,Nat.mul_mod_mul_left,Nat.mul_comm]
 rw[e];exact add_is_or _ _ _ ht
theorem up_digit_lt (x s t:Nat) (hs:s<32) (ht:t<2 ^ s):t+(x*2 ^ s) % 4294967296<4294967296:=by
 have e:(x*2 ^ s) % 4294967296=(x % 2 ^ (32-s))*2 ^ s:=by
  rw[←pow_split s hs,Nat.mul_comm x,Nat.mul_mod_mul_left,Nat.mul_comm]
 have h1:x % 2 ^ (32-s)+1≤2 ^ (32-s):=Nat.mod_lt _ (Nat.pow_pos (by omega));have h2:=Nat.mul_le_mul_right (2 ^ s) h1;rw[Nat.mul_comm (2 ^ (32-s)),pow_split s hs,Nat.add_mul] at h2;omega
theorem up_carry (x s:Nat) (_hs:s<32) (hx:x<4294967296):(x*2 ^ s) / 4294967296<2 ^ s:=by
 rw[Nat.div_lt_iff_lt_mul (by omega),Nat.mul_comm (2 ^ s)];exact Nat.mul_lt_mul_of_pos_right hx (Nat.pow_pos (by omega))
theorem up_step (k s:Nat) (xs os:List Nat) (t:Nat) (hk:os.length=k)
  (h:val (2 ^ 32) os+t*(2 ^ 32) ^ k=val (2 ^ 32) (xs.take k)*2 ^ s):
  val (2 ^ 32) (os++[t+(xs.getD k 0*2 ^ s) % 4294967296])+(xs.getD k 0*2 ^ s) / 4294967296*(2 ^ 32) ^ (k+1)=val (2 ^ 32) (xs.take (k+1))*2 ^ s:=by
 rw[val_snoc,hk,val_take_getD,show (2 ^ 32) ^ (k+1)=(2 ^ 32) ^ k*4294967296 from Nat.pow_succ ..];generalize xs.getD k 0=x;have e:=Nat.div_add_mod (x*2 ^ s) 4294967296;generalize (x*2 ^ s) / 4294967296=q at*;generalize hr:(x*2 ^ s) % 4294967296=r at*;generalize (2 ^ 32) ^ k=E at*;generalize val (2 ^ 32) os=V at*;generalize val (2 ^ 32) (xs.take k)=X at*;generalize 2 ^ s=S at*
 grind
theorem digs_succ (m n:Nat):digs (m+1) n=digs m n++[n / (2 ^ 32) ^ m % 2 ^ 32]:=by simp[digs,List.range_succ]
theorem down_digit (xs:List Nat) (h:∀x∈xs,x<2 ^ 32) (k s:Nat) (hs:s<32) (hk:k<xs.length):
  val (2 ^ 32) xs / 2 ^ s / (2 ^ 32) ^ k % 2 ^ 32=xs.getD k 0 / 2 ^ s+(xs.getD (k+1) 0*2 ^ (32-s)) % 4294967296:=by
 have hsplit:=pow_split s hs;have hS:0<2 ^ s:=Nat.pow_pos (by omega);have hT:0<2 ^ (32-s):=Nat.pow_pos (by omega)
 have e1:val (2 ^ 32) xs / (2 ^ 32) ^ k=xs.getD k 0+4294967296*val (2 ^ 32) (xs.drop (k+1)):=by
  rw[val_split (2 ^ 32) xs k (by omega),Nat.add_mul_div_left _ _ (Nat.pow_pos (by omega)),List.drop_eq_getElem_cons hk,val,getD_lt hk];have:=val_lt (2 ^ 32) (xs.take k) (fun x hx=>h x (List.mem_of_mem_take hx));rw[List.length_take_of_le (by omega)] at this;rw[Nat.div_eq_of_lt this,Nat.zero_add]
 have e2:val (2 ^ 32) (xs.drop (k+1)) % 2 ^ s=xs.getD (k+1) 0 % 2 ^ s:=by
  rcases Nat.lt_or_ge (k+1) xs.length with h2|h2
  ·rw[List.drop_eq_getElem_cons h2,val,getD_lt h2,show (2:Nat) ^ 32=2 ^ s*2 ^ (32-s) from hsplit.symm,Nat.mul_assoc,Nat.add_mul_mod_self_left]
  ·rw[List.drop_eq_nil_of_le h2,List.getD_eq_getElem?_getD,List.getElem?_eq_none h2];rfl
 have hx:=getD_lt_of (b:=2 ^ 32) (by omega) h k;rw[Nat.div_div_eq_div_mul,Nat.mul_comm (2 ^ s),←Nat.div_div_eq_div_mul,e1];generalize val (2 ^ 32) (xs.drop (k+1))=M at*;generalize xs.getD k 0=x at*;generalize xs.getD (k+1) 0=y at*
 have e3:(x+4294967296*M) / 2 ^ s=x / 2 ^ s+2 ^ (32-s)*M:=by
  rw[←hsplit,Nat.mul_assoc,Nat.add_mul_div_left _ _ hS]
 have e4:(2 ^ (32-s)*M) % 4294967296=(y*2 ^ (32-s)) % 4294967296:=by
  rw[←hsplit,Nat.mul_comm (2 ^ s),Nat.mul_mod_mul_left,e2,Nat.mul_comm y,Nat.mul_mod_mul_left]
 have e5:x / 2 ^ s<2 ^ (32-s):=by
  rw[Nat.div_lt_iff_lt_mul hS,Nat.mul_comm,hsplit];exact hx
 have e6:(y*2 ^ (32-s)) % 4294967296+2 ^ (32-s)≤4294967296:=by
  have h1:y % 2 ^ s+1≤2 ^ s:=Nat.mod_lt _ hS;have h2:=Nat.mul_le_mul_left (2 ^ (32-s)) h1;rw[←hsplit,Nat.mul_comm (2 ^ s),Nat.mul_comm y,Nat.mul_mod_mul_left];rw[Nat.mul_add] at h2;omega
 rw[e3,show (2:Nat) ^ 32=4294967296 from rfl,Nat.add_mod,e4,Nat.mod_eq_of_lt (show x / 2 ^ s<4294967296 by omega)];exact Nat.mod_eq_of_lt (by omega)
theorem down_or (x y s:Nat) (hs:s<32) (hx:x<4294967296):
  x / 2 ^ s|||(y*2 ^ (32-s)) % 4294967296=x / 2 ^ s+(y*2 ^ (32-s)) % 4294967296:=by
 have hsplit:=pow_split s hs;have hS:0<2 ^ s:=Nat.pow_pos (by omega)
 have e:(y*2 ^ (32-s)) % 4294967296=(y % 2 ^ s)*2 ^ (32-s):=by
  rw[←hsplit,Nat.mul_comm (2 ^ s),Nat.mul_comm y,Nat.mul_mod_mul_left,Nat.mul_comm]
 rw[e];exact add_is_or _ _ _ (by rw[Nat.div_lt_iff_lt_mul hS,Nat.mul_comm,hsplit];exact hx)
def qhat (u0 u1 u2 v0 v1:Nat):Nat:=min ((u0*18446744073709551616+u1*4294967296+u2) / (v0*4294967296+v1)) 4294967295
theorem qhat_lt (u0 u1 u2 v0 v1:Nat):qhat u0 u1 u2 v0 v1<4294967296:=Nat.lt_succ_of_le (Nat.min_le_right _ _)
theorem div_le_of (a b q:Nat) (hb:0<b) (h:a<(q+1)*b):a / b≤q:=by
 have:=(Nat.div_lt_iff_lt_mul hb).2 h;omega
theorem est_go (u0 u1 u2 v0 v1 q r:Nat) (hv0:0<v0) (h:q*v0+r=u0*4294967296+u1)
  (hc:4294967295<q∨r*4294967296+u2<q*v1) (hq:qhat u0 u1 u2 v0 v1≤q):qhat u0 u1 u2 v0 v1≤q-1∧0<q:=by
 rcases hc with hc|hc
 ·refine⟨?_,by omega⟩;have:qhat u0 u1 u2 v0 v1≤4294967295:=Nat.min_le_right _ _;omega
 ·have hq0:0<q:=by
   rcases Nat.eq_zero_or_pos q with h0|h0
   ·subst h0;omega
   ·exact h0
  refine⟨?_,hq0⟩;refine Nat.le_trans (Nat.min_le_left _ _) (div_le_of _ _ _ (by omega) ?_);rw[Nat.sub_add_cancel hq0,Nat.mul_add,←Nat.mul_assoc q v0 4294967296]
  have:q*v0*4294967296+r*4294967296=u0*18446744073709551616+u1*4294967296:=by
   rw[←Nat.add_mul,h];omega
  rw[←this,Nat.add_assoc];exact Nat.add_lt_add_left hc _
theorem est_end (u0 u1 u2 v0 v1 q r:Nat) (hv0:0<v0) (h:q*v0+r=u0*4294967296+u1)
  (hc:q≤4294967295) (hc2:q*v1≤r*4294967296+u2) (hq:qhat u0 u1 u2 v0 v1≤q):q=qhat u0 u1 u2 v0 v1:=by
 refine Nat.le_antisymm ?_ hq;unfold qhat;rw[Nat.le_min];refine⟨?_,hc⟩;rw[Nat.le_div_iff_mul_le (by omega),Nat.mul_add,←Nat.mul_assoc q v0 4294967296]
 have:q*v0*4294967296+r*4294967296=u0*18446744073709551616+u1*4294967296:=by
  rw[←Nat.add_mul,h];omega
 omega
theorem est_break (u0 u1 u2 v0 v1 q r:Nat) (hv0:0<v0) (hu:u0≤v0) (hu1:u1<4294967296) (hv1:v1<4294967296) (h:q*v0+r=u0*4294967296+u1)
  (hr:4294967295<r) (hq:qhat u0 u1 u2 v0 v1≤q):q=qhat u0 u1 u2 v0 v1:=by
 have hq1:q≤4294967295:=by
  rcases Nat.lt_or_ge 4294967295 q with h1|h1
  ·exfalso;have h2:4294967296*v0≤q*v0:=Nat.mul_le_mul_right _ h1;have h3:u0*4294967296≤v0*4294967296:=Nat.mul_le_mul_right _ hu;omega
  ·exact h1
 refine est_end u0 u1 u2 v0 v1 q r hv0 h hq1 ?_ hq;have h1:q*v1≤4294967295*4294967295:=Nat.mul_le_mul hq1 (by omega);have h2:4294967296*4294967296≤r*4294967296:=Nat.mul_le_mul_right _ (by omega);omega
theorem est_start (u0 u1 u2 v0 v1:Nat) (hv0:0<v0) (hu2:u2<4294967296):qhat u0 u1 u2 v0 v1≤(u0*4294967296+u1) / v0:=by
 refine Nat.le_trans (Nat.min_le_left _ _) ?_;rw[Nat.le_div_iff_mul_le hv0];have h:=Nat.div_mul_le_self (u0*18446744073709551616+u1*4294967296+u2) (v0*4294967296+v1);generalize (u0*18446744073709551616+u1*4294967296+u2) / (v0*4294967296+v1)=q at*;rw[Nat.mul_add,←Nat.mul_assoc] at h;omega
theorem qhat_good (E U V u0 u1 u2 v0 v1 U' V':Nat) (hE:0<E) (hV:V=(v0*4294967296+v1)*E+V') (hU:U=(u0*18446744073709551616+u1*4294967296+u2)*E+U')
  (hU':U'<E) (hV':V'<E) (hv0:0<v0) (hlt:U<V*4294967296):
  U / V≤qhat u0 u1 u2 v0 v1∧qhat u0 u1 u2 v0 v1≤U / V+1:=by
 have hqh:qhat u0 u1 u2 v0 v1=min ((u0*18446744073709551616+u1*4294967296+u2) / (v0*4294967296+v1)) 4294967295:=rfl;rw[hqh];clear hqh;obtain⟨W,hW⟩:∃W,v0*4294967296+v1=W:=⟨_,rfl⟩
 obtain⟨T,hT⟩:∃T,u0*18446744073709551616+u1*4294967296+u2=T:=⟨_,rfl⟩
 rw[hW] at hV⊢;rw[hT] at hU⊢;have hW0:4294967296≤W:=by omega
 have hV0:0<V:=by rw[hV];have:=Nat.mul_pos (show 0<W by omega) hE;omega
 clear hW hT;constructor
 ·rw[Nat.le_min];constructor
  ·rw[Nat.le_div_iff_mul_le (by omega)];have h1:=Nat.div_mul_le_self U V;generalize U / V=q at*;rw[hV,hU,Nat.mul_add,←Nat.mul_assoc] at h1;rcases Nat.lt_or_ge T (q*W) with h2|h2
   ·exfalso;have h3:=Nat.mul_le_mul_right E (show T+1≤q*W from h2);rw[Nat.add_mul] at h3;omega
   ·exact h2
  ·have:=(Nat.div_lt_iff_lt_mul hV0).2 (by rw[Nat.mul_comm];exact hlt);omega
 ·have hq1:=Nat.min_le_left (T / W) 4294967295;have hq2:=Nat.min_le_right (T / W) 4294967295;generalize min (T / W) 4294967295=q at*;rcases Nat.eq_zero_or_pos q with h0|h0
  ·rw[h0];exact Nat.zero_le _
  ·obtain⟨p,rfl⟩:∃p,q=p+1:=⟨q-1,by omega⟩
   have h1:p≤U / V:=by
    rw[Nat.le_div_iff_mul_le hV0,hV,hU,Nat.mul_add,←Nat.mul_assoc]
    have h2:(p+1)*W≤T:=by
     have:=Nat.mul_le_mul_right W hq1;have:=Nat.div_mul_le_self T W;omega
    rw[Nat.add_mul] at h2;have h3:p*V'≤p*E:=Nat.mul_le_mul_left _ (by omega);have h4:(p*W+p)*E≤T*E:=Nat.mul_le_mul_right _ (by omega);rw[Nat.add_mul] at h4;omega
   omega
def seg (zs:List Nat) (j n:Nat):List Nat:=(zs.drop j).take n
theorem seg_zero (zs:List Nat) (j:Nat):seg zs j 0=[]:=by simp[seg]
theorem seg_length (zs:List Nat) (j n:Nat) (h:j+n≤zs.length):(seg zs j n).length=n:=by simp[seg];omega
theorem seg_succ (zs:List Nat) (j n:Nat) (h:j+n<zs.length):seg zs j (n+1)=seg zs j n++[zs.getD (j+n) 0]:=by
 unfold seg;rw[List.take_succ_eq_append_getElem (by simp;omega),List.getElem_drop,getD_lt h]
theorem seg_set (zs:List Nat) (j n y:Nat) (h:j+n<zs.length):seg (zs.set (j+n) y) j (n+1)=seg zs j n++[y]:=by
 rw[seg_succ _ _ _ (by rw[List.length_set];exact h),getD_lt (by rw[List.length_set];exact h),List.getElem_set_self];congr 1;apply List.ext_getElem?;intro i;unfold seg;rw[List.getElem?_take,List.getElem?_take];split
 ·rw[List.getElem?_drop,List.getElem?_drop,List.getElem?_set_ne (by omega)]
 ·rfl
theorem seg_congr (zs ys:List Nat) (j n:Nat) (hl:zs.length=ys.length) (h:∀p,j≤p→p<j+n→zs.getD p 0=ys.getD p 0):seg zs j n=seg ys j n:=by
 apply List.ext_getElem?;intro i;unfold seg;rw[List.getElem?_take,List.getElem?_take];split
 ·next hi=>
  rw[List.getElem?_drop,List.getElem?_drop];rcases Nat.lt_or_ge (j+i) zs.length with h1|h1
  ·have:=h (j+i) (by omega) (by omega);rw[getD_lt h1,getD_lt (by omega)] at this;rw[List.getElem?_eq_getElem h1,List.getElem?_eq_getElem (by omega),this]
  ·rw[List.getElem?_eq_none h1,List.getElem?_eq_none (by omega)]
 ·rfl
theorem seg_mem {zs:List Nat} {j n b:Nat} (h:∀x∈zs,x<b):∀x∈seg zs j n,x<b:=fun x hx=>h x (List.mem_of_mem_drop (List.mem_of_mem_take hx))
theorem take_step (B i q:Nat) (zs zi:List Nat) (ys:List Nat) (j c b y t:Nat) (h1:j+i<zs.length) (h2:j+i<zi.length) (hn:(seg zi j i).length=i) (hn0:(seg zs j i).length=i)
  (h:val B (seg zs j i)+(c+b)*B ^ i=val B (seg zi j i)+q*val B (ys.take i))
  (hd:y+(q*ys.getD i 0+c) % B+b=zs.getD (j+i) 0+t*B):
  val B (seg zs j (i+1))+((q*ys.getD i 0+c) / B+t)*B ^ (i+1)=val B (seg (zi.set (j+i) y) j (i+1))+q*val B (ys.take (i+1)):=by
 rw[seg_succ zs j i h1,seg_set zi j i y h2,val_snoc,val_snoc,hn,hn0,val_take_getD,Nat.pow_succ];generalize zs.getD (j+i) 0=u at*;generalize ys.getD i 0=v at*;have e:=Nat.div_add_mod (q*v+c) B;generalize (q*v+c) / B=p at*;generalize (q*v+c) % B=r at*;generalize B ^ i=E at*;have e3:(y+r+b)*E=(u+t*B)*E:=by rw[hd]
 grind
theorem give_step (B i:Nat) (zs zi:List Nat) (ys:List Nat) (j c:Nat) (h1:j+i<zs.length) (h2:j+i<zi.length) (hn:(seg zi j i).length=i) (hn0:(seg zs j i).length=i)
  (h:val B (seg zs j i)+val B (ys.take i)=val B (seg zi j i)+c*B ^ i):
  val B (seg zs j (i+1))+val B (ys.take (i+1))=val B (seg (zi.set (j+i) ((zs.getD (j+i) 0+ys.getD i 0+c) % B)) j (i+1))+(zs.getD (j+i) 0+ys.getD i 0+c) / B*B ^ (i+1):=by
 rw[seg_succ zs j i h1,seg_set zi j i _ h2,val_snoc,val_snoc,hn,hn0,val_take_getD,Nat.pow_succ];generalize zs.getD (j+i) 0=u at*;generalize ys.getD i 0=v at*;have e:=Nat.div_add_mod (u+v+c) B;generalize (u+v+c) / B=p at*;generalize (u+v+c) % B=r at*;generalize B ^ i=E at*
 grind
theorem give_last (B i:Nat) (zs zi:List Nat) (ys:List Nat) (j c:Nat) (hl:ys.length≤i) (h1:j+i<zs.length) (h2:j+i<zi.length) (hn:(seg zi j i).length=i) (hn0:(seg zs j i).length=i)
  (h:val B (seg zs j i)+val B (ys.take i)=val B (seg zi j i)+c*B ^ i):
  val B (seg zs j (i+1))+val B ys=val B (seg (zi.set (j+i) ((zs.getD (j+i) 0+c) % B)) j (i+1))+(zs.getD (j+i) 0+c) / B*B ^ (i+1):=by
 have:=give_step B i zs zi ys j c h1 h2 hn hn0 h;have hy:ys.getD i 0=0:=by rw[List.getD_eq_getElem?_getD,List.getElem?_eq_none hl];rfl
 rwa[hy,Nat.add_zero,List.take_of_length_le (show ys.length≤i+1 by omega)] at this
def vb:List UInt8→Nat
 |[]=>0
 |c::l=>c.toNat*256 ^ l.length+vb l
theorem vb_append (l m:List UInt8):vb (l++m)=vb l*256 ^ m.length+vb m:=by
 induction l with
 |nil=>simp[vb]
 |cons c l ih=>simp only[List.cons_append,vb,ih,List.length_append,Nat.pow_add];grind
theorem vb_lt (l:List UInt8):vb l<256 ^ l.length:=by
 induction l with
 |nil=>simp[vb]
 |cons c l ih=>
  have:=c.toNat_lt;simp only[vb,List.length_cons,Nat.pow_succ]
  have h3:(c.toNat+1)*256 ^ l.length≤256*256 ^ l.length:=Nat.mul_le_mul_right _ (by omega);rw[Nat.add_mul] at h3;omega
theorem vb_drop (l:List UInt8) (k:Nat) (h:k<l.length):
  vb (l.drop (l.length-(k+1)))=(l.getD (l.length-1-k) 0).toNat*256 ^ k+vb (l.drop (l.length-k)):=by
 have e1:l.length-(l.length-k)=k:=by omega
 have e2:l.length-(k+1)=l.length-1-k:=by omega
 have e3:l.length-1-k+1=l.length-k:=by omega
 rw[e2,List.drop_eq_getElem_cons (by omega),e3,vb,List.length_drop,getD_lt (by omega),e1]
def nbF:Nat→Nat→List UInt8→List UInt8
 |0,_,acc=>acc
 |f+1,n,acc=>if n=0 then acc else nbF f (n / 256) (UInt8.ofNat (n % 256)::acc)
def nb (n:Nat):List UInt8:=nbF n n []
theorem nbF_append (f n:Nat) (acc:List UInt8):nbF f n acc=nbF f n []++acc:=by
 induction f generalizing n acc with
 |zero=>simp[nbF]
 |succ f ih=>
  simp only[nbF]
  split
  ·simp
  ·rw[ih,ih (n / 256) [_]];simp
theorem nbF_more (f g n:Nat) (acc:List UInt8) (hf:n≤f) (hg:n≤g):nbF f n acc=nbF g n acc:=by
 induction f generalizing n acc g with
 |zero=>obtain rfl:n=0:=by omega
        cases g<;>simp[nbF]
 |succ f ih=>
  cases g with
  |zero=>obtain rfl:n=0:=by omega
         simp[nbF]
  |succ g=>
   simp only[nbF]
   split
   ·rfl
   ·exact ih _ _ _ (by omega) (by omega)
theorem nb_zero:nb 0=[]:=rfl
theorem nb_step (n:Nat) (h:n≠0):nb n=nb (n / 256)++[UInt8.ofNat (n % 256)]:=by
 unfold nb;obtain⟨m,rfl⟩:∃m,n=m+1:=⟨n-1,by omega⟩
 rw[nbF,if_neg h,nbF_append,nbF_more m ((m+1)/256) _ _ (by omega) (Nat.le_refl _)]
theorem vb_nb (n:Nat):vb (nb n)=n:=by
 induction n using Nat.strongRecOn with
 |_ n ih=>
  by_cases h:n=0
  ·subst h;rfl
  ·rw[nb_step n h,vb_append,ih (n / 256) (by omega)];simp[vb];omega
theorem nb_ne (n:Nat) (h:n≠0):nb n≠[]:=by rw[nb_step n h];simp
def RightB (l:List UInt8):Prop:=∀h:l≠[],l.head h≠0
theorem right_nb (n:Nat):RightB (nb n):=by
 induction n using Nat.strongRecOn with
 |_ n ih=>
  intro hn;by_cases h:n=0
  ·subst h;exact absurd rfl hn
  ·have hs:=nb_step n h;by_cases h2:n / 256=0
   ·rw[h2,nb_zero] at hs;have:(nb n).head hn=UInt8.ofNat (n % 256):=by simp[hs]
    rw[this];intro h0;have:=congrArg UInt8.toNat h0;simp at this;omega
   ·have hne:=nb_ne _ h2;have:(nb n).head hn=(nb (n / 256)).head hne:=by simp[hs,hne]
    rw[this];exact ih (n / 256) (by omega) hne
theorem vb_ge (c:UInt8) (l:List UInt8) (h:c≠0):256 ^ l.length≤vb (c::l):=by
 have:1≤c.toNat:=by
  rcases Nat.eq_zero_or_pos c.toNat with h0|h0
  ·exact absurd (UInt8.toNat_inj.1 h0) h
  ·exact h0
 have h3:=Nat.mul_le_mul_right (256 ^ l.length) this;simp only[vb];omega
theorem nb_vb (l:List UInt8) (h:RightB l):nb (vb l)=l:=by
 suffices H:∀n (l:List UInt8),l.length=n→RightB l→nb (vb l)=l from H _ l rfl h
 intro n
 induction n with
 |zero=>intro l hl _;rw[List.eq_nil_of_length_eq_zero hl];rfl
 |succ n ih=>
  intro l hl h;have hne:l≠[]:=by intro e;subst e;simp at hl
  obtain⟨m,c,rfl⟩:∃m c,l=m++[c]:=⟨l.dropLast,l.getLast hne,(List.dropLast_concat_getLast hne).symm⟩
  have hm:m.length=n:=by simpa using hl
  have hR:RightB m:=by
   intro hm0;have:=h hne;rw[List.head_append_left hm0] at this;exact this
  have e1:vb (m++[c])=vb m*256+c.toNat:=by rw[vb_append];simp[vb]
  have hc:=c.toNat_lt
  have hnz:vb (m++[c])≠0:=by
   obtain⟨d,t,ed⟩:∃d t,m++[c]=d::t:=List.exists_cons_of_ne_nil hne;have hd:d≠0:=by have:=h hne;simpa [ed] using this
   have:=vb_ge d t hd;rw[ed];have:0<256 ^ t.length:=Nat.pow_pos (by omega);omega
  rw[nb_step _ hnz,e1];have e2:(vb m*256+c.toNat) / 256=vb m:=by omega
  have e3:(vb m*256+c.toNat) % 256=c.toNat:=by omega
  rw[e2,e3,ih m hm hR];simp
def canonB (l:List UInt8):List UInt8:=l.dropWhile (·==0)
theorem vb_canonB (l:List UInt8):vb (canonB l)=vb l:=by
 unfold canonB
 induction l with
 |nil=>rfl
 |cons c l ih=>
  rw[List.dropWhile_cons];split
  ·next h=>obtain rfl:c=0:=by simpa using h
           rw[ih];simp[vb]
  ·rfl
theorem right_canonB (l:List UInt8):RightB (canonB l):=by
 unfold canonB
 induction l with
 |nil=>intro h;simp at h
 |cons c l ih=>
  rw[List.dropWhile_cons];split
  ·exact ih
  ·next h=>intro _;simpa using h
theorem canonB_eq (l:List UInt8):canonB l=nb (vb l):=by
 rw[←vb_canonB,nb_vb _ (right_canonB l)]
def be:Nat→Nat→List UInt8
 |0,_=>[]
 |n+1,N=>UInt8.ofNat (N / 256 ^ n % 256)::be n N
theorem be_length (n N:Nat):(be n N).length=n:=by induction n<;>simp_all [be]
theorem vb_be (n N:Nat):vb (be n N)=N % 256 ^ n:=by
 induction n with
 |zero=>simp[be,vb,Nat.mod_one]
 |succ n ih=>
  rw[show 256 ^ (n+1)=256 ^ n*256 from Nat.pow_succ ..,Nat.mod_mul,be,vb,be_length,ih];simp;grind
theorem canonB_be (n N:Nat) (h:N<256 ^ n):canonB (be n N)=nb N:=by rw[canonB_eq,vb_be,Nat.mod_eq_of_lt h]
theorem be_step (n k N:Nat) (h:k<n):
  (List.replicate (n-k) 0++be k N).set (n-1-k) (UInt8.ofNat (N / 256 ^ k % 256))=List.replicate (n-(k+1)) 0++be (k+1) N:=by
 rw[show n-k=(n-(k+1))+1 from by omega,List.replicate_succ',List.append_assoc,List.set_append_right _ _ (by simp;omega)];simp[be,show n-1-k-(n-(k+1))=0 from by omega]
theorem digit_byte (xs:List Nat) (h:∀x∈xs,x<2 ^ 32) (k:Nat) (hk:k / 4<xs.length):
  xs.getD (k / 4) 0 / 2 ^ (8*(k % 4)) % 256=val (2 ^ 32) xs / 256 ^ k % 256:=by
 rw[getD_lt hk,←val_digit (2 ^ 32) (by omega) xs h _ hk,pow32];rw[show (2:Nat) ^ (8*(k % 4))=256 ^ (k % 4) from by rw[Nat.pow_mul]];generalize val (2 ^ 32) xs=N
 have e:N / 256 ^ k=N / 256 ^ (4*(k / 4)) / 256 ^ (k % 4):=by
  rw[Nat.div_div_eq_div_mul,←Nat.pow_add];congr 2;omega
 rw[e];generalize N / 256 ^ (4*(k / 4))=M;have h3:k % 4=0∨k % 4=1∨k % 4=2∨k % 4=3:=by omega
 rcases h3 with h|h|h|h<;>rw[h]<;>omega
def nbs (n:Nat):ByteArray:=⟨(nb n).toArray⟩
def vbs (s:ByteArray):Nat:=vb s.data.toList
theorem vbs_nbs (n:Nat):vbs (nbs n)=n:=by simp[vbs,nbs,vb_nb]
theorem vbs_lt (s:ByteArray):vbs s<256 ^ s.size:=by have:=vb_lt s.data.toList;simpa [vbs] using this
theorem be_append (a b N:Nat):be (a+b) N=be a (N / 256 ^ b)++be b N:=by
 induction a with
 |zero=>simp[be]
 |succ a ih=>
  rw[show a+1+b=(a+b)+1 from by omega,be,ih,be,Nat.div_div_eq_div_mul,←Nat.pow_add,Nat.add_comm b a];rfl
theorem val_parts (B:Nat) (zs:List Nat) (j n:Nat) (h:j+n≤zs.length):
  val B zs=val B (zs.take j)+B ^ j*(val B (seg zs j n)+B ^ n*val B (zs.drop (j+n))):=by
 rw[val_split B zs j (by omega),val_split B (zs.drop j) n (by simp;omega),List.drop_drop];rfl
theorem seg_three (B:Nat) (zs:List Nat) (j n:Nat) (h:j+n+2<zs.length):
  val B (seg zs j (n+3))=val B (seg zs j n)+B ^ n*(zs.getD (j+n) 0+B*(zs.getD (j+n+1) 0+B*zs.getD (j+n+2) 0)):=by
 rw[show n+3=(n+2)+1 from rfl,seg_succ zs j (n+2) (by omega),val_snoc,seg_length _ _ _ (by omega),seg_succ zs j (n+1) (by omega),val_snoc,seg_length _ _ _ (by omega),
  seg_succ zs j n (by omega),val_snoc,seg_length _ _ _ (by omega)]
 rw[show j+(n+1)=j+n+1 from rfl,show j+(n+2)=j+n+2 from rfl,Nat.pow_succ,Nat.pow_succ]
 grind
theorem val_two (B:Nat) (ys:List Nat) (n:Nat) (h:ys.length=n+2):
  val B ys=val B (ys.take n)+B ^ n*(ys.getD n 0+B*ys.getD (n+1) 0):=by
 have e:val B ys=val B (ys.take (n+2)):=by rw[List.take_of_length_le (by omega)]
 rw[e,val_take_getD,val_take_getD,Nat.pow_succ]
 grind
theorem round_before (zs ys:List Nat) (j n:Nat) (hz:∀x∈zs,x<2 ^ 32) (hy:∀x∈ys,x<2 ^ 32) (hyl:ys.length=n+2) (hjl:j+n+2<zs.length)
  (hv0:0<ys.getD (n+1) 0) (hR:val (2 ^ 32) zs<val (2 ^ 32) ys*(2 ^ 32) ^ (j+1)):
  zs.getD (j+n+2) 0≤ys.getD (n+1) 0∧
  val (2 ^ 32) (seg zs j (n+3)) / val (2 ^ 32) ys≤qhat (zs.getD (j+n+2) 0) (zs.getD (j+n+1) 0) (zs.getD (j+n) 0) (ys.getD (n+1) 0) (ys.getD n 0)∧
  qhat (zs.getD (j+n+2) 0) (zs.getD (j+n+1) 0) (zs.getD (j+n) 0) (ys.getD (n+1) 0) (ys.getD n 0)≤val (2 ^ 32) (seg zs j (n+3)) / val (2 ^ 32) ys+1:=by
 have e1:=seg_three (2 ^ 32) zs j n hjl;have e2:=val_two (2 ^ 32) ys n hyl;have hE:0<(2 ^ 32) ^ n:=Nat.pow_pos (by omega);have hEj:0<(2 ^ 32) ^ j:=Nat.pow_pos (by omega)
 have hU':val (2 ^ 32) (seg zs j n)<(2 ^ 32) ^ n:=by
  have:=val_lt (2 ^ 32) (seg zs j n) (seg_mem hz);rwa[seg_length _ _ _ (by omega)] at this
 have hV':val (2 ^ 32) (ys.take n)<(2 ^ 32) ^ n:=by
  have:=val_lt (2 ^ 32) (ys.take n) (fun x hx=>hy x (List.mem_of_mem_take hx));rwa[List.length_take_of_le (by omega)] at this
 have hlt:val (2 ^ 32) (seg zs j (n+3))<val (2 ^ 32) ys*4294967296:=by
  rw[val_parts (2 ^ 32) zs j (n+3) (by omega),show (2 ^ 32) ^ (j+1)=4294967296*(2 ^ 32) ^ j from by rw[Nat.pow_succ,Nat.mul_comm],←Nat.mul_assoc] at hR;rcases Nat.lt_or_ge (val (2 ^ 32) (seg zs j (n+3))) (val (2 ^ 32) ys*4294967296) with h|h
  ·exact h
  ·exfalso;have h2:=Nat.mul_le_mul_left ((2 ^ 32) ^ j) (Nat.le_trans h (Nat.le_add_right _ ((2 ^ 32) ^ (n+3)*val (2 ^ 32) (zs.drop (j+(n+3))))));rw[Nat.mul_comm ((2 ^ 32) ^ j) (val (2 ^ 32) ys*4294967296)] at h2;omega
 have u2:=getD_lt_of (b:=2 ^ 32) (by omega) hz (j+n);have u1:=getD_lt_of (b:=2 ^ 32) (by omega) hz (j+n+1);have v1:=getD_lt_of (b:=2 ^ 32) (by omega) hy n;generalize zs.getD (j+n+2) 0=a0 at*;generalize zs.getD (j+n+1) 0=a1 at*;generalize zs.getD (j+n) 0=a2 at*;generalize ys.getD (n+1) 0=b0 at*;generalize ys.getD n 0=b1 at*
 have e1':val (2 ^ 32) (seg zs j (n+3))=(a0*18446744073709551616+a1*4294967296+a2)*(2 ^ 32) ^ n+val (2 ^ 32) (seg zs j n):=by
  rw[e1,Nat.add_comm,Nat.mul_comm];congr 2;omega
 have e2':val (2 ^ 32) ys=(b0*4294967296+b1)*(2 ^ 32) ^ n+val (2 ^ 32) (ys.take n):=by
  rw[e2,Nat.add_comm,Nat.mul_comm];congr 2;omega
 refine⟨?_,qhat_good _ _ _ a0 a1 a2 b0 b1 _ _ hE e2' e1' hU' hV' hv0 hlt⟩;rcases Nat.lt_or_ge b0 a0 with h|h
 ·exfalso;clear hR e1 e2;rw[e1',e2'] at hlt;generalize val (2 ^ 32) (seg zs j n)=s at*;generalize val (2 ^ 32) (ys.take n)=t at*;generalize (2 ^ 32) ^ n=E at*;have h3:(b0+1)*18446744073709551616≤a0*18446744073709551616:=Nat.mul_le_mul_right _ h;have h4:((b0*4294967296+b1)*4294967296+4294967296)*E≤(a0*18446744073709551616+a1*4294967296+a2)*E:=Nat.mul_le_mul_right _ (by omega);rw[Nat.add_mul] at h4;have h5:((b0*4294967296+b1)*E+t)*4294967296=(b0*4294967296+b1)*4294967296*E+t*4294967296:=by grind
  omega
 ·exact h
theorem round_after (zs zs2 ys:List Nat) (j n Qh d N:Nat) (hl:zs2.length=zs.length) (hz:∀x∈zs,x<2 ^ 32) (hyl:ys.length=n+2) (hjl:j+n+2<zs.length) (hy:∀x∈ys,x<2 ^ 32) (hV:0<val (2 ^ 32) ys)
  (hout:∀p,(p<j∨j+(n+2)<p)→zs2.getD p 0=zs.getD p 0) (hR:val (2 ^ 32) zs<val (2 ^ 32) ys*(2 ^ 32) ^ (j+1))
  (hN:N=Qh*val (2 ^ 32) ys*(2 ^ 32) ^ (j+1)+val (2 ^ 32) zs)
  (hd:d=val (2 ^ 32) (seg zs j (n+3)) / val (2 ^ 32) ys) (h2:val (2 ^ 32) (seg zs2 j (n+3))=val (2 ^ 32) (seg zs j (n+3)) % val (2 ^ 32) ys):
  val (2 ^ 32) zs2<val (2 ^ 32) ys*(2 ^ 32) ^ j∧N=(d+2 ^ 32*Qh)*val (2 ^ 32) ys*(2 ^ 32) ^ j+val (2 ^ 32) zs2:=by
 have p1:=val_parts (2 ^ 32) zs j (n+3) (by omega);have p2:=val_parts (2 ^ 32) zs2 j (n+3) (by omega)
 have t1:zs2.take j=zs.take j:=by
  have:=seg_congr zs2 zs 0 j hl (fun p h1 h2=>hout p (.inl (by omega)));simpa [seg] using this
 have t2:zs2.drop (j+(n+3))=zs.drop (j+(n+3)):=by
  have:=seg_congr zs2 zs (j+(n+3)) zs.length hl (fun p h1 h2=>hout p (.inr (by omega)));unfold seg at this;rwa[List.take_of_length_le (by simp;omega),List.take_of_length_le (by simp)] at this
 have hVb:val (2 ^ 32) ys<(2 ^ 32) ^ (n+2):=by have:=val_lt (2 ^ 32) ys hy;rwa[hyl] at this
 have hE:0<(2 ^ 32) ^ j:=Nat.pow_pos (by omega)
 have hlow:val (2 ^ 32) (zs.take j)<(2 ^ 32) ^ j:=by
  have:=val_lt (2 ^ 32) (zs.take j) (fun x hx=>hz x (List.mem_of_mem_take hx));rwa[List.length_take_of_le (by omega)] at this
 have htop:val (2 ^ 32) (zs.drop (j+(n+3)))=0:=by
  rcases Nat.eq_zero_or_pos (val (2 ^ 32) (zs.drop (j+(n+3)))) with h|h
  ·exact h
  ·exfalso;have h3:(2 ^ 32) ^ (n+3)≤(2 ^ 32) ^ (n+3)*val (2 ^ 32) (zs.drop (j+(n+3))):=Nat.le_mul_of_pos_right _ h
   have h4:(2 ^ 32) ^ j*(2 ^ 32) ^ (n+3)≤val (2 ^ 32) zs:=by
    rw[p1];exact Nat.le_trans (Nat.mul_le_mul_left _ (Nat.le_trans h3 (Nat.le_add_left _ _))) (Nat.le_add_left _ _)
   have h5:val (2 ^ 32) ys*(2 ^ 32) ^ (j+1)<(2 ^ 32) ^ (n+2)*(2 ^ 32) ^ (j+1):=Nat.mul_lt_mul_of_pos_right hVb (Nat.pow_pos (by omega));rw[←Nat.pow_add] at h4 h5;rw[show j+(n+3)=n+2+(j+1) from by omega] at h4;omega
 rw[t1,t2,htop,h2,Nat.mul_zero,Nat.add_zero] at p2;rw[htop,Nat.mul_zero,Nat.add_zero] at p1;have hm:=Nat.mod_lt (val (2 ^ 32) (seg zs j (n+3))) hV;have hdm:=Nat.div_add_mod (val (2 ^ 32) (seg zs j (n+3))) (val (2 ^ 32) ys);rw[←hd] at hdm;rw[show (2 ^ 32) ^ (j+1)=4294967296*(2 ^ 32) ^ j from by rw[Nat.pow_succ,Nat.mul_comm]] at hN;clear hout t1 t2 h2 hR hd htop hVb;generalize val (2 ^ 32) (seg zs j (n+3))=U at*;generalize val (2 ^ 32) ys=V at*;generalize val (2 ^ 32) (zs.take j)=lo at*;generalize (2 ^ 32) ^ j=E at*;constructor
 ·rw[p2];have:=Nat.mul_le_mul_left E (show U % V+1≤V from hm);rw[Nat.mul_add,Nat.mul_comm E V] at this;omega
 ·generalize U % V=r at*;rw[p2,hN,p1,←hdm,show (2:Nat) ^ 32=4294967296 from rfl];clear hz hy hdm p1 p2 hN
  grind
theorem round_fits (U U1 Q V:Nat) (hV:0<V) (h:U=U1+Q*V) (h1:U / V≤Q):Q=U / V∧U1=U % V:=by
 have h2:Q≤U / V:=(Nat.le_div_iff_mul_le hV).2 (by omega);have h3:Q=U / V:=by omega
 refine⟨h3,?_⟩;have h4:=Nat.div_add_mod U V;rw[←h3,Nat.mul_comm] at h4;omega
theorem round_back (U U1 U2 Q V E c:Nat) (hV:0<V) (hVE:V≤E) (h:U+1*E=U1+Q*V) (h1:U / V≤Q) (h2:Q≤U / V+1) (hU1:U1<E) (hU2:U2<E) (h3:U1+V=U2+c*E):
  0<Q∧Q-1=U / V∧U2=U % V:=by
 have h4:U / V<Q:=(Nat.div_lt_iff_lt_mul hV).2 (by omega);have h5:Q=U / V+1:=by omega
 have h6:=Nat.div_add_mod U V;have h7:=Nat.mod_lt U hV;generalize U / V=d at*;generalize U % V=r at*;subst h5;rw[Nat.add_mul,Nat.mul_comm d V] at h;refine⟨by omega,by omega,?_⟩
 have hc:c=1:=by
  rcases Nat.lt_or_ge c 1 with h8|h8
  ·obtain rfl:c=0:=by omega
   omega
  ·rcases Nat.lt_or_ge 1 c with h9|h9
   ·have:=Nat.mul_le_mul_right E (show 2≤c from h9);omega
   ·omega
 subst hc;omega
end Go.Proofs.YtfajelpcfnfjkaaGreatDoor
