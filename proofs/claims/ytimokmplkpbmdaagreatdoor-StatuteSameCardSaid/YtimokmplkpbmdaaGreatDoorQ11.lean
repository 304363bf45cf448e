/- A part of the proof: Dec. -/
import Derived.Lib.ItoaNum
import Derived.Lib.Atoi
import Derived.Lib.Repeat
import Derived.Test.YtimokmplkpbmdaaGreatDoorQ00
set_option linter.all false
set_option maxRecDepth 100000
set_option maxHeartbeats 0
namespace Go.Proofs.YtimokmplkpbmdaaGreatDoor
def wI:Nat->Nat->List UInt8
 |0,_=>[]
 |k+1,r=>wI k (r / 10)++[UInt8.ofNat (48+r % 10)]
theorem Jy (u:Nat) (h:u<10):Lib.decDigits u=[UInt8.ofNat (48+u)]:=by rw[Lib.decDigits,dif_pos h]
theorem IB (u:Nat) (h:¬u<10):Lib.decDigits u=Lib.decDigits (u / 10)++[UInt8.ofNat (48+u % 10)]:=by rw[Lib.decDigits,dif_neg h]
theorem acs (k q r:Nat) (hq:0<q) (hr:r<10 ^ k):Lib.decDigits (q*10 ^ k+r)=Lib.decDigits q++wI k r:=by
 induction k generalizing r with
 |zero=>obtain rfl:r=0:=by simpa using hr
        simp[wI]
 |succ k ih=>
  rw[Nat.pow_succ] at hr;have e:q*10 ^ (k+1)=q*10 ^ k*10:=by rw[Nat.pow_succ,Nat.mul_assoc]
  have h1:1<=q*10 ^ k:=Nat.mul_pos hq (Nat.pow_pos (by omega));rw[IB _ (by omega),show (q*10 ^ (k+1)+r) / 10=q*10 ^ k+r / 10 from by omega,show (q*10 ^ (k+1)+r) % 10=r % 10 from by omega,ih (r / 10) (by omega),wI];simp
theorem VR (k:Nat):wI k 0=List.replicate k 48:=by
 induction k with
 |zero=>rfl
 |succ k ih=>rw[wI,show 0 / 10=0 from rfl,ih,List.replicate_succ'];rfl
theorem IC (k r:Nat) (hk:0<k) (hr:r<10 ^ k):(Lib.decDigits r).length<=k:=by
 induction k generalizing r with
 |zero=>omega
 |succ k ih=>
  by_cases h:r<10
  ·rw[Jy r h];simp
  ·rw[IB r h,List.length_append];rw[Nat.pow_succ] at hr
   have hk':0<k:=by
    rcases Nat.eq_zero_or_pos k with h0|h0
    ·subst h0;simp at hr;omega
    ·exact h0
   have:=ih (r / 10) hk' (by omega);simp;omega
theorem Zd (k r:Nat) (hk:0<k) (hr:r<10 ^ k):wI k r=List.replicate (k-(Lib.decDigits r).length) 48++Lib.decDigits r:=by
 induction k generalizing r with
 |zero=>omega
 |succ k ih=>
  rw[Nat.pow_succ] at hr;by_cases h:r<10
  ·rw[wI,show r / 10=0 from by omega,VR,Jy r h,show r % 10=r from by omega];simp
  ·have hk':0<k:=by
    rcases Nat.eq_zero_or_pos k with h0|h0
    ·subst h0;simp at hr;omega
    ·exact h0
   rw[wI,ih (r / 10) hk' (by omega),IB r h,List.append_assoc];congr 2;simp
theorem KN (n s:Nat) (h:n<256 ^ s):(Lib.decDigits n).length<=3*s+1:=by
 apply IC _ _ (by omega);have h1:256 ^ s<=1000 ^ s:=Nat.pow_le_pow_left (by omega) s;have h2:(1000:Nat) ^ s=10 ^ (3*s):=by rw[Nat.pow_mul]
 rw[Nat.pow_succ];omega
theorem Tc (c:UInt8) (n:Nat):Lib.repeatL [c] n=List.replicate n c:=by
 induction n with
 |zero=>rfl
 |succ n ih=>simp[Lib.repeatL,ih,List.replicate_succ]
def dY (l:List UInt8):Nat:=l.foldl (fun a c=>a*10+(c.toNat-48)) 0
def fM (c:UInt8):Bool:=decide (48<=c.toNat)&&decide (c.toNat<=57)
theorem wJ (l:List UInt8) (a:Nat):l.foldl (fun a c=>a*10+(c.toNat-48)) a=a*10 ^ l.length+dY l:=by
 induction l generalizing a with
 |nil=>simp[dY]
 |cons c l ih=>
  simp only[List.foldl_cons,List.length_cons,dY,ih (a*10+_),ih (0*10+_),Nat.pow_succ]
  grind
theorem AY (l m:List UInt8):dY (l++m)=dY l*10 ^ m.length+dY m:=by
 rw[dY,List.foldl_append,wJ];rfl
theorem BM (l:List UInt8) (h:l.all fM=true):dY l<10 ^ l.length:=by
 induction l with
 |nil=>simp[dY]
 |cons c l ih=>
  simp only[List.all_cons,Bool.and_eq_true] at h;have h1:=ih h.2;have h2:=h.1;simp only[fM,Bool.and_eq_true,decide_eq_true_eq] at h2;rw[dY,List.foldl_cons,wJ,List.length_cons,Nat.pow_succ];have h3:(0*10+(c.toNat-48)+1)*10 ^ l.length<=10*10 ^ l.length:=Nat.mul_le_mul_right _ (by omega);rw[Nat.add_mul] at h3;omega
theorem Tf (l:List UInt8) (a:Nat) (h:l.all fM=true):Lib.decFrom a l=some (a*10 ^ l.length+dY l):=by
 induction l generalizing a with
 |nil=>simp[Lib.decFrom,dY]
 |cons c l ih=>
  simp only[List.all_cons,Bool.and_eq_true] at h;have h2:=h.1;simp only[fM,Bool.and_eq_true,decide_eq_true_eq] at h2;rw[Lib.decFrom,Lib.digitVal,if_pos h2];simp only
  have e:dY (c::l)=(c.toNat-48)*10 ^ l.length+dY l:=by
   rw[show dY (c::l)=l.foldl (fun a c=>a*10+(c.toNat-48)) (0*10+(c.toNat-48)) from rfl,wJ,Nat.zero_mul,Nat.zero_add]
  rw[ih _ h.2,e,List.length_cons,Nat.pow_succ];congr 1
  grind
theorem O6 (l:List UInt8) (hne:l≠[]) (h:l.all fM=true):Lib.atoi l=some (dY l:Int):=by
 obtain⟨c,m,rfl⟩:=List.exists_cons_of_ne_nil hne;have h':=h;simp only[List.all_cons,Bool.and_eq_true,fM,decide_eq_true_eq] at h';have hc:=h'.1
 have h1:(c==45)=false:=by
  rw[beq_eq_false_iff_ne];rintro rfl;simp at hc
 have h2:(c==43)=false:=by
  rw[beq_eq_false_iff_ne];rintro rfl;simp at hc
 rw[Lib.atoi];simp only[h1,h2,Bool.false_eq_true,if_false]
 rw[Lib.decNat,if_neg (by simp),Tf _ _ h];simp
theorem sG (L:List UInt8) (p:Nat) (h:L.all fM=true):dY (L.take p)<256 ^ p:=by
 have h1:=BM (L.take p) (by
  rw[List.all_eq_true] at h⊢;exact fun x hx=>h x (List.mem_of_mem_take hx))
 have h2:10 ^ (L.take p).length<=10 ^ p:=Nat.pow_le_pow_right (by omega) (List.length_take_le _ _);have h3:(10:Nat) ^ p<=256 ^ p:=Nat.pow_le_pow_left (by omega) p;omega
theorem LW (L:List UInt8) (p n:Nat) (hp:p+n<=L.length) (h:p=0∨n=9):
  dY (L.take (p+n))=dY (L.take p)*1000000000+dY ((L.drop p).take n):=by
 rw[List.take_add,AY];rcases h with rfl|rfl
 ·simp[dY]
 ·congr 2;rw[List.length_take_of_le (by simp;omega)]
end Go.Proofs.YtimokmplkpbmdaaGreatDoor
