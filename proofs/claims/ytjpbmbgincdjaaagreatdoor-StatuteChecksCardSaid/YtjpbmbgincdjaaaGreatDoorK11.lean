/- Part: Dec. -/
import Derived.Lib.ItoaNum
import Derived.Lib.Atoi
import Derived.Lib.Repeat
import Derived.Test.YtjpbmbgincdjaaaGreatDoorK00
set_option linter.all false
set_option maxRecDepth 100000
set_option maxHeartbeats 0
namespace Go.Proofs.YtjpbmbgincdjaaaGreatDoor
open List
def vW:Nat->Nat->List UInt8
 |0,_=>[]
 |k+1,r=>vW k (r / 10)++[UInt8.ofNat (48+r % 10)]
theorem wX (u:Nat) (h:u<10):Lib.decDigits u=[UInt8.ofNat (48+u)]:=by rw[Lib.decDigits,dif_pos h]
theorem CZ (u:Nat) (h:¬u<10):Lib.decDigits u=Lib.decDigits (u / 10)++[UInt8.ofNat (48+u % 10)]:=by rw[Lib.decDigits,dif_neg h]
theorem adK (k q r:Nat) (hq:0<q) (hr:r<10 ^ k):Lib.decDigits (q*10 ^ k+r)=Lib.decDigits q++vW k r:=by
 induction k generalizing r with
 |zero=>obtain rfl:r=0:=by simpa using hr
        simp[vW]
 |succ k ih=>
  rw[Nat.pow_succ] at hr;have e:q*10 ^ (k+1)=q*10 ^ k*10:=by rw[Nat.pow_succ,Nat.mul_assoc]
  have h1:1<=q*10 ^ k:=Nat.mul_pos hq (Nat.pow_pos (by omega));rw[CZ _ (by omega),show (q*10 ^ (k+1)+r) / 10=q*10 ^ k+r / 10 from by omega,show (q*10 ^ (k+1)+r) % 10=r % 10 from by omega,ih (r / 10) (by omega),vW];simp
theorem Xz (k:Nat):vW k 0=List.replicate k 48:=by
 induction k with
 |zero=>rfl
 |succ k ih=>rw[vW,show 0 / 10=0 from rfl,ih,replicate_succ'];rfl
theorem IE (k r:Nat) (hk:0<k) (hr:r<10 ^ k):(Lib.decDigits r).length<=k:=by
 induction k generalizing r with
 |zero=>omega
 |succ k ih=>
  by_cases h:r<10
  ·rw[wX r h];simp
  ·rw[CZ r h,length_append];rw[Nat.pow_succ] at hr
   have hk':0<k:=by
    rcases Nat.eq_zero_or_pos k with h0|h0
    ·subst h0;simp at hr;omega
    ·exact h0
   have:=ih (r / 10) hk' (by omega);simp;omega
theorem aar (k r:Nat) (hk:0<k) (hr:r<10 ^ k):vW k r=List.replicate (k-(Lib.decDigits r).length) 48++Lib.decDigits r:=by
 induction k generalizing r with
 |zero=>omega
 |succ k ih=>
  rw[Nat.pow_succ] at hr;by_cases h:r<10
  ·rw[vW,show r / 10=0 from by omega,Xz,wX r h,show r % 10=r from by omega];simp
  ·have hk':0<k:=by
    rcases Nat.eq_zero_or_pos k with h0|h0
    ·subst h0;simp at hr;omega
    ·exact h0
   rw[vW,ih (r / 10) hk' (by omega),CZ r h,append_assoc];congr 2;simp
theorem Le (n s:Nat) (h:n<256 ^ s):(Lib.decDigits n).length<=3*s+1:=by
 apply IE _ _ (by omega);have h1:256 ^ s<=1000 ^ s:=Nat.pow_le_pow_left (by omega) s;have h2:(1000:Nat) ^ s=10 ^ (3*s):=by rw[Nat.pow_mul]
 rw[Nat.pow_succ];omega
theorem UO (c:UInt8) (n:Nat):Lib.repeatL [c] n=List.replicate n c:=by
 induction n with
 |zero=>rfl
 |succ n ih=>simp[Lib.repeatL,ih,replicate_succ]
def fU (l:List UInt8):Nat:=l.foldl (fun a c=>a*10+(c.toNat-48)) 0
def jS (c:UInt8):Bool:=decide (48<=c.toNat)&&decide (c.toNat<=57)
theorem vX (l:List UInt8) (a:Nat):l.foldl (fun a c=>a*10+(c.toNat-48)) a=a*10 ^ l.length+fU l:=by
 induction l generalizing a with
 |nil=>simp[fU]
 |cons c l ih=>
  simp only[foldl_cons,length_cons,fU,ih (a*10+_),ih (0*10+_),Nat.pow_succ]
  grind
theorem Lh (l m:List UInt8):fU (l++m)=fU l*10 ^ m.length+fU m:=by
 rw[fU,foldl_append,vX];rfl
theorem AV (l:List UInt8) (h:l.all jS=true):fU l<10 ^ l.length:=by
 induction l with
 |nil=>simp[fU]
 |cons c l ih=>
  simp only[all_cons,Bool.and_eq_true] at h;have h1:=ih h.2;have h2:=h.1;simp only[jS,Bool.and_eq_true,decide_eq_true_eq] at h2;rw[fU,foldl_cons,vX,length_cons,Nat.pow_succ];have h3:(0*10+(c.toNat-48)+1)*10 ^ l.length<=10*10 ^ l.length:=Nat.mul_le_mul_right _ (by omega);rw[Nat.add_mul] at h3;omega
theorem UQ (l:List UInt8) (a:Nat) (h:l.all jS=true):Lib.decFrom a l=some (a*10 ^ l.length+fU l):=by
 induction l generalizing a with
 |nil=>simp[Lib.decFrom,fU]
 |cons c l ih=>
  simp only[all_cons,Bool.and_eq_true] at h;have h2:=h.1;simp only[jS,Bool.and_eq_true,decide_eq_true_eq] at h2;rw[Lib.decFrom,Lib.digitVal,if_pos h2];simp only
  have e:fU (c::l)=(c.toNat-48)*10 ^ l.length+fU l:=by
   rw[show fU (c::l)=l.foldl (fun a c=>a*10+(c.toNat-48)) (0*10+(c.toNat-48)) from rfl,vX,Nat.zero_mul,Nat.zero_add]
  rw[ih _ h.2,e,length_cons,Nat.pow_succ];congr 1
  grind
theorem Qr (l:List UInt8) (hne:l≠[]) (h:l.all jS=true):Lib.atoi l=some (fU l:Int):=by
 obtain⟨c,m,rfl⟩:=exists_cons_of_ne_nil hne;have h':=h;simp only[all_cons,Bool.and_eq_true,jS,decide_eq_true_eq] at h';have hc:=h'.1
 have h1:(c==45)=false:=by
  rw[beq_eq_false_iff_ne];rintro rfl;simp at hc
 have h2:(c==43)=false:=by
  rw[beq_eq_false_iff_ne];rintro rfl;simp at hc
 rw[Lib.atoi];simp only[h1,h2,Bool.false_eq_true,if_false]
 rw[Lib.decNat,if_neg (by simp),UQ _ _ h];simp
theorem rV (L:List UInt8) (p:Nat) (h:L.all jS=true):fU (L.take p)<256 ^ p:=by
 have h1:=AV (L.take p) (by
  rw[all_eq_true] at h⊢;exact fun x hx=>h x (mem_of_mem_take hx))
 have h2:10 ^ (L.take p).length<=10 ^ p:=Nat.pow_le_pow_right (by omega) (length_take_le _ _);have h3:(10:Nat) ^ p<=256 ^ p:=Nat.pow_le_pow_left (by omega) p;omega
theorem MX (L:List UInt8) (p n:Nat) (hp:p+n<=L.length) (h:p=0∨n=9):
  fU (L.take (p+n))=fU (L.take p)*1000000000+fU ((L.drop p).take n):=by
 rw[take_add,Lh];rcases h with rfl|rfl
 ·simp[fU]
 ·congr 2;rw[length_take_of_le (by simp;omega)]
end Go.Proofs.YtjpbmbgincdjaaaGreatDoor
