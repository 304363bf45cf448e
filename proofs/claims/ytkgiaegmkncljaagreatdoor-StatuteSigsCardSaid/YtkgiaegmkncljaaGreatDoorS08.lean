/- A part of the proof: Nat N1. -/
import Derived.Test.YtkgiaegmkncljaaGreatDoorS01
import Derived.Test.YtkgiaegmkncljaaGreatDoorS07
set_option linter.unusedVariables false
set_option linter.unusedSimpArgs false
set_option maxRecDepth 100000
set_option maxHeartbeats 40000000
namespace Go.Proofs.YtkgiaegmkncljaaGreatDoor
open Go.RowKit
theorem number_lim (A:Option Addr) (len cap n:Nat) (w:World) (h:Lim w A len cap n) (hl:len≤1099511627776):
  Calls Tryz.prog 232 #[.slice A len cap] w fun e w'=>e=.returned (.string (nbs n))∧Below w.heap.size w w':=by
 obtain⟨l,m,xs,e,r,c,v⟩:=h;rw[←v];exact number_any A len cap xs w e l hl r c.lt
theorem vbs_le (s:ByteArray) (K:Nat) (h:s.size≤K):vbs s<256 ^ K:=Nat.lt_of_lt_of_le (vbs_lt s) (Nat.pow_le_pow_right (by omega) h)
theorem of_lim (s:ByteArray) (w:World) (hs:s.size≤1073741824):
  Calls Tryz.prog 218 #[.string s] w fun e w'=>∃A len cap,e=.returned (.slice A len cap)∧Lim w' A len cap (vbs s)∧4*len≤s.size+3∧Below w.heap.size w w':=
 (of_any s w (by omega)).mono fun e w' ⟨A,len,cap,h1,h2,h3⟩=>⟨A,len,cap,h1,h2,h2.len_le (vbs_lt s),h3⟩
theorem add_bound {n m K:Nat} (h1:n<256 ^ K) (h2:m<256 ^ K):n+m<256 ^ (K+1):=by
 rw[Nat.pow_succ];omega
def rightS (s:ByteArray):Bool:=match s.data.toList with|[]=>true|c::_=>c !=0
theorem natRight_any (s:ByteArray) (w:World):
  Calls Tryz.prog 157 #[.string s] w fun e w'=>e=.returned (.bool (rightS s))∧w=w':=by
 obtain⟨⟨l⟩⟩:=s;rcases l with _|⟨c,l⟩
 ·go_enter Tryz.func157,Tryz.ntmps157;go_wp2;go_ret;exact⟨rfl,rfl⟩
 ·have e:rightS ⟨⟨c::l⟩⟩=(c !=0):=rfl;rw[e];clear e;go_enter Tryz.func157,Tryz.ntmps157;go_wp2;go_ret;refine⟨?_,rfl⟩;show Ending.returned (.bool ((c.toNat:Int) !=0))=_;congr 2;rw[Bool.eq_iff_iff];simp only[bne_iff_ne,ne_eq]
  rw[←UInt8.toNat_inj];simp
theorem natCmp_any (a b:ByteArray) (w:World) (ha:a.size≤1073741824) (hb:b.size≤1073741824):
  Calls Tryz.prog 212 #[.string a,.string b] w fun e w'=>e=.returned (.int .i64 (cmpI (vbs a) (vbs b)))∧Below w.heap.size w w':=by
 go_enter Tryz.func212,Tryz.ntmps212;go_wp2_with fail;refine (of_lim a _ ha).mono ?_;rintro e w1 ⟨A1,l1,c1,rfl,h1,hl1,hb1⟩;have H1:=zH h1;clear h1;go_wp2_with fail;refine (of_lim b _ hb).mono ?_;rintro e w2 ⟨A2,l2,c2,rfl,h2,hl2,hb2⟩;have H1':=zH (H1.out.below hb2);have H2:=zH h2;clear h2;go_wp2_with fail;refine (compare_any _ _ _ _ _ _ _ _ _ H1'.out H2.out).mono ?_;rintro e w3 ⟨rfl,hb3⟩;go_wp2;go_ret;exact⟨rfl,(hb1.trans (hb2.mono hb1.size)).trans (hb3.mono (Nat.le_trans hb1.size hb2.size))⟩
theorem bstep {w a b:World} (h:Below w.heap.size w a) (h':Below a.heap.size a b):Below w.heap.size w b:=h.trans (h'.mono h.size)
theorem natAdd_any (a b:ByteArray) (w:World) (ha:a.size≤1073741824) (hb:b.size≤1073741824):
  Calls Tryz.prog 215 #[.string a,.string b] w fun e w'=>e=.returned (.string (nbs (vbs a+vbs b)))∧Below w.heap.size w w':=by
 go_enter Tryz.func215,Tryz.ntmps215;go_wp2_with fail;refine (of_lim a _ ha).mono ?_;rintro e w1 ⟨A1,l1,c1,rfl,h1,hl1,hb1⟩;have H1:=zH h1;clear h1;go_wp2_with fail;refine (of_lim b _ hb).mono ?_;rintro e w2 ⟨A2,l2,c2,rfl,h2,hl2,hb2⟩;have H1':=zH (H1.out.below hb2);have H2:=zH h2;clear h2;go_wp2_with fail;refine (sum_any _ _ _ _ _ _ _ _ _ H1'.out H2.out (by omega) (by omega)).mono ?_;rintro e w3 ⟨A3,l3,c3,rfl,h3,hb3⟩;have hl3:4*l3≤max a.size b.size+1+3:=h3.len_le (add_bound (vbs_le a _ (Nat.le_max_left _ _)) (vbs_le b _ (Nat.le_max_right _ _)));have H3:=zH h3;clear h3;go_wp2_with fail;refine (number_lim _ _ _ _ _ H3.out (by omega)).mono ?_;rintro e w4 ⟨rfl,hb4⟩;go_wp2;go_ret;exact⟨rfl,bstep (bstep (bstep hb1 hb2) hb3) hb4⟩
theorem two_digits (n:Nat) (h:n<18446744073709551616):val (2 ^ 32) [n % 4294967296,n / 4294967296]=n:=by
 simp only[val];omega
theorem natOf_any (n:Int) (w:World) (h0:-9223372036854775808≤n) (h1:n≤9223372036854775807):
  Calls Tryz.prog 182 #[.int .i64 n] w fun e w'=>e=.returned (.string (nbs n.toNat))∧Below w.heap.size w w':=by
 by_cases hn:n≤0
 ·have e:n.toNat=0:=by omega
  rw[e];go_enter Tryz.func182,Tryz.ntmps182;go_wp2;go_ret;exact⟨rfl,Below.refl _ _⟩
 ·obtain⟨m,rfl⟩:=Int.eq_ofNat_of_zero_le (show 0≤n by omega);rw[Int.toNat_natCast]
  have hand:bits BinOp.and .i64 (m:Int) 4294967295=((m % 4294967296:Nat):Int):=by
   have h:=Nat.and_two_pow_sub_one_eq_mod m 32;rw[show (2:Nat) ^ 32-1=4294967295 from rfl] at h;rw[←h];have hx:m&&& 4294967295<2 ^ 63:=Nat.and_lt_two_pow _ (by omega);show IntKind.i64.wrap ((BitVec.ofInt 64 (m:Int)&&& BitVec.ofInt 64 ((4294967295:Nat):Int)).toNat:Int)=_
   have ob:∀a:Nat,a<9223372036854775808→(BitVec.ofInt 64 (a:Int)).toNat=a:=fun a ha=>by
    rw[BitVec.ofInt_natCast,BitVec.toNat_ofNat];exact Nat.mod_eq_of_lt (by omega)
   rw[BitVec.toNat_and,ob m (by omega),ob 4294967295 (by omega),IntKind.wrap_i64];omega
  obtain⟨lo,hlo⟩:=zF (m % 4294967296);obtain⟨hi,hhi⟩:=zF (m / 4294967296);have hv:=zH (two_digits m (by omega));rw[hlo,hhi] at hv;rw[hlo] at hand;have hlo1:lo<4294967296:=by omega
  have hhi1:hi<4294967296:=by omega
  have HLO:=zH hlo;have HHI:=zH hhi;have hdi:(m:Int) / 4294967296=(hi:Int):=by rw[←hhi];simp
  clear hlo hhi;go_enter Tryz.func182,Tryz.ntmps182;go_wp2_with fail;have hB:=Blk.new w 260 #[.int .u32 (lo:Int),.int .u32 (hi:Int)]
  refine (number_any _ 2 2 [lo,hi] _ rfl (by omega) (by omega) hB.rd (by
   intro x hx;simp at hx;omega)).mono ?_
  rintro e w1 ⟨rfl,hb⟩;rw[hv.out];go_wp2;go_ret;exact⟨rfl,bstep (zB _ _) hb⟩
def bitsN (n:Nat):Nat:=if n=0 then 0 else n.log2+1
theorem bitsN_eq (n L:Nat) (h1:2 ^ L≤n) (h2:n<2 ^ (L+1)):bitsN n=L+1:=by
 have h0:n≠0:=by have:=Nat.pow_pos (n:=L) (show 0<2 by omega);omega
 unfold bitsN;rw[if_neg h0];have h3:=(Nat.le_log2 h0).2 h1;have h4:=(Nat.log2_lt h0).2 h2;omega
theorem bits_limbs (xs:List Nat) (k:Nat) (hx:∀x∈xs,x<2 ^ 32) (hl:xs.length=k+1) (h0:0<xs.getD k 0):
  bitsN (val (2 ^ 32) xs)=32*k+Lib.bitLen (xs.getD k 0):=by
 have hx1:xs.getD k 0<2 ^ 32:=getD_lt_of (by omega) hx k;obtain⟨b1,b2,b3⟩:=bitLen_spec (xs.getD k 0) (by omega) (by omega)
 have e:val (2 ^ 32) xs=val (2 ^ 32) (xs.take k)+(2 ^ 32) ^ k*xs.getD k 0:=by
  rw[←val_take_getD,List.take_of_length_le (by omega)]
 have hlo:val (2 ^ 32) (xs.take k)<(2 ^ 32) ^ k:=by
  have:=val_lt (2 ^ 32) (xs.take k) (fun x hx'=>hx x (List.mem_of_mem_take hx'));rwa[List.length_take_of_le (by omega)] at this
 generalize xs.getD k 0=x at*;generalize Lib.bitLen x=L at*;have ep:(2 ^ 32) ^ k=2 ^ (32*k):=by rw[←Nat.pow_mul]
 rw[ep] at e hlo
 have:=bitsN_eq (val (2 ^ 32) xs) (32*k+(L-1)) (by
  rw[e,Nat.pow_add];have:=Nat.mul_le_mul_left (2 ^ (32*k)) b2;omega) (by
  rw[e,show 32*k+(L-1)+1=32*k+L from by omega,Nat.pow_add];have:=Nat.mul_le_mul_left (2 ^ (32*k)) (show x+1≤2 ^ L from b3);rw[Nat.mul_add] at this;omega)
 omega
theorem natBits_any (a:ByteArray) (w:World) (ha:a.size≤1073741824):
  Calls Tryz.prog 162 #[.string a] w fun e w'=>e=.returned (.int .i64 (bitsN (vbs a):Nat))∧Below w.heap.size w w':=by
 go_enter Tryz.func162,Tryz.ntmps162;go_wp2_with fail;refine (of_lim a _ ha).mono ?_;rintro e w1 ⟨A1,l1,c1,rfl,h1,hl1,hb1⟩;have hz:=h1.zero;obtain⟨le1,m1,xs,e1,r1,k1,v1⟩:=h1;rcases l1 with _|k
 ·have h0:vbs a=0:=hz.1 rfl;have H0:=zH h0;clear hz h0 e1 v1;go_wp2;go_ret;exact⟨by rw[H0.out];rfl,hb1⟩
 ·have hx0:0<xs.getD k 0:=by
   have h0:=k1.last (by intro e;subst e;simp at e1);rw[List.getLast_eq_getElem] at h0;rw[getD_lt (by omega)];simp only[e1] at h0;have:xs[k]'(by omega)≠0:=h0;omega
  have HB:=zH (bits_limbs xs k k1.lt e1 hx0);have hx1:xs.getD k 0<4294967296:=getD_lt_of (by omega) k1.lt k;obtain⟨b,off,rfl,hbb,hcell⟩:=r1.u (k:=k) (by omega);rw[v1] at HB;have hbl:=bitLen_spec (xs.getD k 0) (by omega) (by omega);generalize xs.getD k 0=x at*
  have hL:Lib.bitLen x≤32:=by
   rcases Nat.lt_or_ge 32 (Lib.bitLen x) with h|h
   ·have:=Nat.pow_le_pow_right (n:=2) (by omega) (show 32≤Lib.bitLen x-1 by omega);omega
   ·exact h
  have R1:=zH r1;clear hz e1 v1 r1 k1 hbl;unfold maxLen at m1;go_wp2_with fail;refine (Tryz.bits_Len32 _ _ (by omega) (by omega)).mono ?_;rintro e w' ⟨rfl,rfl⟩;rw[show ((x:Int)).toNat=x from by simp];go_wp2;go_ret;exact⟨by rw[HB.out];simp,hb1⟩
def RetQuo (a b:Nat) (w:World) (e:Ending) (w':World):Prop:=
 e=.returned (.tuple #[.string (if b=0 then nbs 0 else nbs (a / b)),.string (if b=0 then nbs 0 else nbs (a % b)),.bool (b !=0)])∧Below w.heap.size w w'
theorem natQuo_any (a b:ByteArray) (w:World) (ha:a.size≤536870912) (hb:b.size≤536870912):
  Calls Tryz.prog 214 #[.string a,.string b] w (RetQuo (vbs a) (vbs b) w):=by
 go_enter Tryz.func214,Tryz.ntmps214;go_wp2_with fail;refine (of_lim b _ (by omega)).mono ?_;rintro e w1 ⟨A1,l1,c1,rfl,h1,hl1,hb1⟩;have H1:=zH h1;have hz:=h1.zero;clear h1;have hnv:vbs a<256 ^ a.size:=vbs_lt a;generalize vbs b=m at*;by_cases h0:l1=0
 ·have hm:m=0:=hz.1 h0;subst h0 hm;clear hz hnv;go_wp2;refine bodyPost_ret (results_tmp3 rfl _ _ _) rfl ?_;exact⟨rfl,hb1⟩
 ·have hm:0<m:=by
   rcases Nat.eq_zero_or_pos m with h|h
   ·exact absurd (hz.2 h) h0
   ·exact h
  have HNV:=zH hnv;clear hz hnv;go_wp2_with fail;refine (of_lim a _ (by omega)).mono ?_;rintro e w2 ⟨A2,l2,c2,rfl,h2,hl2,hb2⟩;have H1':=zH (H1.out.below hb2);have H2:=zH h2;clear h2;go_wp2_with fail;refine (divide_any _ _ _ _ _ _ _ _ _ H2.out H1'.out hm (by omega)).mono ?_;rintro e w3 ⟨A3,l3,c3,A4,l4,c4,rfl,h3,h4,hb3⟩;have hl3:=h3.len_le (Nat.lt_of_le_of_lt (Nat.div_le_self _ _) HNV.out);have hl4:=h4.len_le (Nat.lt_of_le_of_lt (Nat.mod_le _ _) HNV.out);have H3:=zH h3;have H4:=zH h4;clear h3 h4;go_wp2_with fail;refine (number_lim _ _ _ _ _ H3.out (by omega)).mono ?_;rintro e w4 ⟨rfl,hb4⟩;go_wp2_with fail;refine (number_lim _ _ _ _ _ (H4.out.below hb4) (by omega)).mono ?_;rintro e w5 ⟨rfl,hb5⟩;go_wp2;refine bodyPost_ret (results_tmp3 rfl _ _ _) rfl ?_;refine⟨?_,bstep (bstep (bstep (bstep hb1 hb2) hb3) hb4) hb5⟩;have hm':m≠0:=by omega
  simp[hm']
theorem mul_bound2 {a b n m:Nat} (ha:n<256 ^ a) (hb:m<256 ^ b):n*m<256 ^ (a+b):=by
 rw[Nat.pow_add];rcases Nat.eq_zero_or_pos m with h|h
 ·subst h;rw[Nat.mul_zero];exact Nat.mul_pos (Nat.pow_pos (by omega)) (Nat.pow_pos (by omega))
 ·exact Nat.lt_of_lt_of_le (Nat.mul_lt_mul_of_pos_right ha h) (Nat.mul_le_mul_left _ (Nat.le_of_lt hb))
theorem natMul_any (a b:ByteArray) (w:World) (ha:a.size≤536870912) (hb:b.size≤536870912):
  Calls Tryz.prog 220 #[.string a,.string b] w fun e w'=>e=.returned (.string (nbs (vbs a*vbs b)))∧Below w.heap.size w w':=by
 go_enter Tryz.func220,Tryz.ntmps220;go_wp2_with fail;refine (of_lim a _ (by omega)).mono ?_;rintro e w1 ⟨A1,l1,c1,rfl,h1,hl1,hb1⟩;have H1:=zH h1;clear h1;go_wp2_with fail;refine (of_lim b _ (by omega)).mono ?_;rintro e w2 ⟨A2,l2,c2,rfl,h2,hl2,hb2⟩;have H1':=zH (H1.out.below hb2);have H2:=zH h2;clear h2;go_wp2_with fail;refine (product_any _ _ _ _ _ _ _ _ _ H1'.out H2.out (by omega) (by omega)).mono ?_;rintro e w3 ⟨A3,l3,c3,rfl,h3,hb3⟩;have hl3:4*l3≤(a.size+b.size)+3:=h3.len_le (mul_bound2 (vbs_lt a) (vbs_lt b));have H3:=zH h3;clear h3;go_wp2_with fail;refine (number_lim _ _ _ _ _ H3.out (by omega)).mono ?_;rintro e w4 ⟨rfl,hb4⟩;go_wp2;go_ret;exact⟨rfl,bstep (bstep (bstep hb1 hb2) hb3) hb4⟩
theorem sub_words2 (u c y:Nat) (hu:u<4294967296) (hc:c≤1) (hy:y<4294967296):
  ∃E D:Nat,IntKind.u64.wrap ((u:Int)-c)=E∧IntKind.u64.wrap ((E:Int)-y)=D∧E<18446744073709551616∧D<18446744073709551616∧
   c+D % 4294967296+y=u+(D / 9223372036854775808)*4294967296∧D / 9223372036854775808≤1:=by
 rcases Nat.lt_or_ge u c with h|h
 ·refine⟨u+18446744073709551616-c,u+18446744073709551616-c-y,?_,?_,by omega,by omega,by omega,by omega⟩
  ·rw[IntKind.wrap_u64];omega
  ·rw[IntKind.wrap_u64];omega
 ·rcases Nat.lt_or_ge (u-c) y with h2|h2
  ·refine⟨u-c,u-c+18446744073709551616-y,?_,?_,by omega,by omega,by omega,by omega⟩
   ·rw[IntKind.wrap_u64];omega
   ·rw[IntKind.wrap_u64];omega
  ·refine⟨u-c,u-c-y,?_,?_,by omega,by omega,by omega,by omega⟩
   ·rw[IntKind.wrap_u64];omega
   ·rw[IntKind.wrap_u64];omega
theorem minus_step (B k:Nat) (xs ys os:List Nat) (c z c':Nat) (hk:os.length=k) (h:val B (xs.take k)+c*B ^ k=val B os+val B (ys.take k)) (e:c+z+ys.getD k 0=xs.getD k 0+c'*B):
  val B (xs.take (k+1))+c'*B ^ (k+1)=val B (os++[z])+val B (ys.take (k+1)):=by
 rw[val_snoc,hk,val_take_getD,val_take_getD,Nat.pow_succ];generalize xs.getD k 0=x at*;generalize ys.getD k 0=y at*
 grind
theorem less_any (A A':Option Addr) (len cap len' cap' n m:Nat) (w:World) (h1:Lim w A len cap n) (h2:Lim w A' len' cap' m) (hmn:m≤n) (hb:len≤1073741824):
  Calls Tryz.prog 295 #[.slice A len cap,.slice A' len' cap'] w (RetLim w (n-m)):=by
 obtain⟨l1,m1,xs,e1,r1,c1,v1⟩:=h1;obtain⟨l2,m2,ys,e2,r2,c2,v2⟩:=h2;unfold maxLen at m1 m2
 have hll:len'≤len:=by
  rcases Nat.lt_or_ge len len' with h|h
  ·have:=c1.len_lt (by omega) c2 (by omega);omega
  ·exact h
 have E1:=zH e1;have E2:=zH e2;have V1:=zH v1;have V2:=zH v2;have C1:=zH c1;have C2:=zH c2;have R1:=zH r1;have R2:=zH r2;clear e1 e2 v1 v2 c1 c2 r1 r2;go_enter Tryz.func295,Tryz.ntmps295;go_wp2_with (at_make;refine wpList_make_blk _ rfl _ _ 257 rfl 260 (.int .u32 0) 4 Tryz.underlying257 info_u32 rfl _ _ _ _ len rfl rfl ?_ ?_ (by omega) (by omega) ?_)
 ·omega
 ·omega
 intro w1 hblk hb1;obtain⟨G,HG⟩:∃G,Hid (G=w.heap.size):=⟨_,rfl⟩
 rw[←HG.out] at hblk hb1⊢;have HB:=zH hblk;clear hblk;go_wp2
 go_loopw [14,6] (fun i cv wr=>∃(k c:Nat) (os:List Nat),k≤len∧c≤1∧i=.int .i64 k∧cv=.int .u64 c∧Hid (os.length=k)∧Blk wr G 260 (U (os++List.replicate (len-k) 0))∧Hid (∀x∈os,x<2 ^ 32)∧
   Hid (val (2 ^ 32) (xs.take k)+c*(2 ^ 32) ^ k=val (2 ^ 32) os+val (2 ^ 32) (ys.take k))∧Below G w wr) (fun i _ _=>len-(intOf i).toNat)
 case atStart=>exact⟨0,0,[],by omega,by omega,rfl,rfl,rfl,by have:=HB.out;simpa [U] using this,by show ∀x∈_,_;simp,by show _=_;simp[val],hb1⟩
 case round=>
  obtain⟨k,c,os,hk,hc1,rfl,rfl,ho,hbk,hod,hv,hbw⟩:=hrel;by_cases hlt:k<len
  ·have hr1:Rd wr A (U xs):=R1.out.below (by rw[←HG.out];exact hbw);obtain⟨b,off,rfl,hbb,hcell⟩:=hr1.u (k:=k) (by rw[E1.out];omega);have hfz:=hbk.frozen k;obtain⟨u,hu⟩:∃u,wr.cell? ⟨G,k,none⟩=some u:=⟨_,hbk.cell (by simp[U_length,ho.out];omega)⟩
   have HS:=zH (fun z c' e=>minus_step (2 ^ 32) k xs ys os c z c' ho.out hv.out e);have x0:xs.getD k 0<4294967296:=getD_lt_of (by omega) C1.out.lt k;have y0:ys.getD k 0<4294967296:=getD_lt_of (by omega) C2.out.lt k;by_cases hk2:k<len'
   ·have hr2:Rd wr A' (U ys):=R2.out.below (by rw[←HG.out];exact hbw);obtain⟨b',off',rfl,hbb',hcell'⟩:=hr2.u (k:=k) (by rw[E2.out];omega);generalize xs.getD k 0=x at*;generalize ys.getD k 0=y at*;obtain⟨E,D,hE,hD,hE0,hD0,hq,hd1⟩:=sub_words2 x c y x0 hc1 y0;have HQ:=zH hq;clear hq hr1 hr2;go_wp2
    go_roundw
    case rel=>
     refine⟨k+1,D / 9223372036854775808,os++[D % 2 ^ 32],by omega,hd1,by go_num,by first|rfl|(congr 1<;>omega),by show _=_;simp[ho.out],?_,snoc_lt hod.out (Nat.mod_lt _ (by omega)),HS.out _ _ HQ.out,hbw.setCell (Nat.le_refl _) _⟩;rw[←U_fill os len k _ ho.out (by omega)];have e:Value.int .u32 ((D % 2 ^ 32:Nat):Int)=.int .u32 ((D:Int) % 4294967296):=by congr 1<;>omega
     rw[e];exact hbk.set k _
    case measure=>simp[intOf]<;>omega
   ·have hy:ys.getD k 0=0:=by rw[List.getD_eq_getElem?_getD,List.getElem?_eq_none (by rw[E2.out];omega)];rfl
    rw[hy] at HS;clear y0 hy;generalize xs.getD k 0=x at*;obtain⟨E,D,hE,hD,hE0,hD0,hq,hd1⟩:=sub_words2 x c 0 x0 hc1 (by omega)
    obtain rfl:D=E:=by
     have h:=IntKind.wrap_u64 ((E:Int)-(0:Nat));rw[hD] at h;omega
    have HQ:=zH hq;clear hq hr1 hD;go_wp2
    go_roundw
    case rel=>
     refine⟨k+1,D / 9223372036854775808,os++[D % 2 ^ 32],by omega,hd1,by go_num,by first|rfl|(congr 1<;>omega),by show _=_;simp[ho.out],?_,snoc_lt hod.out (Nat.mod_lt _ (by omega)),HS.out _ _ HQ.out,hbw.setCell (Nat.le_refl _) _⟩;rw[←U_fill os len k _ ho.out (by omega)];have e:Value.int .u32 ((D % 2 ^ 32:Nat):Int)=.int .u32 ((D:Int) % 4294967296):=by congr 1<;>omega
     rw[e];exact hbk.set k _
    case measure=>simp[intOf]<;>omega
  ·obtain rfl:k=len:=by omega
   have HK2:=zH hbk;clear hbk;go_wp2_with fail;have hl:(os++List.replicate (k-k) 0).length=k:=by simp[ho.out]
   have hd:∀x∈os++List.replicate (k-k) 0,x<2 ^ 32:=by
    rw[Nat.sub_self,List.replicate_zero,List.append_nil];exact hod.out
   refine (trim_any _ _ _ _ _ hl (Nat.le_refl _) (by unfold maxLen;omega) HK2.out.rd).mono ?_;rintro e w2 ⟨rfl,rfl⟩;go_wp2;go_ret;refine⟨_,_,_,rfl,?_,by rw[←HG.out];exact hbw⟩;have:=Lim.of_trim hl (Nat.le_refl _) (by unfold maxLen;omega) HK2.out.rd hd;have hv2:=hv.out;rw[←E1.out,List.take_length,List.take_of_length_le (by rw[E1.out,E2.out];exact hll),V1.out,V2.out,E1.out] at hv2;have hvl:val (2 ^ 32) os<(2 ^ 32) ^ k:=by rw[←ho.out];exact val_lt (2 ^ 32) os hod.out
   have hc0:c=0:=by
    rcases Nat.eq_zero_or_pos c with h|h
    ·exact h
    ·obtain rfl:c=1:=by omega
     rw[Nat.one_mul] at hv2;omega
   subst hc0;rw[Nat.zero_mul,Nat.add_zero] at hv2;rw[Nat.sub_self,List.replicate_zero,List.append_nil] at this;rw[show n-m=val (2 ^ 32) os by omega];exact this
theorem natSub_ge (a b:ByteArray) (w:World) (ha:a.size≤1073741824) (hb:b.size≤1073741824) (hmn:vbs b≤vbs a):
  Calls Tryz.prog 252 #[.string a,.string b] w fun e w'=>e=.returned (.tuple #[.string (nbs (vbs a-vbs b)),.bool true])∧Below w.heap.size w w':=by
 have HV:=zH (vbs_lt a);have HM:=zH hmn;have HC:¬(cmpI (vbs a) (vbs b)<0):=by unfold cmpI;rw[if_neg (by omega)];split<;>omega
 clear hmn;go_enter Tryz.func252,Tryz.ntmps252;go_wp2_with fail;refine (of_lim a _ ha).mono ?_;rintro e w1 ⟨A1,l1,c1,rfl,h1,hl1,hb1⟩;have H1:=zH h1;clear h1;go_wp2_with fail;refine (of_lim b _ hb).mono ?_;rintro e w2 ⟨A2,l2,c2,rfl,h2,hl2,hb2⟩;have H1':=zH (H1.out.below hb2);have H2:=zH h2;clear h2;go_wp2_with fail;refine (compare_any _ _ _ _ _ _ _ _ _ H1'.out H2.out).mono ?_;rintro e w3 ⟨rfl,hb3⟩;have H1'':=zH (H1'.out.below hb3);have H2':=zH (H2.out.below hb3);generalize cmpI (vbs a) (vbs b)=cq at*;go_wp2_with fail;refine (less_any _ _ _ _ _ _ _ _ _ H1''.out H2'.out HM.out (by omega)).mono ?_;rintro e w4 ⟨A4,l4,c4,rfl,h4,hb4⟩;have hl4:4*l4≤a.size+3:=h4.len_le (Nat.lt_of_le_of_lt (Nat.sub_le _ _) HV.out);have H4:=zH h4;clear h4;go_wp2_with fail;refine (number_lim _ _ _ _ _ H4.out (by omega)).mono ?_;rintro e w5 ⟨rfl,hb5⟩;go_wp2;refine bodyPost_ret (v:=.tuple #[.string (nbs (vbs a-vbs b)),.bool true]) (by simp[results,Tryz.results252,go_sem]) rfl ?_;exact⟨rfl,bstep (bstep (bstep (bstep hb1 hb2) hb3) hb4) hb5⟩
theorem natSub_lt (a b:ByteArray) (w:World) (ha:a.size≤1073741824) (hb:b.size≤1073741824) (hmn:vbs a<vbs b):
  Calls Tryz.prog 252 #[.string a,.string b] w fun e w'=>e=.returned (.tuple #[.string ⟨#[]⟩,.bool false])∧Below w.heap.size w w':=by
 have HC:cmpI (vbs a) (vbs b)<0:=by unfold cmpI;rw[if_pos hmn];omega
 clear hmn;go_enter Tryz.func252,Tryz.ntmps252;go_wp2_with fail;refine (of_lim a _ ha).mono ?_;rintro e w1 ⟨A1,l1,c1,rfl,h1,hl1,hb1⟩;have H1:=zH h1;clear h1;go_wp2_with fail;refine (of_lim b _ hb).mono ?_;rintro e w2 ⟨A2,l2,c2,rfl,h2,hl2,hb2⟩;have H1':=zH (H1.out.below hb2);have H2:=zH h2;clear h2;go_wp2_with fail;refine (compare_any _ _ _ _ _ _ _ _ _ H1'.out H2.out).mono ?_;rintro e w3 ⟨rfl,hb3⟩;generalize cmpI (vbs a) (vbs b)=cq at*;go_wp2;refine bodyPost_ret (v:=.tuple #[.string ⟨#[]⟩,.bool false]) (by simp[results,Tryz.results252,go_sem]) rfl ?_;exact⟨rfl,bstep (bstep hb1 hb2) hb3⟩
end Go.Proofs.YtkgiaegmkncljaaGreatDoor
