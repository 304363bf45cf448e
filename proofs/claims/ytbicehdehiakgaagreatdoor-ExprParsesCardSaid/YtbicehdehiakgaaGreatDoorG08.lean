/- A part of the proof: Nat. -/
import Derived.Test.YtbicehdehiakgaaGreatDoorG07
set_option linter.unusedVariables false
set_option linter.unusedSimpArgs false
namespace Go.Proofs.YtbicehdehiakgaaGreatDoor
open Go.RowKit
theorem number_lim (A:Option Addr) (len cap n:Nat) (w:World) (h:Lim w A len cap n) (hl:len≤1099511627776):
  Calls Tryz.prog 142 #[.slice A len cap] w fun e w'=>e=.returned (.string (nbs n))∧Below w.heap.size w w':=by
 obtain⟨l,m,xs,e,r,c,v⟩:=h;rw[←v];exact number_any A len cap xs w e l hl r c.lt
theorem vbs_le (s:ByteArray) (K:Nat) (h:s.size≤K):vbs s<256 ^ K:=Nat.lt_of_lt_of_le (vbs_lt s) (Nat.pow_le_pow_right (by omega) h)
theorem of_lim (s:ByteArray) (w:World) (hs:s.size≤1073741824):
  Calls Tryz.prog 144 #[.string s] w fun e w'=>∃A len cap,e=.returned (.slice A len cap)∧Lim w' A len cap (vbs s)∧4*len≤s.size+3∧Below w.heap.size w w':=
 (of_any s w (by omega)).mono fun e w' ⟨A,len,cap,h1,h2,h3⟩=>⟨A,len,cap,h1,h2,h2.len_le (vbs_lt s),h3⟩
theorem add_bound {n m K:Nat} (h1:n<256 ^ K) (h2:m<256 ^ K):n+m<256 ^ (K+1):=by
 rw[Nat.pow_succ];omega
def rightS (s:ByteArray):Bool:=match s.data.toList with|[]=>true|c::_=>c !=0
set_option maxHeartbeats 400000 in
theorem natRight_any (s:ByteArray) (w:World):
  Calls Tryz.prog 146 #[.string s] w fun e w'=>e=.returned (.bool (rightS s))∧w=w':=by
 obtain⟨⟨l⟩⟩:=s;rcases l with _|⟨c,l⟩
 ·go_enter Tryz.func146,Tryz.ntmps146;go_wp2;go_ret;exact⟨rfl,rfl⟩
 ·have e:rightS ⟨⟨c::l⟩⟩=(c !=0):=rfl;rw[e];clear e;go_enter Tryz.func146,Tryz.ntmps146;go_wp2;go_ret;refine⟨?_,rfl⟩;show Ending.returned (.bool ((c.toNat:Int) !=0))=_;congr 2;rw[Bool.eq_iff_iff];simp only[bne_iff_ne,ne_eq]
  rw[←UInt8.toNat_inj];simp
set_option maxHeartbeats 400000 in
theorem natCmp_any (a b:ByteArray) (w:World) (ha:a.size≤1073741824) (hb:b.size≤1073741824):
  Calls Tryz.prog 170 #[.string a,.string b] w fun e w'=>e=.returned (.int .i64 (cmpI (vbs a) (vbs b)))∧Below w.heap.size w w':=by
 go_enter Tryz.func170,Tryz.ntmps170;go_wp2_with fail;refine (of_lim a _ ha).mono ?_;rintro e w1 ⟨A1,l1,c1,rfl,h1,hl1,hb1⟩;have H1:=Lib.hid h1;clear h1;go_wp2_with fail;refine (of_lim b _ hb).mono ?_;rintro e w2 ⟨A2,l2,c2,rfl,h2,hl2,hb2⟩;have H1':=Lib.hid (H1.out.below hb2);have H2:=Lib.hid h2;clear h2;go_wp2_with fail;refine (compare_any _ _ _ _ _ _ _ _ _ H1'.out H2.out).mono ?_;rintro e w3 ⟨rfl,hb3⟩;go_wp2;go_ret;exact⟨rfl,(hb1.trans (hb2.mono hb1.size)).trans (hb3.mono (Nat.le_trans hb1.size hb2.size))⟩
theorem bstep {w a b:World} (h:Below w.heap.size w a) (h':Below a.heap.size a b):Below w.heap.size w b:=h.trans (h'.mono h.size)
set_option maxHeartbeats 400000 in
theorem natAdd_any (a b:ByteArray) (w:World) (ha:a.size≤1073741824) (hb:b.size≤1073741824):
  Calls Tryz.prog 110 #[.string a,.string b] w fun e w'=>e=.returned (.string (nbs (vbs a+vbs b)))∧Below w.heap.size w w':=by
 go_enter Tryz.func110,Tryz.ntmps110;go_wp2_with fail;refine (of_lim a _ ha).mono ?_;rintro e w1 ⟨A1,l1,c1,rfl,h1,hl1,hb1⟩;have H1:=Lib.hid h1;clear h1;go_wp2_with fail;refine (of_lim b _ hb).mono ?_;rintro e w2 ⟨A2,l2,c2,rfl,h2,hl2,hb2⟩;have H1':=Lib.hid (H1.out.below hb2);have H2:=Lib.hid h2;clear h2;go_wp2_with fail;refine (sum_any _ _ _ _ _ _ _ _ _ H1'.out H2.out (by omega) (by omega)).mono ?_;rintro e w3 ⟨A3,l3,c3,rfl,h3,hb3⟩;have hl3:4*l3≤max a.size b.size+1+3:=h3.len_le (add_bound (vbs_le a _ (Nat.le_max_left _ _)) (vbs_le b _ (Nat.le_max_right _ _)));have H3:=Lib.hid h3;clear h3;go_wp2_with fail;refine (number_lim _ _ _ _ _ H3.out (by omega)).mono ?_;rintro e w4 ⟨rfl,hb4⟩;go_wp2;go_ret;exact⟨rfl,bstep (bstep (bstep hb1 hb2) hb3) hb4⟩
theorem two_digits (n:Nat) (h:n<18446744073709551616):val (2 ^ 32) [n % 4294967296,n / 4294967296]=n:=by
 simp only[val];omega
set_option maxHeartbeats 400000 in
theorem natOf_any (n:Int) (w:World) (h0:-9223372036854775808≤n) (h1:n≤9223372036854775807):
  Calls Tryz.prog 111 #[.int .i64 n] w fun e w'=>e=.returned (.string (nbs n.toNat))∧Below w.heap.size w w':=by
 by_cases hn:n≤0
 ·have e:n.toNat=0:=by omega
  rw[e];go_enter Tryz.func111,Tryz.ntmps111;go_wp2;go_ret;exact⟨rfl,Below.refl _ _⟩
 ·obtain⟨m,rfl⟩:=Int.eq_ofNat_of_zero_le (show 0≤n by omega);rw[Int.toNat_natCast]
  have hand:bits BinOp.and .i64 (m:Int) 4294967295=((m % 4294967296:Nat):Int):=by
   have h:=Nat.and_two_pow_sub_one_eq_mod m 32;rw[show (2:Nat) ^ 32-1=4294967295 from rfl] at h;rw[←h];have hx:m&&& 4294967295<2 ^ 63:=Nat.and_lt_two_pow _ (by omega);show IntKind.i64.wrap ((BitVec.ofInt 64 (m:Int)&&& BitVec.ofInt 64 ((4294967295:Nat):Int)).toNat:Int)=_
   have ob:∀a:Nat,a<9223372036854775808→(BitVec.ofInt 64 (a:Int)).toNat=a:=fun a ha=>by
    rw[BitVec.ofInt_natCast,BitVec.toNat_ofNat];exact Nat.mod_eq_of_lt (by omega)
   rw[BitVec.toNat_and,ob m (by omega),ob 4294967295 (by omega),IntKind.wrap_i64];omega
  obtain⟨lo,hlo⟩:∃lo,m % 4294967296=lo:=⟨_,rfl⟩
  obtain⟨hi,hhi⟩:∃hi,m / 4294967296=hi:=⟨_,rfl⟩
  have hv:=Lib.hid (two_digits m (by omega));rw[hlo,hhi] at hv;rw[hlo] at hand;have hlo1:lo<4294967296:=by omega
  have hhi1:hi<4294967296:=by omega
  have HLO:=Lib.hid hlo;have HHI:=Lib.hid hhi;have hdi:(m:Int) / 4294967296=(hi:Int):=by rw[←hhi];simp
  clear hlo hhi;go_enter Tryz.func111,Tryz.ntmps111;go_wp2_with fail;have hB:=Blk.new w 156 #[.int .u32 (lo:Int),.int .u32 (hi:Int)]
  refine (number_any _ 2 2 [lo,hi] _ rfl (by omega) (by omega) hB.rd (by
   intro x hx;simp at hx;omega)).mono ?_
  rintro e w1 ⟨rfl,hb⟩;rw[hv.out];go_wp2;go_ret;exact⟨rfl,bstep ((Below.refl _ _).alloc (Nat.le_refl _) _) hb⟩
def bitsN (n:Nat):Nat:=if n=0 then 0 else n.log2+1
theorem bitsN_eq (n L:Nat) (h1:2 ^ L≤n) (h2:n<2 ^ (L+1)):bitsN n=L+1:=by
 have h0:n≠0:=by have:=Nat.pow_pos (n:=L) (show 0<2 by omega);omega
 unfold bitsN;rw[if_neg h0];have h3:=(Nat.le_log2 h0).2 h1;have h4:=(Nat.log2_lt h0).2 h2;omega
theorem bits_limbs (xs:List Nat) (k:Nat) (hx:∀x∈xs,x<2 ^ 32) (hl:xs.length=k+1) (h0:0<xs.getD k 0):
  bitsN (val (2 ^ 32) xs)=32*k+Lib.bitLen (xs.getD k 0):=by
 have hx1:xs.getD k 0<2 ^ 32:=getD_lt_of (by omega) hx k;obtain⟨b1,b2,b3⟩:=bitLen_spec (xs.getD k 0) (by omega) (by omega)
 have e:val (2 ^ 32) xs=val (2 ^ 32) (xs.take k)+(2 ^ 32) ^ k*xs.getD k 0:=by
  rw[←val_take_getD,List.take_of_length_le (by omega)]
 have hlo:val (2 ^ 32) (xs.take k)<(2 ^ 32) ^ k:=by
  have:=val_lt (2 ^ 32) (xs.take k) (fun x hx'=>hx x (List.mem_of_mem_take hx'));rwa[List.length_take_of_le (by omega)] at this
 generalize xs.getD k 0=x at*;generalize Lib.bitLen x=L at*;have ep:(2 ^ 32) ^ k=2 ^ (32*k):=by rw[←Nat.pow_mul]
 rw[ep] at e hlo
 have:=bitsN_eq (val (2 ^ 32) xs) (32*k+(L-1)) (by
  rw[e,Nat.pow_add];have:=Nat.mul_le_mul_left (2 ^ (32*k)) b2;omega) (by
  rw[e,show 32*k+(L-1)+1=32*k+L from by omega,Nat.pow_add];have:=Nat.mul_le_mul_left (2 ^ (32*k)) (show x+1≤2 ^ L from b3);rw[Nat.mul_add] at this;omega)
 omega
set_option maxHeartbeats 400000 in
theorem natBits_any (a:ByteArray) (w:World) (ha:a.size≤1073741824):
  Calls Tryz.prog 113 #[.string a] w fun e w'=>e=.returned (.int .i64 (bitsN (vbs a):Nat))∧Below w.heap.size w w':=by
 go_enter Tryz.func113,Tryz.ntmps113;go_wp2_with fail;refine (of_lim a _ ha).mono ?_;rintro e w1 ⟨A1,l1,c1,rfl,h1,hl1,hb1⟩;have hz:=h1.zero;obtain⟨le1,m1,xs,e1,r1,k1,v1⟩:=h1;rcases l1 with _|k
 ·have h0:vbs a=0:=hz.1 rfl;have H0:=Lib.hid h0;clear hz h0 e1 v1;go_wp2;go_ret;exact⟨by rw[H0.out];rfl,hb1⟩
 ·have hx0:0<xs.getD k 0:=by
   have h0:=k1.last (by intro e;subst e;simp at e1);rw[List.getLast_eq_getElem] at h0;rw[getD_lt (by omega)];simp only[e1] at h0;have:xs[k]'(by omega)≠0:=h0;omega
  have HB:=Lib.hid (bits_limbs xs k k1.lt e1 hx0);have hx1:xs.getD k 0<4294967296:=getD_lt_of (by omega) k1.lt k;obtain⟨b,off,rfl,hbb,hcell⟩:=r1.u (k:=k) (by omega);rw[v1] at HB;have hbl:=bitLen_spec (xs.getD k 0) (by omega) (by omega);generalize xs.getD k 0=x at*
  have hL:Lib.bitLen x≤32:=by
   rcases Nat.lt_or_ge 32 (Lib.bitLen x) with h|h
   ·have:=Nat.pow_le_pow_right (n:=2) (by omega) (show 32≤Lib.bitLen x-1 by omega);omega
   ·exact h
  have R1:=Lib.hid r1;clear hz e1 v1 r1 k1 hbl;unfold maxLen at m1;go_wp2_with fail;refine (Tryz.bits_Len32 _ _ (by omega) (by omega)).mono ?_;rintro e w' ⟨rfl,rfl⟩;rw[show ((x:Int)).toNat=x from by simp];go_wp2;go_ret;exact⟨by rw[HB.out];simp,hb1⟩
def RetQuo (a b:Nat) (w:World) (e:Ending) (w':World):Prop:=
 e=.returned (.tuple #[.string (if b=0 then nbs 0 else nbs (a / b)),.string (if b=0 then nbs 0 else nbs (a % b)),.bool (b !=0)])∧Below w.heap.size w w'
set_option maxHeartbeats 800000 in
theorem natQuo_any (a b:ByteArray) (w:World) (ha:a.size≤536870912) (hb:b.size≤536870912):
  Calls Tryz.prog 172 #[.string a,.string b] w (RetQuo (vbs a) (vbs b) w):=by
 go_enter Tryz.func172,Tryz.ntmps172;go_wp2_with fail;refine (of_lim b _ (by omega)).mono ?_;rintro e w1 ⟨A1,l1,c1,rfl,h1,hl1,hb1⟩;have H1:=Lib.hid h1;have hz:=h1.zero;clear h1;have hnv:vbs a<256 ^ a.size:=vbs_lt a;generalize vbs b=m at*;by_cases h0:l1=0
 ·have hm:m=0:=hz.1 h0;subst h0 hm;clear hz hnv;go_wp2;refine bodyPost_ret (results_tmp3 rfl _ _ _) rfl ?_;exact⟨rfl,hb1⟩
 ·have hm:0<m:=by
   rcases Nat.eq_zero_or_pos m with h|h
   ·exact absurd (hz.2 h) h0
   ·exact h
  have HNV:=Lib.hid hnv;clear hz hnv;go_wp2_with fail;refine (of_lim a _ (by omega)).mono ?_;rintro e w2 ⟨A2,l2,c2,rfl,h2,hl2,hb2⟩;have H1':=Lib.hid (H1.out.below hb2);have H2:=Lib.hid h2;clear h2;go_wp2_with fail;refine (divide_any _ _ _ _ _ _ _ _ _ H2.out H1'.out hm (by omega)).mono ?_;rintro e w3 ⟨A3,l3,c3,A4,l4,c4,rfl,h3,h4,hb3⟩;have hl3:=h3.len_le (Nat.lt_of_le_of_lt (Nat.div_le_self _ _) HNV.out);have hl4:=h4.len_le (Nat.lt_of_le_of_lt (Nat.mod_le _ _) HNV.out);have H3:=Lib.hid h3;have H4:=Lib.hid h4;clear h3 h4;go_wp2_with fail;refine (number_lim _ _ _ _ _ H3.out (by omega)).mono ?_;rintro e w4 ⟨rfl,hb4⟩;go_wp2_with fail;refine (number_lim _ _ _ _ _ (H4.out.below hb4) (by omega)).mono ?_;rintro e w5 ⟨rfl,hb5⟩;go_wp2;refine bodyPost_ret (results_tmp3 rfl _ _ _) rfl ?_;refine⟨?_,bstep (bstep (bstep (bstep hb1 hb2) hb3) hb4) hb5⟩;have hm':m≠0:=by omega
  simp[hm']
end Go.Proofs.YtbicehdehiakgaaGreatDoor
