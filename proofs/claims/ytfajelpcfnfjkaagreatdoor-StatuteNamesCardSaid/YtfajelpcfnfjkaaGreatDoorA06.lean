/- A part of the proof: R4. -/
import Derived.Lib.BufferRead
import Derived.Test.YtfajelpcfnfjkaaGreatDoorA05
set_option linter.unusedVariables false
set_option linter.unusedSimpArgs false
namespace Go.Proofs.YtfajelpcfnfjkaaGreatDoor
open Go.RowKit
theorem be_one_step (i n:Nat) (hi:i<8):be (8-i) (n / 256 ^ i)=be (8-(i+1)) (n / 256 ^ (i+1))++[UInt8.ofNat (n / 256 ^ i % 256)]:=by
 rw[show 8-i=(8-(i+1))+1 from by omega,be_append,Nat.div_div_eq_div_mul,←Nat.pow_add];simp[be]
set_option maxRecDepth 100000 in
set_option maxHeartbeats 1600000 in
theorem rOf_any (n:Int) (w:World) (h0:-9223372036854775808≤n) (h1:n≤9223372036854775807):
  Calls Tryz.prog 20 #[.int .i64 n] w fun e w'=>e=.returned (.string (nbs n.toNat))∧Below w.heap.size w w':=by
 obtain⟨B,hB⟩:∃B,B=w.heap.size:=⟨_,rfl⟩
 have HB:=Lib.hid hB;have hBw:B≤w.heap.size:=by omega
 clear hB;by_cases hn:n≤0
 ·have e:n.toNat=0:=by omega
  rw[e];go_enter Tryz.func20,Tryz.ntmps20;go_wp2_with fail
  go_loopw [4,3] (fun kv ov wr=>kv=.int .i64 56∧ov=.slice none 0 0∧wr=w) (fun _ _ _=>0)
  case atStart=>exact⟨rfl,rfl,rfl⟩
  case round=>
   obtain⟨rfl,rfl,rfl⟩:=hrel;have hconv:=Lib.run_convert_nil_bytes (P:=Tryz.prog) wr 64 44 5 0 Tryz.underlying64 Tryz.underlying5 Tryz.underlying44;go_wp2_with fail;refine (rCanon_any ⟨#[]⟩ _ (by show (0:Nat)≤1099511627776;omega)).mono ?_;rintro e w' ⟨rfl,rfl⟩;go_wp2;go_ret;exact⟨rfl,Below.refl _ _⟩
 ·obtain⟨m,rfl⟩:=Int.eq_ofNat_of_zero_le (show 0≤n by omega);rw[Int.toNat_natCast];have hm:0<m:=by omega
  go_enter Tryz.func20,Tryz.ntmps20;go_wp2_with fail
  go_loopw [4,3] (fun kv ov wr=>∃j:Nat,j≤8∧kv=.int .i64 (8*(j:Int)-8)∧Hid (wr.ownsRow B 5 1 ov (8-j) (U8 (be (8-j) (m / 256 ^ j))))∧Below B w wr∧B≤wr.heap.size) (fun k _ _=>(intOf k+8).toNat)
  case atStart=>
   refine⟨8,by omega,by go_num,?_,Below.refl _ _,hBw⟩;exact World.ownsRow_nil _ _ _ _
  case round=>
   obtain⟨j,hj,rfl,hown,hbw,hBs⟩:=hrel;by_cases hj0:0<j
   ·obtain⟨i,rfl⟩:∃i,j=i+1:=⟨j-1,by omega⟩
    have hki:(8*((i+1:Nat):Int)-8)=8*(i:Int):=by omega
    rw[hki];clear hki;have hki2:(8*(i:Int)).toNat=8*i:=by omega
    have HS:=Lib.hid (be_one_step i m (by omega));obtain⟨q,hq⟩:∃q,m / 256 ^ i=q:=⟨_,rfl⟩
    have hq2:(m:Int) / 2 ^ (8*i)=(q:Int):=by
     rw[←hq,show (2:Int) ^ (8*i)=((2 ^ (8*i):Nat):Int) from by simp,Nat.pow_mul];simp
    rw[hq] at HS;have HQ:=Lib.hid hq;clear hq;go_wp2_with (at_builtin;go_must (refine wpList_push wr #[.int .u8 ((q:Int) % 256)] rfl _ _ 64 rfl B 5 (.int .u8 0) 1 1 1 Tryz.underlying64 info_u8 rfl (by decide) u3 (8-(i+1)) _ (by rfl) hown.out (by rfl) ?_ ?_ ?_ ?_ ?_ ?_))
    any_goals first|rfl|(unfold maxLen;omega)|omega
    intro v' w' hown' hb';have HOWN:=Lib.hid hown';clear hown';go_wp2
    go_roundw
    case rel=>
     refine⟨i,by omega,by first|rfl|(congr 1<;>omega),?_,hbw.trans hb',Nat.le_trans hBs hb'.size⟩;show World.ownsRow _ _ _ _ _ _ _;have h1:=HOWN.out;have h2:=HS.out;rw[show 7-i+1=8-i from by omega] at h1;rw[HQ.out,h2];simpa [U8] using h1
    case measure=>simp[intOf]<;>omega
   ·obtain rfl:j=0:=by omega
    have hown2:=hown.out;rw[Nat.sub_zero,Nat.pow_zero,Nat.div_one] at hown2;obtain⟨A',cap',rfl,hconv⟩:=conv_own 64 44 Tryz.underlying64 Tryz.underlying44 hown2;clear hown2 hown;go_wp2_with fail;refine (rCanon_any _ _ ?_).mono ?_
    ·show (be 8 m).length≤_;rw[be_length];omega
    rintro e w' ⟨rfl,rfl⟩;go_wp2;go_ret;refine⟨?_,by rw[←HB.out];exact hbw⟩
    have:vbs ⟨(be 8 m).toArray⟩=m:=by
     show vb (be 8 m)=_;rw[vb_be,Nat.mod_eq_of_lt (by omega)]
    rw[this];rfl
theorem nbs_size_le (n K:Nat) (h:n<256 ^ K):(nbs n).size≤K:=by
 have h1:(nb n).length=(nbs n).size:=rfl;rcases Nat.eq_zero_or_pos (nbs n).size with h0|h0
 ·omega
 ·have h3:nb n≠[]:=by intro e;rw[e] at h1;simp at h1;omega
  obtain⟨c,l,hcl⟩:=List.exists_cons_of_ne_nil h3;have h4:=right_nb n h3;have h5:=vb_ge c l (by simpa [hcl] using h4);rw[←hcl,vb_nb] at h5;have h6:=(Nat.pow_lt_pow_iff_right (a:=256) (by omega)).1 (Nat.lt_of_le_of_lt h5 h);rw[hcl] at h1;simp at h1;omega
end Go.Proofs.YtfajelpcfnfjkaaGreatDoor
