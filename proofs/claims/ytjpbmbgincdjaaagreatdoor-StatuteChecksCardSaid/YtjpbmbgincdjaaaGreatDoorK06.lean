/- Part: R4. -/
import Derived.Lib.BufferRead
import Derived.Test.YtjpbmbgincdjaaaGreatDoorK05
set_option linter.all false
set_option maxRecDepth 100000
set_option maxHeartbeats 0
namespace Go.Proofs.YtjpbmbgincdjaaaGreatDoor
open Go.RowKit List World Tryz
theorem Qn (i n:Nat) (hi:i<8):be (8-i) (n / 256 ^ i)=be (8-(i+1)) (n / 256 ^ (i+1))++[UInt8.ofNat (n / 256 ^ i % 256)]:=by
 rw[show 8-i=(8-(i+1))+1 from by omega,Jl,Nat.div_div_eq_div_mul,<-Nat.pow_add];simp[be]
theorem oU (n:Int) (w:World) (h0:-9223372036854775808<=n) (h1:n<=9223372036854775807):
  Calls prog 43 #[.int .i64 n] w fun e w'=>e=.returned (.string (aC n.toNat))/\Below w.heap.size w w':=by
 obtain⟨B,hB⟩:=zE w.heap.size;have HB:=zH hB;have hBw:B<=w.heap.size:=by omega
 clear hB;by_cases hn:n<=0
 ·have e:n.toNat=0:=by omega
  rw[e];go_enter func43,ntmps43;go_wp2_with fail
  go_loopw [4,3] (fun kv ov wr=>kv=.int .i64 56/\ov=.slice none 0 0/\wr=w) (fun _ _ _=>0)
  case atStart=>exact⟨rfl,rfl,rfl⟩
  case round=>
   obtain⟨rfl,rfl,rfl⟩:=hrel;have hconv:=Lib.run_convert_nil_bytes (P:=prog) wr 41 55 5 0 underlying41 underlying5 underlying55;go_wp2_with fail;refine (fO ⟨#[]⟩ _ (by show (0:Nat)<=1099511627776;omega)).mono ?_;rintro e w' ⟨rfl,rfl⟩;go_wp2;go_ret;exact⟨rfl,Below.refl _ _⟩
 ·obtain⟨m,rfl⟩:=Int.eq_ofNat_of_zero_le (show 0<=n by omega);rw[Int.toNat_natCast];have hm:0<m:=by omega
  go_enter func43,ntmps43;go_wp2_with fail
  go_loopw [4,3] (fun kv ov wr=>∃j:Nat,j<=8/\kv=.int .i64 (8*(j:Int)-8)/\Hid (wr.ownsRow B 5 1 ov (8-j) (U8 (be (8-j) (m / 256 ^ j))))/\Below B w wr/\B<=wr.heap.size) (fun k _ _=>(intOf k+8).toNat)
  case atStart=>
   refine⟨8,by omega,by go_num,?_,Below.refl _ _,hBw⟩;exact ownsRow_nil _ _ _ _
  case round=>
   obtain⟨j,hj,rfl,hown,hbw,hBs⟩:=hrel;by_cases hj0:0<j
   ·obtain⟨i,rfl⟩:∃i,j=i+1:=⟨j-1,by omega⟩
    have hki:(8*((i+1:Nat):Int)-8)=8*(i:Int):=by omega
    rw[hki];clear hki;have aoK:(8*(i:Int)).toNat=8*i:=by omega
    have HS:=zH (Qn i m (by omega));obtain⟨q,hq⟩:=zF (m / 256 ^ i)
    have hq2:(m:Int) / 2 ^ (8*i)=(q:Int):=by
     rw[<-hq,show (2:Int) ^ (8*i)=((2 ^ (8*i):Nat):Int) from by simp,Nat.pow_mul];simp
    rw[hq] at HS;have HQ:=zH hq;clear hq;go_wp2_with (at_builtin;go_must (refine dW wr #[.int .u8 ((q:Int) % 256)] rfl _ _ 41 rfl B 5 (.int .u8 0) 1 1 1 underlying41 IC rfl (by decide) u3 (8-(i+1)) _ (by rfl) hown (by rfl) ?_ ?_ ?_ ?_ ?_ ?_))
    any_goals first|rfl|(unfold maxLen;omega)|omega
    intro v' w' hown' hb';have HOWN:=zH hown';clear hown';go_wp2
    go_roundw
    case rel=>
     refine⟨i,by omega,by first|rfl|(congr 1<;>omega),?_,hbw.trans hb',Nat.le_trans hBs hb'.size⟩;show World.ownsRow _ _ _ _ _ _ _;have h1:=HOWN.out;have h2:=HS.out;rw[show 7-i+1=8-i from by omega] at h1;rw[HQ.out,h2];simpa [U8] using h1
    case measure=>simp[intOf]<;>omega
   ·obtain rfl:j=0:=by omega
    have hown2:=hown.out;rw[Nat.sub_zero,Nat.pow_zero,Nat.div_one] at hown2;obtain⟨A',cap',rfl,hconv⟩:=Eu 41 55 underlying41 underlying55 hown2;clear hown2 hown;go_wp2_with fail;refine (fO _ _ ?_).mono ?_
    ·show (be 8 m).length<=_;rw[qF];omega
    rintro e w' ⟨rfl,rfl⟩;go_wp2;go_ret;refine⟨?_,by rw[<-HB.out];exact hbw⟩
    have:ak ⟨(be 8 m).toArray⟩=m:=by
     show vb (be 8 m)=_;rw[Ue,Nat.mod_eq_of_lt (by omega)]
    rw[this];rfl
theorem FX (L:List UInt8) (k:Nat):vb (L.take k)<=vb L:=by
 have:=oD (L.take k) (L.drop k);rw[take_append_drop] at this;rw[this];have h:=Nat.le_mul_of_pos_right (vb (L.take k)) (show 0<256 ^ (L.drop k).length from Nat.pow_pos (by omega));omega
theorem MH (L:List UInt8) (k:Nat) (h:k<L.length):vb (L.take (k+1))=vb (L.take k)*256+(L.getD k 0).toNat:=by
 rw[take_succ_eq_append_getElem h,oD,getD_lt h];simp[vb]
theorem aY (n K:Nat) (h:n<256 ^ K):(aC n).size<=K:=by
 have h1:(nb n).length=(aC n).size:=rfl;rcases Nat.eq_zero_or_pos (aC n).size with h0|h0
 ·omega
 ·have h3:nb n≠[]:=by intro e;rw[e] at h1;simp at h1;omega
  obtain⟨c,l,hcl⟩:=exists_cons_of_ne_nil h3;have h4:=qo n h3;have h5:=FI c l (by simpa [hcl] using h4);rw[<-hcl,qO] at h5;have h6:=(Nat.pow_lt_pow_iff_right (a:=256) (by omega)).1 (Nat.lt_of_le_of_lt h5 h);rw[hcl] at h1;simp at h1;omega
theorem DN (n K:Nat) (h:256 ^ K<=n):K<(aC n).size:=by
 have h1:(nb n).length=(aC n).size:=rfl;have h2:=qN (nb n);rw[qO,h1] at h2;exact (Nat.pow_lt_pow_iff_right (a:=256) (by omega)).1 (Nat.lt_of_le_of_lt h h2)
def Xl (n:Nat) (ok:Bool) (w:World) (e:Ending) (w':World):Prop:=
 e=.returned (.tuple #[.int .i64 ((if ok then n else 0:Nat):Int),.bool ok])/\w=w'
theorem MI (a:ByteArray) (w:World) (ha:a.size<=1099511627776):
  Calls prog 159 #[.string a] w (Xl (ak a) (decide (ak a<9223372036854775808)) w):=by
 have hv:ak (aC (ak a))=ak a:=aS _;have hr:tV (aC (ak a)).data.toList:=qo _;have hbig:∀K,256 ^ K<=ak a->K<(aC (ak a)).size:=DN _;have xJ:∀K,ak a<256 ^ K->(aC (ak a)).size<=K:=aY _;obtain⟨t,ht⟩:=zF (aC (ak a));obtain⟨n,hn⟩:=zF (ak a);have HC:=zH (fO a w ha);rw[ht] at HC;rw[ht] at hv hr hbig xJ;rw[hn] at hv hbig xJ⊢;have HV:=zH hv;have HR:=zH hr;obtain⟨L,hL⟩:=zF t.data.toList;have DK:L.length=t.size:=by rw[<-hL];simp
 have hvL:vb L=n:=by rw[<-hL];exact hv
 clear ht hn hv hr;by_cases h8:8<t.size
 ·have hno:decide (n<9223372036854775808)=false:=by
   rw[decide_eq_false_iff_not];intro h;have:=xJ 8 (by omega);omega
  rw[hno];clear hno hbig xJ hL DK hvL;go_enter func159,ntmps159;go_wp2_with fail;refine HC.mono ?_;rintro e w' ⟨rfl,rfl⟩;go_wp2;go_ret2;exact⟨rfl,rfl⟩
 ·by_cases h7:∃h:t.size=8,127<(t[0]'(by omega)).toNat
  ·obtain⟨h8',h7⟩:=h7
   have hno:decide (n<9223372036854775808)=false:=by
    rw[decide_eq_false_iff_not];intro h;have h1:=FX L 1
    have hcons:L=t[0]'(by omega)::L.drop 1:=by
     have:=drop_eq_getElem_cons (l:=L) (i:=0) (by omega);rw[drop_zero] at this;rw[this];simp[<-hL];rfl
    have h2:vb L=(t[0]'(by omega)).toNat*256 ^ 7+vb (L.drop 1):=by
     conv=>lhs;rw[hcons]
     rw[vb,length_drop,DK,show t.size-1=7 from by omega]
    omega
   rw[hno];clear hno hbig xJ hL DK hvL h8;have h8i:(t.size:Int)=8:=by omega
   have h7i:(127:Int)<((t[0]'(by omega)).toNat:Int):=by omega
   go_enter func159,ntmps159;go_wp2_with fail;refine HC.mono ?_;rintro e w' ⟨rfl,rfl⟩;go_wp2;go_ret2;exact⟨rfl,rfl⟩
  ·have hn63:n<9223372036854775808:=by
    by_cases h8':t.size=8
    ·have h1:(t[0]'(by omega)).toNat<=127:=by
      rcases Nat.lt_or_ge 127 (t[0]'(by omega)).toNat with h|h
      ·exact absurd ⟨h8',h⟩ h7
      ·exact h
     have hcons:L=t[0]'(by omega)::L.drop 1:=by
      have:=drop_eq_getElem_cons (l:=L) (i:=0) (by omega);rw[drop_zero] at this;rw[this];simp[<-hL];rfl
     have h2:vb L=(t[0]'(by omega)).toNat*256 ^ 7+vb (L.drop 1):=by
      conv=>lhs;rw[hcons]
      rw[vb,length_drop,DK,show t.size-1=7 from by omega]
     have h3:=qN (L.drop 1);rw[length_drop,DK,show t.size-1=7 from by omega] at h3;omega
    ·have h3:=qN L;have h4:=Nat.pow_le_pow_right (n:=256) (by omega) (show L.length<=7 by omega);omega
   have hyes:decide (n<9223372036854775808)=true:=by simpa using hn63
   rw[hyes];have HB:Hid (∀k,vb (L.take k)<9223372036854775808):=fun k=>Nat.lt_of_le_of_lt (FX L k) (by rw[hvL];exact hn63)
   have HSt:=zH (MH L);have HL:=zH hL;have wV:=zH DK;have HVL:=zH hvL
   have hcase:t.size<8∨∃h:t.size=8,(t[0]'(by omega)).toNat<=127:=by
    rcases Nat.lt_or_ge t.size 8 with h|h
    ·exact .inl h
    ·refine .inr ⟨by omega,?_⟩;rcases Nat.lt_or_ge 127 (t[0]'(by omega)).toNat with h'|h'
     ·exact absurd ⟨by omega,h'⟩ h7
     ·exact h'
   clear hyes hn63 hbig xJ hL DK hvL h7 h8;rcases hcase with h8|⟨h8,h7⟩
   case' inl=>have h8i:(t.size:Int)<8:=by omega
   case' inr=>
    have h8i:(t.size:Int)=8:=by omega
    have h7i:((t[0]'(by omega)).toNat:Int)<=127:=by omega
   all_goals
    go_enter func159,ntmps159;go_wp2_with fail;refine HC.mono ?_;rintro e w' ⟨rfl,rfl⟩;go_wp2_with fail
    go_loop [5,4] (fun kv nv=>∃k:Nat,k<=t.size/\kv=.int .i64 k/\nv=.int .i64 (vb (L.take k):Nat)) (fun kv _=>t.size-(intOf kv).toNat)
    case atStart=>exact⟨0,by omega,rfl,by simp[vb]⟩
    case round=>
     obtain⟨k,hk,rfl,rfl⟩:=hrel;by_cases hlt:k<t.size
     ·have h1:=HB (k+1);have h2:=HSt k (by rw[wV.out];exact hlt);have h3:(L.getD k 0).toNat=(t[k]'hlt).toNat:=by rw[getD_lt (by rw[wV.out];exact hlt)];simp[<-HL.out];rfl
      rw[h2,h3] at h1;have H2:=zH h2;have H3:=zH h3;clear h2 h3;generalize vb (L.take k)=d at*;go_wp2
      go_round
      case rel=>
       refine⟨k+1,by omega,by go_num,?_⟩;rw[H2.out,H3.out];go_num
      case measure=>simp[intOf]<;>omega
     ·obtain rfl:k=t.size:=by omega
      have hvn:Hid (vb (L.take t.size)=n):=by show _=_;rw[take_of_length_le (by rw[wV.out];omega),HVL.out]
      rw[hvn.out];go_wp2;go_ret2;exact⟨rfl,rfl⟩
end Go.Proofs.YtjpbmbgincdjaaaGreatDoor
