/- A part of the proof: R6. -/
import Derived.Test.YtimokmplkpbmdaaGreatDoorB08
set_option linter.all false
set_option maxRecDepth 100000
set_option maxHeartbeats 0
namespace Go.Proofs.YtimokmplkpbmdaaGreatDoor
open Go.RowKit
theorem bitsN_half (n:Nat) (h:0<n):bitsN n=bitsN (n / 2)+1:=by
 unfold bitsN;rw[if_neg (by omega)];by_cases h1:n / 2=0
 ·rw[if_pos h1];obtain rfl:n=1:=by omega
  rfl
 ·rw[if_neg h1];have h0:n≠0:=by omega
  have e:n.log2=(n / 2).log2+1:=by
   rw[Nat.log2_def,if_pos (by omega)]
  rw[e]
theorem bitsN_top (c r k:Nat) (hc:0<c) (hr:r<256 ^ k):bitsN (c*256 ^ k+r)=8*k+bitsN c:=by
 have h1:bitsN c=c.log2+1:=by unfold bitsN;rw[if_neg (by omega)]
 have h2:2 ^ c.log2<=c:=Nat.log2_self_le (by omega);have h3:c<2 ^ (c.log2+1):=Nat.lt_log2_self;have ep:(256:Nat) ^ k=2 ^ (8*k):=by rw[Nat.pow_mul]
 rw[ep] at hr⊢;rw[h1]
 have:=bitsN_eq (c*2 ^ (8*k)+r) (8*k+c.log2) (by
  rw[Nat.pow_add,Nat.mul_comm];have:=Nat.mul_le_mul_right (2 ^ (8*k)) h2;omega) (by
  rw[show 8*k+c.log2+1=8*k+(c.log2+1) from rfl,Nat.pow_add,Nat.mul_comm (2 ^ (8*k))];have:=Nat.mul_le_mul_right (2 ^ (8*k)) (show c+1<=2 ^ (c.log2+1) from h3);rw[Nat.add_mul] at this;omega)
 omega
theorem rBits_any (a:ByteArray) (w:World) (ha:a.size<=1073741824):
  Calls Tryz.prog 149 #[.string a] w fun e w'=>e=.returned (.int .i64 (bitsN (vbs a):Nat))/\w=w':=by
 have HC:=zH (rCanon_any a w (by omega));have hsz:(nbs (vbs a)).size<=a.size:=nbs_size_le _ _ (vbs_lt a);by_cases h0:vbs a=0
 ·have hs0:(nbs 0).size=0:=rfl;rw[h0] at HC⊢;go_enter Tryz.func149,Tryz.ntmps149;go_wp2_with fail;refine HC.out.mono ?_;rintro e w' ⟨rfl,rfl⟩;go_wp2;go_ret;exact⟨rfl,rfl⟩
 ·have hne:=nb_ne _ h0;obtain⟨c,l,hcl⟩:=List.exists_cons_of_ne_nil hne;have hc0:=right_nb _ hne;have hv:vbs a=c.toNat*256 ^ l.length+vb l:=by rw[<-vb_nb (vbs a),hcl];rfl
  have hcn:0<c.toNat:=by
   rcases Nat.eq_zero_or_pos c.toNat with h|h
   ·exact absurd (UInt8.toNat_inj.1 h) (by simpa [hcl] using hc0)
   ·exact h
  have HB:=zH (bitsN_top c.toNat (vb l) l.length hcn (vb_lt l));rw[<-hv] at HB;have hc256:=c.toNat_lt;obtain⟨t,ht⟩:=zF (nbs (vbs a));have hts:t.size=l.length+1:=by rw[<-ht];show (nb (vbs a)).length=_;rw[hcl];rfl
  have ht0:∀h:0<t.size,(t[0]'h).toNat=c.toNat:=by
   intro h
   have:t[0]'h=c:=by
    subst ht;show (nb (vbs a)).toArray[0]'_=c;simp[hcl]
   rw[this]
  rw[ht] at HC hsz;obtain⟨d,hd⟩:=zF c.toNat;rw[hd] at HB hcn hc256 ht0;obtain⟨k,hk⟩:=zF l.length;rw[hk] at HB hts;have HT0:=zH (ht0 (by omega));have htd:((t[0]'(by omega)).toNat:Int)=(d:Int):=by rw[HT0.out]
  have htsi:(t.size:Int)=k+1:=by omega
  clear h0 hne hcl hc0 hv ht hd;go_enter Tryz.func149,Tryz.ntmps149;go_wp2_with fail;refine HC.out.mono ?_;rintro e w' ⟨rfl,rfl⟩;go_wp2_with fail
  go_loop [3,4] (fun nv dv=>∃(x y:Nat),nv=.int .i64 (x:Int)/\dv=.int .i64 (y:Int)/\y<=256/\x<=8*k+256/\Hid (x+bitsN y=8*k+bitsN d)/\x+y<=8*k+256) (fun _ dv=>(intOf dv).toNat)
  case atStart=>exact⟨8*k,d,by go_num,rfl,by omega,by omega,rfl,by omega⟩
  case round=>
   obtain⟨x,y,rfl,rfl,hy,hx,hb,hxy⟩:=hrel;by_cases hy0:0<y
   ·have HH:=zH (bitsN_half y hy0);go_wp2
    go_round
    case rel=>exact⟨x+1,y / 2,by go_num,by go_num,by omega,by omega,by show _=_;have h1:=hb.out;rw[HH.out] at h1;omega,by omega⟩
    case measure=>simp[intOf]<;>omega
   ·obtain rfl:y=0:=by omega
    go_wp2;go_ret;refine⟨?_,rfl⟩;have h1:=hb.out;rw[show bitsN 0=0 from rfl,Nat.add_zero] at h1;rw[HB.out,<-h1];rfl
end Go.Proofs.YtimokmplkpbmdaaGreatDoor
