/- Part: Gcd. -/
import Derived.Test.YtjpbmbgincdjaaaGreatDoorK07
set_option linter.all false
set_option maxRecDepth 100000
set_option maxHeartbeats 0
namespace Go.Proofs.YtjpbmbgincdjaaaGreatDoor
open Go.RowKit Tryz
theorem UN (a b:ByteArray) (w:World) (ha:a.size<=536870912) (hb:b.size<=536870912):
  Calls prog 174 #[.string a,.string b] w fun e w'=>e=.returned (.string (aC (Nat.gcd (ak a) (ak b))))/\Below w.heap.size w w':=by
 have hK:∃K,K<=536870912/\ak a<256 ^ K/\ak b<256 ^ K:=⟨max a.size b.size,by omega,bV a _ (Nat.le_max_left _ _),bV b _ (Nat.le_max_right _ _)⟩
 obtain⟨K,hK0,hK1,hK2⟩:=hK;have jl:=zH hK1;have kN:=zH hK2;clear hK1 hK2;go_enter func174,ntmps174;go_wp2_with fail;refine (jM a _ (by omega)).mono ?_;rintro e w1 ⟨A1,l1,c1,rfl,h1,hl1,hb1⟩;have H1:=zH h1;clear h1;go_wp2_with fail;refine (jM b _ (by omega)).mono ?_;rintro e w2 ⟨A2,l2,c2,rfl,h2,hl2,hb2⟩;have qR:=zH (H1.out.below hb2);have H2:=zH h2;have lM:=ah hb1 hb2;clear h2 H1 hb1 hb2;go_wp2_with fail
 go_loopg [5,6] (ak b) (fun g xv yv wr=>∃(A A':Option Addr) (len cap len' cap' n:Nat),xv=.slice A len cap/\yv=.slice A' len' cap'/\Hid (fF wr A len cap n)/\Hid (fF wr A' len' cap' g)/\Hid (Nat.gcd n g=Nat.gcd (ak a) (ak b))/\Hid (n<256 ^ K)/\Hid (g<256 ^ K)/\Below w.heap.size w wr)
 case atStart=>exact⟨A1,A2,l1,c1,l2,c2,ak a,rfl,rfl,qR,H2,rfl,jl,kN,lM⟩
 case round=>
  obtain⟨A,A',len,cap,len',cap',n,rfl,rfl,HX,HY,hg,hn,hm,hbw⟩:=hrel;have hl:=HX.out.gB hn.out;have hl':=HY.out.gB hm.out;have hz:=HY.out.zero;by_cases h0:len'=0
  ·have hgk:Hid (gk=0):=hz.1 h0;subst h0;clear hz hl';go_wp2_with fail;refine (ny _ _ _ _ _ HX.out (by omega)).mono ?_;rintro e w3 ⟨rfl,hb3⟩;go_wp2;go_ret;refine⟨?_,ah hbw hb3⟩;have:=hg.out;rw[hgk.out,Nat.gcd_zero_right] at this;rw[this];rfl
  ·have hg0:0<gk:=by
    rcases Nat.eq_zero_or_pos gk with h|h
    ·exact absurd (hz.2 h) h0
    ·exact h
   have hpos:0<len':=by omega
   clear hz;go_wp2_with fail;refine (F9 _ _ _ _ _ _ _ _ _ HX.out HY.out hg0 (by omega)).mono ?_;rintro e w3 ⟨A3,l3,c3,A4,l4,c4,rfl,h3,h4,hb3⟩;have H4:=zH h4;have HY':=zH (HY.out.below hb3);clear h3 h4;go_wp2
   go_roundg (n % gk)
   case measure=>exact Nat.mod_lt _ hg0
   case rel=>
    refine⟨A',A4,len',cap',l4,c4,gk,rfl,rfl,HY',H4,?_,hm,Nat.lt_of_le_of_lt (Nat.mod_le _ _) hn.out,ah hbw hb3⟩;show _=_;rw[<-hg.out,Nat.gcd_comm n gk,Nat.gcd_rec gk n,Nat.gcd_comm]
end Go.Proofs.YtjpbmbgincdjaaaGreatDoor
