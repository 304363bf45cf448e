/- A part of the proof: G5. -/
import Derived.Test.YtimokmplkpbmdaaGreatDoorM00
set_option linter.all false
set_option maxRecDepth 100000
set_option maxHeartbeats 0
namespace Go.Proofs.YtimokmplkpbmdaaGreatDoor
open Go.RowKit
theorem drewN_add (w:World) (n m:Nat):(w.drewN n).drewN m=w.drewN (n+m):=World.drewN_drewN _ _ _
theorem equalN_any (es fs:List Nd) (A1 A2:Option Addr) (l1 c1 l2 c2:Nat) (w:World) (h1:l1=es.length) (h2:l2=fs.length) (hm1:l1<=maxLen) (hm2:l2<=maxLen) (hr1:Rd w A1 (nds es)) (hr2:Rd w A2 (nds fs)):
  Calls Tryz.prog 94 #[.slice A1 l1 c1,.slice A2 l2 c2] w fun e w'=>e=.returned (.bool (decide (es=fs)))/\∃n,w'=w.drewN n:=by
 unfold maxLen at hm1 hm2;by_cases hl:l1=l2
 ·subst hl;have HR1:=zH hr1;have HR2:=zH hr2;have HL1:=zH h1;have HL2:=zH h2;clear hr1 hr2 h1 h2;go_enter Tryz.func94,Tryz.ntmps94;go_wp2
  go_loopg [13] l1 (fun g iv wr=>∃k:Nat,k+g=l1/\iv=.int .i64 k/\Hid (decide (es=fs)=decide (es.drop k=fs.drop k))/\Hid (∃n,wr=w.drewN n))
  case atStart=>exact⟨0,by omega,rfl,rfl,0,rfl⟩
  case round=>
   obtain⟨k,hk,rfl,hd,hw⟩:=hrel;by_cases hlt:k<l1
   ·have hk1:k<es.length:=by rw[<-HL1.out];exact hlt
    have hk2:k<fs.length:=by rw[<-HL2.out];exact hlt
    obtain⟨n,rfl⟩:=hw.out;obtain⟨b1,off1,rfl,hb1,x0,x1,x2,x3,x4⟩:=HR1.out.nd hk1;obtain⟨b2,off2,rfl,hb2,y0,y1,y2,y3,y4⟩:=HR2.out.nd hk2
    have HD:Hid (decide (es=fs)=decide (es[k]::es.drop (k+1)=fs[k]::fs.drop (k+1))):=by
     show _=_;rw[hd.out,List.drop_eq_getElem_cons hk1,List.drop_eq_getElem_cons hk2]
    have hq:=fun W=>neq_nd es[k] fs[k] W
    generalize es[k]=x at*;generalize fs[k]=y at*
    have HD1:Hid (x≠y->decide (es=fs)=false):=by
     intro h;rw[HD.out];exact decide_eq_false (fun hh=>h (by injection hh))
    have HD2:Hid (x=y->decide (es=fs)=decide (es.drop (k+1)=fs.drop (k+1))):=by
     intro h;rw[HD.out,decide_eq_decide,h];exact⟨fun hh=>by injection hh,fun hh=>by rw[hh]⟩
    clear HD hd hb1 hb2 hw;obtain⟨d,hdd⟩:=zF (decide (x=y));rw[hdd] at hq;have HDD:=zH hdd;clear hdd;obtain⟨op,⟨neg,num,den⟩,nm⟩:=x;obtain⟨op',⟨neg',num',den'⟩,nm'⟩:=y;unfold Nd.v at hq;simp only at x0 x1 x2 x3 x4 y0 y1 y2 y3 y4 hq;cases d
    ·go_wp2;go_quiet (fail);go_wp2;go_ret;exact⟨by rw[HD1.out (of_decide_eq_false HDD.out)];rfl,_,drewN_add _ _ _⟩
    ·go_wp2;go_quiet (fail);go_wp2
     go_roundg (l1-(k+1))
     case measure=>omega
     case rel=>exact⟨k+1,by omega,by go_num,HD2.out (of_decide_eq_true HDD.out),_,rfl⟩
   ·obtain⟨n,rfl⟩:=hw.out;go_wp2;go_ret;refine⟨?_,n,rfl⟩;rw[hd.out,List.drop_eq_nil_of_le (by have:=HL1.out;omega),List.drop_eq_nil_of_le (by have:=HL2.out;omega)];rfl
 ·have HV:Hid (decide (es=fs)=false):=decide_eq_false (fun h=>hl (by rw[h1,h2,h]));have e1:((l1:Int) !=l2)=true:=by rw[bne_iff_ne];omega
  clear hr1 hr2 h1 h2;go_enter Tryz.func94,Tryz.ntmps94;go_wp2;go_ret;exact⟨by rw[HV.out];rfl,0,rfl⟩
theorem gSame_any (es fs:List Nd) (A1 A2:Option Addr) (l1 c1 l2 c2:Nat) (w:World) (h1:l1=es.length) (h2:l2=fs.length) (hm1:l1<=maxLen) (hm2:l2<=maxLen) (hr1:Rd w A1 (nds es)) (hr2:Rd w A2 (nds fs)):
  Calls Tryz.prog 95 #[.slice A1 l1 c1,.slice A2 l2 c2] w fun e w'=>e=.returned (.bool (decide (es=fs)))/\∃n,w'=w.drewN n:=by
 unfold maxLen at hm1 hm2;by_cases hl:l1=l2
 ·subst hl;have HR1:=zH hr1;have HR2:=zH hr2;have HL1:=zH h1;have HL2:=zH h2;clear hr1 hr2 h1 h2;go_enter Tryz.func95,Tryz.ntmps95;go_wp2
  go_loopg [5] l1 (fun g iv wr=>∃k:Nat,k+g=l1/\iv=.int .i64 k/\Hid (decide (es=fs)=decide (es.drop k=fs.drop k))/\Hid (∃n,wr=w.drewN n))
  case atStart=>exact⟨0,by omega,rfl,rfl,0,rfl⟩
  case round=>
   obtain⟨k,hk,rfl,hd,hw⟩:=hrel;by_cases hlt:k<l1
   ·have hk1:k<es.length:=by rw[<-HL1.out];exact hlt
    have hk2:k<fs.length:=by rw[<-HL2.out];exact hlt
    obtain⟨n,rfl⟩:=hw.out;obtain⟨b1,off1,rfl,hb1,x0,x1,x2,x3,x4⟩:=HR1.out.nd hk1;obtain⟨b2,off2,rfl,hb2,y0,y1,y2,y3,y4⟩:=HR2.out.nd hk2
    have HD:Hid (decide (es=fs)=decide (es[k]::es.drop (k+1)=fs[k]::fs.drop (k+1))):=by
     show _=_;rw[hd.out,List.drop_eq_getElem_cons hk1,List.drop_eq_getElem_cons hk2]
    have hq:=fun W=>neq_nd es[k] fs[k] W
    generalize es[k]=x at*;generalize fs[k]=y at*
    have HD1:Hid (x≠y->decide (es=fs)=false):=by
     intro h;rw[HD.out];exact decide_eq_false (fun hh=>h (by injection hh))
    have HD2:Hid (x=y->decide (es=fs)=decide (es.drop (k+1)=fs.drop (k+1))):=by
     intro h;rw[HD.out,decide_eq_decide,h];exact⟨fun hh=>by injection hh,fun hh=>by rw[hh]⟩
    clear HD hd hb1 hb2 hw;obtain⟨d,hdd⟩:=zF (decide (x=y));rw[hdd] at hq;have HDD:=zH hdd;clear hdd;obtain⟨op,⟨neg,num,den⟩,nm⟩:=x;obtain⟨op',⟨neg',num',den'⟩,nm'⟩:=y;unfold Nd.v at hq;simp only at x0 x1 x2 x3 x4 y0 y1 y2 y3 y4 hq;cases d
    ·go_wp2;go_quiet (fail);go_wp2;go_ret;exact⟨by rw[HD1.out (of_decide_eq_false HDD.out)];rfl,_,drewN_add _ _ _⟩
    ·go_wp2;go_quiet (fail);go_wp2
     go_roundg (l1-(k+1))
     case measure=>omega
     case rel=>exact⟨k+1,by omega,by go_num,HD2.out (of_decide_eq_true HDD.out),_,rfl⟩
   ·obtain⟨n,rfl⟩:=hw.out;go_wp2;go_ret;refine⟨?_,n,rfl⟩;rw[hd.out,List.drop_eq_nil_of_le (by have:=HL1.out;omega),List.drop_eq_nil_of_le (by have:=HL2.out;omega)];rfl
 ·have HV:Hid (decide (es=fs)=false):=decide_eq_false (fun h=>hl (by rw[h1,h2,h]));have e1:((l1:Int) !=l2)=true:=by rw[bne_iff_ne];omega
  clear hr1 hr2 h1 h2;go_enter Tryz.func95,Tryz.ntmps95;go_wp2;go_ret;exact⟨by rw[HV.out];rfl,0,rfl⟩
theorem eSame_any (es fs:List Nd) (A1 A2:Option Addr) (l1 c1 l2 c2:Nat) (w:World) (h1:l1=es.length) (h2:l2=fs.length) (hm1:l1<=maxLen) (hm2:l2<=maxLen) (hr1:Rd w A1 (nds es)) (hr2:Rd w A2 (nds fs)):
  Calls Tryz.prog 41 #[.slice A1 l1 c1,.slice A2 l2 c2] w fun e w'=>e=.returned (.bool (decide (es=fs)))/\∃n,w'=w.drewN n:=by
 have HE:=zH (equalN_any es fs A1 A2 l1 c1 l2 c2 w h1 h2 hm1 hm2 hr1 hr2);generalize decide (es=fs)=d at*;clear h1 h2 hm1 hm2 hr1 hr2;go_enter Tryz.func41,Tryz.ntmps41;go_wp2_with fail;refine HE.out.mono ?_;rintro e w1 ⟨rfl,n,rfl⟩;go_wp2;go_ret;exact⟨rfl,n,rfl⟩
end Go.Proofs.YtimokmplkpbmdaaGreatDoor
