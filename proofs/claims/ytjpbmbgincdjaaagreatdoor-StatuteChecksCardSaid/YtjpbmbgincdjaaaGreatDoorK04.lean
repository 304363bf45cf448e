/- Part: Number Sum Product. -/
import Derived.Test.YtjpbmbgincdjaaaGreatDoorK02
import Derived.Test.YtjpbmbgincdjaaaGreatDoorK03
set_option linter.all false
set_option maxRecDepth 100000
set_option maxHeartbeats 0
namespace Go.Proofs.YtjpbmbgincdjaaaGreatDoor
open Go.RowKit List Tryz
theorem IC:(prog.info? 5).map (fun i=>(i.zero,i.size,i.bytes))=some (some (.int .u8 0),1,1):=by kernel_rfl
def U8 (l:List UInt8):List Value:=l.map fun c:UInt8=>.int .u8 (c.toNat:Int)
theorem wW (l:List UInt8):(U8 l).length=l.length:=by simp[U8]
theorem FW (A:Option Addr) (len cap:Nat) (xs:List Nat) (w:World) (hlen:xs.length=len) (hl:len<=cap) (hm:len<=1099511627776) (hr:Rd w A (U xs)) (hd:∀x∈xs,x<2 ^ 32):
  Calls prog 209 #[.slice A len cap] w fun e w'=>e=.returned (.string (aC (val (2 ^ 32) xs)))/\Below w.heap.size w w':=by
 have HR:=zH hr;have HL:=zH hlen;have HD:=zH hd;clear hr hlen hd;go_enter func209,ntmps209;go_wp2_with fail;refine (jK _ _ _ xs _ HL hl (by unfold maxLen;omega) HR).mono ?_;rintro e w' ⟨rfl,rfl⟩;have ht:=trimLen_le xs len;obtain⟨T,HT⟩:∃T,Hid (T=trimLen xs len):=⟨_,rfl⟩
 rw[<-HT.out] at ht⊢;go_wp2_with (at_make;refine dS _ rfl _ _ 41 rfl 5 (.int .u8 0) 1 underlying41 IC rfl _ _ _ _ (4*T) rfl rfl ?_ ?_ (by omega) (by omega) ?_)
 ·omega
 ·omega
 intro w1 hblk hb1;obtain⟨G,HG⟩:∃G,Hid (G=w.heap.size):=⟨_,rfl⟩
 rw[<-HG.out] at hblk hb1⊢;have HB:=zH hblk;clear hblk;go_wp2
 go_loopw [13] (fun i wr=>∃k:Nat,k<=4*T/\i=.int .i64 k/\aj wr G 5 (U8 (List.replicate (4*T-k) 0++be k (val (2 ^ 32) xs)))/\Below G w wr) (fun i _=>4*T-(intOf i).toNat)
 case atStart=>exact⟨0,by omega,rfl,by have:=HB.out;simpa [U8,be] using this,hb1⟩
 case round=>
  obtain⟨k,hk,rfl,hbk,hbw⟩:=hrel;by_cases hlt:k<4*T
  ·have hr':Rd wr A (U xs):=HR.out.below (by rw[<-HG.out];exact hbw);obtain⟨b,off,rfl,hb,hc⟩:=hr'.u (k:=k / 4) (by rw[HL.out];omega);have hfz:=hbk.frozen (4*T-1-k);obtain⟨u,hu⟩:∃u,wr.cell? ⟨G,4*T-1-k,none⟩=some u:=⟨_,hbk.cell (by simp[wW,qF];omega)⟩
   have HX:=zH (Uf xs HD.out k (by rw[HL.out];omega));generalize xs.getD (k / 4) 0=x at*;go_wp2
   go_roundw
   case rel=>
    refine⟨k+1,by omega,by go_num,?_,hbw.setCell (Nat.le_refl _) _⟩;have e:=adx (4*T) k (val (2 ^ 32) xs) hlt;rw[<-e]
    have e2:Value.int .u8 ((x:Int) / 2 ^ (8*(k % 4)) % 256)=.int .u8 ((UInt8.ofNat (val (2 ^ 32) xs / 256 ^ k % 256)).toNat:Int):=by
     rw[<-HX.out];simp
    rw[e2];have:=hbk.set (4*T-1-k) (.int .u8 ((UInt8.ofNat (val (2 ^ 32) xs / 256 ^ k % 256)).toNat:Int));simpa [U8,map_set] using this
   case measure=>simp[intOf];omega
  ·obtain rfl:k=4*T:=by omega
   have hconv:=run_convert_bytes_back (P:=prog) wr 41 9 5 ⟨G,0,none⟩ (4*T) (be (4*T) (val (2 ^ 32) xs)) underlying41 underlying5 underlying9 (by
    intro j hj;have h:=hbk.cell (i:=j) (by simpa [U8,qF] using hj);rw[show Addr.add ⟨G,0,none⟩ j=⟨G,j,none⟩ from by unfold Addr.add;split<;>simp_all,h];simp[U8])
   rw[qF] at hconv;go_wp2_with fail;refine (Tryz.strings_TrimLeft_one _ 0 (by decide) _).mono ?_;rintro e w' ⟨rfl,rfl⟩;go_wp2;go_ret;refine⟨?_,by rw[<-HG.out];exact hbw⟩
   have hv:val (2 ^ 32) xs<256 ^ (4*T):=by
    rw[<-qB,<-yP];have:=iE (2 ^ 32) (jH xs) (fun x hx=>HD.out x (mem_of_mem_take hx));rwa[mG,HL.out,<-HT.out] at this
   have e:=WW (4*T) _ hv;show Ending.returned (.string ⟨(oG (be (4*T) (val (2 ^ 32) xs))).toArray⟩)=_;rw[e];rfl
theorem MG (A A':Option Addr) (len cap len' cap' n m:Nat) (w:World) (h1:fF w A len cap n) (h2:fF w A' len' cap' m) (hle:len'<=len) (hb:len<=1073741824):
  Calls prog 225 #[.slice A len cap,.slice A' len' cap'] w (vN w (n+m))/\
  (len'<len->Calls prog 225 #[.slice A' len' cap',.slice A len cap] w (vN w (n+m))):=by
 obtain⟨l1,m1,xs,e1,r1,c1,v1⟩:=h1;obtain⟨l2,m2,ys,e2,r2,c2,v2⟩:=h2;unfold maxLen at m1 m2;have E1:=zH e1;have E2:=zH e2;have V1:=zH v1;have V2:=zH v2;have C1:=zH c1;have C2:=zH c2;have R1:=zH r1;have R2:=zH r2;clear e1 e2 v1 v2 c1 c2 r1 r2;constructor
 case' left=>skip
 case' right=>intro hlt
 all_goals
  go_enter func225,ntmps225;go_wp2_with (at_make;refine dS _ rfl _ _ 228 rfl 231 (.int .u32 0) 4 underlying228 oH rfl _ _ _ _ (len+1) rfl rfl ?_ ?_ (by omega) (by omega) ?_)
  ·omega
  ·omega
  intro w1 hblk hb1;obtain⟨G,HG⟩:∃G,Hid (G=w.heap.size):=⟨_,rfl⟩
  rw[<-HG.out] at hblk hb1⊢;have HB:=zH hblk;clear hblk;go_wp2
  go_loopw [22,6] (fun i cv wr=>∃(k c:Nat) (os:List Nat),k<=len/\c<=1/\i=.int .i64 k/\cv=.int .u64 c/\Hid (os.length=k)/\aj wr G 231 (U (os++List.replicate (len+1-k) 0))/\Hid (∀x∈os,x<2 ^ 32)/\
    Hid (val (2 ^ 32) os+c*(2 ^ 32) ^ k=val (2 ^ 32) (xs.take k)+val (2 ^ 32) (ys.take k))/\Below G w wr) (fun i _ _=>len-(intOf i).toNat)
  case atStart=>exact⟨0,0,[],by omega,by omega,rfl,rfl,rfl,by have:=HB.out;simpa [U] using this,by show ∀x∈_,_;simp,by show _=_;simp[val],hb1⟩
  case round=>
   obtain⟨k,c,os,hk,hc1,rfl,rfl,ho,hbk,hod,hv,hbw⟩:=hrel;by_cases hlt:k<len
   ·have hr1:Rd wr A (U xs):=R1.below (by rw[<-HG.out];exact hbw);obtain⟨b,off,rfl,hbb,hcell⟩:=hr1.u (k:=k) (by rw[E1.out];omega);have hfz:=hbk.frozen k;obtain⟨u,hu⟩:∃u,wr.cell? ⟨G,k,none⟩=some u:=⟨_,hbk.cell (by simp[fV,ho.out];omega)⟩
    have HS:=zH (LZ (2 ^ 32) k xs ys os c (by omega) ho hv);have x0:xs.getD k 0<4294967296:=aP (by omega) C1.lt k;have y0:ys.getD k 0<4294967296:=aP (by omega) C2.lt k;by_cases hk2:k<len'
    ·have hr2:Rd wr A' (U ys):=R2.below (by rw[<-HG.out];exact hbw);obtain⟨b',off',rfl,Z9,hcell'⟩:=hr2.u (k:=k) (by rw[E2.out];omega);generalize xs.getD k 0=x at*;generalize ys.getD k 0=y at*;go_wp2
     go_roundw
     case rel=>
      refine⟨k+1,(x+c+y) / 2 ^ 32,os++[(x+c+y) % 2 ^ 32],by omega,by omega,by go_num,by first|rfl|(congr 1<;>omega),by show _=_;simp[ho.out],?_,gK hod.out (Nat.mod_lt _ (by omega)),HS.out,hbw.setCell (Nat.le_refl _) _⟩;rw[<-yg os (len+1) k _ ho.out (by omega)];have e:Value.int .u32 (((x+c+y) % 2 ^ 32:Nat):Int)=.int .u32 (((x:Int)+c+y) % 4294967296):=by congr 1<;>omega
      rw[e];exact hbk.set k _
     case measure=>simp[intOf]<;>omega
    ·have hy:ys.getD k 0=0:=by rw[getD_eq_getElem?_getD,getElem?_eq_none (by rw[E2.out];omega)];rfl
     rw[hy] at HS;clear y0 hy;generalize xs.getD k 0=x at*;go_wp2
     go_roundw
     case rel=>
      refine⟨k+1,(x+c+0) / 2 ^ 32,os++[(x+c+0) % 2 ^ 32],by omega,by omega,by go_num,by first|rfl|(congr 1<;>omega),by show _=_;simp[ho.out],?_,gK hod.out (Nat.mod_lt _ (by omega)),HS.out,hbw.setCell (Nat.le_refl _) _⟩;rw[<-yg os (len+1) k _ ho.out (by omega)];have e:Value.int .u32 (((x+c+0) % 2 ^ 32:Nat):Int)=.int .u32 (((x:Int)+c) % 4294967296):=by congr 1<;>omega
      rw[e];exact hbk.set k _
     case measure=>simp[intOf]<;>omega
   ·obtain rfl:k=len:=by omega
    have hfz:=hbk.frozen k;obtain⟨u,hu⟩:∃u,wr.cell? ⟨G,k,none⟩=some u:=⟨_,hbk.cell (by simp[fV,ho.out])⟩
    have hbk2:=hbk.set k (.int .u32 (c:Int));rw[yg os (k+1) k _ ho.out (by omega)] at hbk2;have hbw2:=hbw.setCell (p:=⟨G,k,none⟩) (Nat.le_refl _) (.int .u32 (c:Int));have kN:=zH hbk2;clear hbk2 hbk;go_wp2_with fail;have hl:((os++[c])++List.replicate (k+1-(k+1)) 0).length=k+1:=by simp[ho.out]
    have hd:∀x∈(os++[c])++List.replicate (k+1-(k+1)) 0,x<2 ^ 32:=by
     rw[Nat.sub_self,replicate_zero,append_nil];exact gK hod.out (by omega)
    refine (jK _ _ _ _ _ hl (Nat.le_refl _) (by unfold maxLen;omega) kN.out.rd).mono ?_;rintro e w2 ⟨rfl,rfl⟩;go_wp2;go_ret;refine⟨_,_,_,rfl,?_,by rw[<-HG.out];exact hbw2⟩;have:=fF.kE hl (Nat.le_refl _) (by unfold maxLen;omega) kN.out.rd hd;have hv2:=hv.out;rw[<-E1.out,take_length,take_of_length_le (by rw[E1.out,E2.out];exact hle),V1.out,V2.out,E1.out] at hv2;rw[<-hv2];rw[Nat.sub_self,replicate_zero,append_nil,gy,ho.out,Nat.mul_comm _ c] at this;exact this
theorem sum_any (A A':Option Addr) (len cap len' cap' n m:Nat) (w:World) (h1:fF w A len cap n) (h2:fF w A' len' cap' m) (hb:len<=1073741824) (hb':len'<=1073741824):
  Calls prog 225 #[.slice A len cap,.slice A' len' cap'] w (vN w (n+m)):=by
 rcases Nat.lt_or_ge len len' with h|h
 ·rw[Nat.add_comm];exact (MG A' A len' cap' len cap m n w h2 h1 (by omega) hb').2 h
 ·exact (MG A A' len cap len' cap' n m w h1 h2 h hb).1
theorem qQ (xs:List Nat) (k y:Nat):(U xs).set k (.int .u32 (y:Int))=U (xs.set k y):=by simp[U,map_set]
theorem xI (A A':Option Addr) (len cap len' cap' n m:Nat) (w:World) (h1:fF w A len cap n) (h2:fF w A' len' cap' m) (hb:len<=536870912) (hb':len'<=536870912):
  Calls prog 240 #[.slice A len cap,.slice A' len' cap'] w (vN w (n*m)):=by
 obtain⟨l1,m1,xs,e1,r1,c1,v1⟩:=h1;obtain⟨l2,m2,ys,e2,r2,c2,v2⟩:=h2;unfold maxLen at m1 m2;have E1:=zH e1;have E2:=zH e2;have V1:=zH v1;have V2:=zH v2;have C1:=zH c1;have C2:=zH c2;have R1:=zH r1;have R2:=zH r2;clear e1 e2 v1 v2 c1 c2 r1 r2;go_enter func240,ntmps240;go_wp2_with (at_make;refine dS _ rfl _ _ 228 rfl 231 (.int .u32 0) 4 underlying228 oH rfl _ _ _ _ (len+len') rfl rfl ?_ ?_ (by omega) (by omega) ?_)
 ·omega
 ·omega
 intro w1 hblk hb1;obtain⟨G,HG⟩:∃G,Hid (G=w.heap.size):=⟨_,rfl⟩
 rw[<-HG.out] at hblk hb1⊢;have HB:=zH hblk;clear hblk;go_wp2
 go_loopw [20] (fun iv wr=>∃(i:Nat) (out:List Nat),i<=len/\iv=.int .i64 i/\Hid (out.length=len+len')/\aj wr G 231 (U out)/\Hid (∀x∈out,x<2 ^ 32)/\Hid (∀p,i+len'<=p->out.getD p 0=0)/\
   Hid (val (2 ^ 32) out=val (2 ^ 32) (xs.take i)*val (2 ^ 32) ys)/\Below G w wr) (fun i _=>len-(intOf i).toNat)
 case atStart=>
  refine⟨0,List.replicate (len+len') 0,by omega,rfl,length_replicate ..,by have:=HB.out;simpa [U] using this,?_,?_,?_,hb1⟩
  ·show ∀x∈_,_;intro x hx;rw[(mem_replicate.1 hx).2];omega
  ·show ∀p,_->_;intro p _;simp[getD_eq_getElem?_getD,getElem?_replicate];split<;>rfl
  ·show _=_;simp[val,tK]
 case round=>
  obtain⟨i,out,hi,rfl,ho,hbk,hod,vS,hv,hbw⟩:=hrel;by_cases hlt:i<len
  ·have hr1:Rd wr A (U xs):=R1.below (by rw[<-HG.out];exact hbw);obtain⟨b,off,rfl,hbb,hcell⟩:=hr1.u (k:=i) (by rw[E1.out];omega);have x0:xs.getD i 0<4294967296:=aP (by omega) C1.out.lt i;obtain⟨x,HX⟩:∃x,Hid (xs.getD i 0=x):=⟨_,rfl⟩
   rw[HX.out] at hcell x0;obtain⟨wo,rfl⟩:∃wo:World,wo=wr:=⟨_,rfl⟩
   have HO:=zH (And.intro hbk hbw);have vS:=vS;clear hbk hr1;go_wp2
   go_loopw [27,8] (fun jv cv wr=>∃(j c:Nat) (out:List Nat),j<=len'/\jv=.int .i64 j/\cv=.int .u64 c/\c<4294967296/\Hid (out.length=len+len')/\aj wr G 231 (U out)/\Hid (∀x∈out,x<2 ^ 32)/\Hid (∀p,i+len'<=p->out.getD p 0=0)/\
    Hid (val (2 ^ 32) out+c*(2 ^ 32) ^ (i+j)=val (2 ^ 32) (xs.take i)*val (2 ^ 32) ys+xs.getD i 0*val (2 ^ 32) (ys.take j)*(2 ^ 32) ^ i)/\Below G w wr) (fun j _ _=>len'-(intOf j).toNat)
   case atStart=>exact⟨0,0,out,by omega,rfl,rfl,by omega,ho,HO.out.1,hod,vS,by show _=_;rw[hv.out];simp[val],HO.out.2⟩
   case round=>
    obtain⟨j,c,out,hj,rfl,rfl,hc,ho,hbk,hod,vS,hv,hbw⟩:=hrel;by_cases hlt2:j<len'
    ·have hr2:Rd wr A' (U ys):=R2.out.below (by rw[<-HG.out];exact hbw);obtain⟨b',off',rfl,Z9,hcell'⟩:=hr2.u (k:=j) (by rw[E2.out];omega);have y0:ys.getD j 0<4294967296:=aP (by omega) C2.out.lt j;have o0:out.getD (i+j) 0<4294967296:=aP (by omega) hod.out (i+j);have AB:=hbk.cell (i:=i+j) (by rw[fV,ho.out];omega);rw[uZ] at AB;have HS:=zH (FC (2 ^ 32) i j xs ys out c (by omega) (by rw[ho.out];omega) hv.out);rw[HX.out] at HS;generalize ys.getD j 0=y at*;generalize out.getD (i+j) 0=o at*;have M:=Au x y o c x0 y0 o0 hc;have M1:(0:Int)<=(x:Int)*y:=by rw[<-Int.natCast_mul];omega
     have M2:(x:Int)*y<=18446744065119617025:=by rw[<-Int.natCast_mul];omega
     have hfz:=hbk.frozen (i+j);have hq:(x*y+o+c) / 2 ^ 32<4294967296:=by rw[Nat.div_lt_iff_lt_mul (by omega)];omega
     go_wp2
     go_roundw
     case rel=>
      refine⟨j+1,(x*y+o+c) / 2 ^ 32,out.set (i+j) ((x*y+o+c) % 2 ^ 32),by omega,by go_num,?_,hq,by show _=_;rw[length_set,ho.out],?_,tN hod.out (Nat.mod_lt _ (by omega)) _,?_,by show _=_;rw[HX.out];exact HS.out,hbw.setCell (Nat.le_refl _) _⟩
      ·simp
      ·rw[<-qQ];have e:Value.int .u32 (((x*y+o+c) % 2 ^ 32:Nat):Int)=.int .u32 (((x:Int)*y+o+c) % 4294967296):=by simp
       rw[e];exact hbk.set _ _
      ·show ∀p,_->_;intro p hp;rw[getD_set_ne _ _ _ _ (by omega)];exact vS.out p hp
     case measure=>simp[intOf]<;>omega
    ·obtain rfl:j=len':=by omega
     have AB:=hbk.cell (i:=i+j) (by rw[fV,ho.out];omega);have hfz:=hbk.frozen (i+j);have HS:=zH (FD (2 ^ 32) i xs ys out c (by rw[ho.out,E2.out];omega) (vS.out _ (by rw[E2.out];omega)) (by rw[E2.out];exact hv.out));rw[E2.out] at HS;go_wp2
     go_roundw
     case rel=>
      refine⟨i+1,out.set (i+j) c,by omega,by go_num,by show _=_;rw[length_set,ho.out],?_,tN hod.out (by omega) _,?_,HS.out,hbw.setCell (Nat.le_refl _) _⟩
      ·rw[<-qQ];exact hbk.set _ _
      ·show ∀p,_->_;intro p hp;rw[getD_set_ne _ _ _ _ (by omega)];exact vS.out p (by omega)
     case measure=>simp[intOf]<;>omega
  ·obtain rfl:i=len:=by omega
   have HK:=zH hbk;clear hbk;go_wp2_with fail;refine (jK _ _ _ _ _ ho.out (Nat.le_refl _) (by unfold maxLen;omega) HK.out.rd).mono ?_;rintro e w2 ⟨rfl,rfl⟩;go_wp2;go_ret;refine⟨_,_,_,rfl,?_,by rw[<-HG.out];exact hbw⟩;have:=fF.kE ho.out (Nat.le_refl _) (by unfold maxLen;omega) HK.out.rd hod.out;rw[hv.out,<-E1.out,take_length,V1.out,V2.out,E1.out] at this;exact this
end Go.Proofs.YtjpbmbgincdjaaaGreatDoor
