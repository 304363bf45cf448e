/- Part: Short Shift Down Est Take Divide DivLong Nat N1. -/
import Derived.Test.YtjpbmbgincdjaaaGreatDoorK04
set_option linter.all false
set_option maxRecDepth 100000
set_option maxHeartbeats 0
namespace Go.Proofs.YtjpbmbgincdjaaaGreatDoor
open Go.RowKit List Tryz
def aac (w:World) (n b:Nat) (e:Ending) (w':World):Prop:=
 ∃A len cap,e=.returned (.tuple #[.slice A len cap,.int .u32 ((n % b:Nat):Int)])/\fF w' A len cap (n / b)/\Below w.heap.size w w'
theorem short_any (A:Option Addr) (len cap n:Nat) (bi:Int) (b:Nat) (w:World) (hbi:bi=b) (h1:fF w A len cap n) (hb:len<=1073741824) (hb0:0<b) (hb1:b<4294967296):
  Calls prog 206 #[.slice A len cap,.int .u32 bi] w (aac w n b):=by
 subst hbi;obtain⟨l1,m1,xs,e1,r1,c1,v1⟩:=h1;unfold maxLen at m1;have E1:=zH e1;have V1:=zH v1;have C1:=zH c1;have R1:=zH r1;clear e1 v1 c1 r1;go_enter func206,ntmps206;go_wp2_with (at_make;refine dS _ rfl _ _ 228 rfl 231 (.int .u32 0) 4 underlying228 oH rfl _ _ _ _ len rfl rfl ?_ ?_ (by omega) (by omega) ?_)
 ·omega
 ·omega
 intro w1 hblk hb1;obtain⟨G,HG⟩:∃G,Hid (G=w.heap.size):=⟨_,rfl⟩
 rw[<-HG.out] at hblk hb1⊢;have HB:=zH hblk;clear hblk;go_wp2
 go_loopw [8,7] (fun iv rv wr=>∃(k r:Nat) (qs:List Nat),k<=len/\r<b/\iv=.int .i64 ((k:Int)-1)/\rv=.int .u64 r/\Hid (qs.length=len-k)/\aj wr G 231 (U (List.replicate k 0++qs))/\Hid (∀x∈qs,x<2 ^ 32)/\
   Hid (val (2 ^ 32) (xs.drop k)=val (2 ^ 32) qs*b+r)/\Below G w wr) (fun i _ _=>(intOf i+1).toNat)
 case atStart=>
  refine⟨len,0,[],by omega,hb0,by go_num,rfl,by show _=_;simp,by have:=HB.out;simpa [U] using this,by show ∀x∈_,_;simp,?_,hb1⟩;show _=_;rw[drop_eq_nil_of_le (by rw[E1.out];omega)];simp[val]
 case round=>
  obtain⟨k,r,qs,hk,hr,rfl,rfl,hq,hbk,DR,hv,hbw⟩:=hrel;by_cases hk0:0<k
  ·obtain⟨k,rfl⟩:∃j,k=j+1:=⟨k-1,by omega⟩
   have hr1:Rd wr A (U xs):=R1.below (by rw[<-HG.out];exact hbw);obtain⟨b',off,rfl,hbb,hcell⟩:=hr1.u (k:=k) (by rw[E1.out];omega);have x0:xs.getD k 0<4294967296:=aP (by omega) C1.out.lt k;have HS:=zH (FH (2 ^ 32) b k xs qs r (by rw[E1.out];omega) hv.out);have hfz:=hbk.frozen k;obtain⟨u,hu⟩:∃u,wr.cell? ⟨G,k,none⟩=some u:=⟨_,hbk.cell (by simp[fV,hq.out];omega)⟩
   generalize xs.getD k 0=x at*;obtain⟨X,HX⟩:∃X,Hid (r*2 ^ 32+x=X):=⟨r*2 ^ 32+x,by show _=_;rfl⟩
   have X1:X<b*4294967296:=by have h:r+1<=b:=hr;have:=Nat.mul_le_mul_right 4294967296 h;have:=HX.out;omega
   have X2:X / b<4294967296:=by rw[Nat.div_lt_iff_lt_mul hb0,Nat.mul_comm];exact X1
   have X3:X % b<b:=Nat.mod_lt _ hb0
   have hor:bits BinOp.or .u64 ((r:Int)*4294967296) (x:Int)=(X:Int):=by
    rw[show (r:Int)*4294967296=((r*2 ^ 32:Nat):Int) from by simp,u64_or_nat _ _ (by omega) (by omega),Nat.or_comm,qC _ _ _ x0,Nat.add_comm,HX.out]
   rw[HX.out] at HS;have d0:((X / b:Nat):Int)=(X:Int) / b:=by simp
   have d1:((X % b:Nat):Int)=(X:Int) % b:=by simp
   have q0:(0:Int)<=(X:Int) / b:=by rw[<-d0];exact Int.natCast_nonneg _
   have q1:(X:Int) / b<4294967296:=by rw[<-d0];omega
   have q2:(0:Int)<=(X:Int) % b:=by rw[<-d1];exact Int.natCast_nonneg _
   have k1:k<len:=by omega
   have q3:(X:Int) % b<b:=by rw[<-d1];omega
   have p0:¬(b=0):=by omega
   have w1:IntKind.u64.wrap (b:Int)=b:=IntWalk.u64_in _ (by omega);have w2:IntKind.u64.wrap ((X:Int) / b)=(X:Int) / b:=IntWalk.u64_in _ (by omega);have w3:IntKind.u64.wrap ((X:Int) % b)=(X:Int) % b:=IntWalk.u64_in _ (by omega);have w4:IntKind.u32.wrap ((X:Int) / b)=(X:Int) / b:=IntWalk.u32_in _ (by omega);have t1:(X:Int).tdiv b=(X:Int) / b:=Int.tdiv_eq_ediv_of_nonneg (by omega);have t2:(X:Int).tmod b=(X:Int) % b:=Int.tmod_eq_emod_of_nonneg (by omega);clear d0 d1;go_wp2_with fail;go_region;go_wp2
   go_roundw
   case rel=>
    refine⟨k,X % b,(X / b)::qs,by omega,X3,by first|rfl|go_num,by first|rfl|simp,by show _=_;simp[hq.out];omega,?_,?_,HS.out,(below_drewN hbw 1).setCell (Nat.le_refl _) _⟩
    ·rw[<-wU k 0 qs 0 (X / b),<-qQ];have e:Value.int .u32 ((X / b:Nat):Int)=.int .u32 ((X:Int) / b):=by simp
     rw[e];exact (hbk.drewN 1).set _ _
    ·show ∀y∈_,_;intro y hy;rcases mem_cons.1 hy with rfl|hy
     ·exact X2
     ·exact DR.out y hy
   case measure=>simp[intOf]<;>omega
  ·obtain rfl:k=0:=by omega
   have HK:=zH hbk;clear hbk;go_wp2_with fail;have hl:(List.replicate 0 0++qs).length=len:=by simp[hq.out]
   refine (jK _ _ _ _ _ hl (Nat.le_refl _) (by unfold maxLen;omega) HK.out.rd).mono ?_;rintro e w2 ⟨rfl,rfl⟩;go_wp2;go_ret2;have hv2:=hv.out;rw[drop_zero,V1.out] at hv2;have:=fF.kE hl (Nat.le_refl _) (by unfold maxLen;omega) HK.out.rd (by simpa using DR.out);rw[replicate_zero,nil_append] at this
   have e1:n / b=val (2 ^ 32) qs:=by
    rw[hv2,Nat.add_comm,Nat.add_mul_div_right _ _ hb0,Nat.div_eq_of_lt hr,Nat.zero_add]
   have e2:n % b=r:=by
    rw[hv2,Nat.add_comm,Nat.add_mul_mod_self_right,Nat.mod_eq_of_lt hr]
   refine⟨_,_,_,?_,by rw[e1];exact this,by rw[<-HG.out];exact hbw⟩;rw[e2];rfl
def ae6 (w:World) (len:Nat) (V:Nat) (e:Ending) (w':World):Prop:=
 ∃G zs,e=.returned (.slice (some ⟨G,0,none⟩) len len)/\w.heap.size<=G/\aj w' G 231 (U zs)/\zs.length=len/\(∀x∈zs,x<2 ^ 32)/\val (2 ^ 32) zs=V/\Below w.heap.size w w'
theorem Xm (A:Option Addr) (len cap n:Nat) (si:Int) (s:Nat) (w:World) (hsi:si=s) (h1:fF w A len cap n) (hb:len<=1073741824) (hs:s<32):
  Calls prog 271 #[.slice A len cap,.int .i64 si] w (ae6 w (len+1) (n*2 ^ s)):=by
 subst hsi;obtain⟨l1,m1,xs,e1,r1,c1,v1⟩:=h1;unfold maxLen at m1;have E1:=zH e1;have V1:=zH v1;have C1:=zH c1;have R1:=zH r1;clear e1 v1 c1 r1;go_enter func271,ntmps271;go_wp2_with (at_make;refine dS _ rfl _ _ 228 rfl 231 (.int .u32 0) 4 underlying228 oH rfl _ _ _ _ (len+1) rfl rfl ?_ ?_ (by omega) (by omega) ?_)
 ·omega
 ·omega
 intro w1 hblk hb1;obtain⟨G,HG⟩:∃G,Hid (G=w.heap.size):=⟨_,rfl⟩
 rw[<-HG.out] at hblk hb1⊢;have HB:=zH hblk;clear hblk;go_wp2
 go_loopw [15] (fun iv wr=>∃(k t:Nat) (os:List Nat),k<=len/\t<2 ^ s/\iv=.int .i64 k/\Hid (os.length=k)/\aj wr G 231 (U ((os++[t])++List.replicate (len-k) 0))/\Hid (∀x∈os,x<2 ^ 32)/\
   Hid (val (2 ^ 32) os+t*(2 ^ 32) ^ k=val (2 ^ 32) (xs.take k)*2 ^ s)/\Below G w wr) (fun i _=>len-(intOf i).toNat)
 case atStart=>
  refine⟨0,0,[],by omega,Nat.pow_pos (by omega),rfl,rfl,?_,by show ∀x∈_,_;simp,by show _=_;simp[val],hb1⟩;have:=HB.out;simpa [U,replicate_succ] using this
 case round=>
  obtain⟨k,t,os,hk,ht,rfl,ho,hbk,hod,hv,hbw⟩:=hrel;by_cases hlt:k<len
  ·have hr1:Rd wr A (U xs):=R1.below (by rw[<-HG.out];exact hbw);obtain⟨b',off,rfl,hbb,hcell⟩:=hr1.u (k:=k) (by rw[E1.out];omega);have x0:xs.getD k 0<4294967296:=aP (by omega) C1.lt k;have HS:=zH (ady k s xs os t ho hv);have hL:(U ((os++[t])++List.replicate (len-k) 0)).length=len+1:=by simp[fV,ho.out];omega
   have hf1:=hbk.frozen k;have hf2:=hbk.frozen (k+1)
   have hc1:wr.cell? ⟨G,k,none⟩=some (.int .u32 (t:Int)):=by
    rw[hbk.cell (by omega),uZ];simp[getD_eq_getElem?_getD,<-ho.out]
   obtain⟨u2,hc2⟩:∃u,wr.cell? ⟨G,k+1,none⟩=some u:=⟨_,hbk.cell (by omega)⟩
   generalize xs.getD k 0=x at*;go_wp2
   go_roundw
   case rel=>
    have c2:=Z4 x s hs x0;have hp:(2:Nat) ^ s<4294967296:=Nat.pow_lt_pow_right (a:=2) (m:=s) (n:=32) (by omega) hs;have d1:=Qm x s t hs ht
    have hmul:x*2 ^ s<18446744073709551616:=by
     have:=Nat.mul_lt_mul_of_lt_of_le x0 (Nat.le_of_lt hp) (by omega);omega
    have ew:IntKind.u64.wrap ((x:Int)*2 ^ s)=((x*2 ^ s:Nat):Int):=by
     rw[show (x:Int)*2 ^ s=((x*2 ^ s:Nat):Int) from by simp];exact IntWalk.u64_in _ (by omega)
    have f1:Value.int .u32 (bits BinOp.or .u32 (t:Int) (IntKind.u64.wrap ((x:Int)*2 ^ s) % 4294967296))=.int .u32 ((t+x*2 ^ s % 4294967296:Nat):Int):=by
     rw[ew,show ((x*2 ^ s:Nat):Int) % 4294967296=((x*2 ^ s % 4294967296:Nat):Int) from by omega,u32_or_nat _ _ (by omega) (by omega),ZY x s t hs ht]
    have f2:Value.int .u32 (IntKind.u64.wrap ((x:Int)*2 ^ s) / 4294967296 % 4294967296)=.int .u32 ((x*2 ^ s / 4294967296:Nat):Int):=by
     rw[ew];congr 1;omega
    rw[f1,f2];refine⟨k+1,x*2 ^ s / 4294967296,os++[t+x*2 ^ s % 4294967296],by omega,c2,by go_num,by show _=_;simp[ho.out],?_,gK hod d1,HS,(hbw.setCell (Nat.le_refl _) _).setCell (Nat.le_refl _) _⟩;have h1:=(hbk.set k (.int .u32 ((t+x*2 ^ s % 4294967296:Nat):Int))).set (k+1) (.int .u32 ((x*2 ^ s / 4294967296:Nat):Int))
    have e1:((U ((os++[t])++List.replicate (len-k) 0)).set k (.int .u32 ((t+x*2 ^ s % 4294967296:Nat):Int))).set (k+1) (.int .u32 ((x*2 ^ s / 4294967296:Nat):Int))=
      U ((os++[t+x*2 ^ s % 4294967296]++[x*2 ^ s / 4294967296])++List.replicate (len-(k+1)) 0):=by
     rw[qQ,qQ];congr 1;rw[append_assoc,set_append_right _ _ (by rw[ho.out];omega),ho.out,Nat.sub_self,singleton_append,set_cons_zero,<-singleton_append,<-append_assoc];exact LY (os++[t+x*2 ^ s % 4294967296]) (len+1) (k+1) 0 (x*2 ^ s / 4294967296) (by simp[ho.out]) (by omega) |>.trans (by simp) |> (by simpa using ·)
    rw[e1] at h1;exact h1
   case measure=>simp[intOf]<;>omega
  ·obtain rfl:k=len:=by omega
   have HK:=zH hbk;clear hbk;go_wp2;go_ret;refine⟨G,os++[t],rfl,by rw[HG.out];exact Nat.le_refl _,by have:=HK.out;simpa using this,by simp[ho.out],gK hod.out ?_,?_,by rw[<-HG.out];exact hbw⟩
   ·exact Nat.lt_trans ht (Nat.pow_lt_pow_right (by omega) hs)
   ·have:=hv.out;rw[<-E1.out,take_length,V1.out,E1.out] at this;rw[gy,ho.out,Nat.mul_comm _ t,this]
theorem aad (xs:List Nat) (h:∀x∈xs,x<2 ^ 32) (s:Nat):val (2 ^ 32) (fM xs.length (val (2 ^ 32) xs / 2 ^ s))=val (2 ^ 32) xs / 2 ^ s:=by
 rw[LX];exact Nat.mod_eq_of_lt (Nat.lt_of_le_of_lt (Nat.div_le_self _ _) (iE _ _ h))
theorem aae (A:Option Addr) (len cap:Nat) (xs:List Nat) (si:Int) (s:Nat) (w:World) (hsi:si=s) (e1:xs.length=len) (r1:Rd w A (U xs)) (d1:∀x∈xs,x<2 ^ 32) (hb:len<=1073741824) (hs:s<32):
  Calls prog 275 #[.slice A len cap,.int .i64 si] w (vN w (val (2 ^ 32) xs / 2 ^ s)):=by
 subst hsi;have E1:=zH e1;have D1:=zH d1;have R1:=zH r1;clear e1 d1 r1;obtain⟨N,hN⟩:=zF (val (2 ^ 32) xs / 2 ^ s);have HN:=zH hN;rw[hN];clear hN;go_enter func275,ntmps275;go_wp2_with (at_make;refine dS _ rfl _ _ 228 rfl 231 (.int .u32 0) 4 underlying228 oH rfl _ _ _ _ len rfl rfl ?_ ?_ (by omega) (by omega) ?_)
 ·omega
 ·omega
 intro w1 hblk hb1;obtain⟨G,HG⟩:∃G,Hid (G=w.heap.size):=⟨_,rfl⟩
 rw[<-HG.out] at hblk hb1⊢;have HB:=zH hblk;clear hblk;go_wp2
 go_loopw [13] (fun iv wr=>∃(k:Nat),k<=len/\iv=.int .i64 k/\aj wr G 231 (U (fM k N++List.replicate (len-k) 0))/\Below G w wr) (fun i _=>len-(intOf i).toNat)
 case atStart=>exact⟨0,by omega,rfl,by have:=HB.out;simpa [U,fM] using this,hb1⟩
 case round=>
  obtain⟨k,hk,rfl,hbk,hbw⟩:=hrel;by_cases hlt:k<len
  ·have hr1:Rd wr A (U xs):=R1.below (by rw[<-HG.out];exact hbw);obtain⟨b',off,rfl,hbb,hcell⟩:=hr1.u (k:=k) (by rw[E1.out];omega);have x0:xs.getD k 0<4294967296:=aP (by omega) D1 k;have y0:xs.getD (k+1) 0<4294967296:=aP (by omega) D1 (k+1);have HD:=zH (Ug xs D1.out k s hs (by rw[E1.out];omega));rw[HN.out] at HD;have HO:=zH (adz (xs.getD k 0) (xs.getD (k+1) 0) s hs x0);have hL:(U (fM k N++List.replicate (len-k) 0)).length=len:=by simp[fV,jw];omega
   have hf1:=hbk.frozen k;obtain⟨u2,hc2⟩:∃u,wr.cell? ⟨G,k,none⟩=some u:=⟨_,hbk.cell (by omega)⟩
   have hset:∀y:Nat,(U (fM k N++List.replicate (len-k) 0)).set k (.int .u32 (y:Int))=U ((fM k N++[y])++List.replicate (len-(k+1)) 0):=fun y=>yg (fM k N) len k y (jw _ _) hlt
   have HS:=zH hset;clear hset;by_cases hk2:k+1<len
   ·obtain⟨_,_,hA,_,hcell2⟩:=hr1.u (k:=k+1) (by rw[E1.out];omega);injection hA with hA;injection hA with hA1 hA2;subst hA1 hA2;clear hr1;generalize xs.getD k 0=x at*;generalize xs.getD (k+1) 0=y at*;have q1:IntKind.i64.wrap (32-(s:Int))=32-(s:Int):=IntWalk.i64_in _ (by omega);have q2:(32-(s:Int)).toNat=32-s:=by omega
    have q3:(0:Int)<=32-(s:Int):=by omega
    have q4:(s:Int)<=32:=by omega
    have q5:k<len:=hlt;go_wp2_with fail;go_region;clear q1 q2 q3 q4 q5;go_wp2
    go_roundw
    case rel=>
     have hp:(2:Nat) ^ (32-s)<=4294967296:=by have:=Nat.pow_le_pow_right (n:=2) (by omega) (show 32-s<=32 by omega);simpa using this
     have hmul:y*2 ^ (32-s)<18446744073709551616:=by
      have:=Nat.mul_lt_mul_of_lt_of_le y0 hp (by omega);omega
     have ew:IntKind.u64.wrap ((y:Int)*2 ^ (32-s))=((y*2 ^ (32-s):Nat):Int):=by
      rw[show (y:Int)*2 ^ (32-s)=((y*2 ^ (32-s):Nat):Int) from by simp];exact IntWalk.u64_in _ (by omega)
     have exs:(x:Int) / 2 ^ s=((x / 2 ^ s:Nat):Int):=by simp
     have hxl:x / 2 ^ s<4294967296:=Nat.lt_of_le_of_lt (Nat.div_le_self _ _) x0
     have f1:Value.int .u32 (bits BinOp.or .u32 ((x:Int) / 2 ^ s) (IntKind.u64.wrap ((y:Int)*2 ^ (32-s)) % 4294967296))=.int .u32 ((N / (2 ^ 32) ^ k % 2 ^ 32:Nat):Int):=by
      rw[ew,exs,show ((y*2 ^ (32-s):Nat):Int) % 4294967296=((y*2 ^ (32-s) % 4294967296:Nat):Int) from by omega,u32_or_nat _ _ hxl (by omega),HO.out,HD.out]
     rw[f1];refine⟨k+1,by omega,by go_num,?_,((hbw.setCell (Nat.le_refl _) _).setCell (Nat.le_refl _) _).drew⟩;have h1:=(hbk.set k (.int .u32 ((x:Int) / 2 ^ s))).set k (.int .u32 ((N / (2 ^ 32) ^ k % 2 ^ 32:Nat):Int));rw[set_set,HS.out,<-Jm] at h1;exact h1.drew
    case measure=>simp[intOf]<;>omega
   ·have hy:xs.getD (k+1) 0=0:=by rw[getD_eq_getElem?_getD,getElem?_eq_none (by rw[E1.out];omega)];rfl
    rw[hy] at HD HO;clear hy y0 hr1;generalize xs.getD k 0=x at*;go_wp2
    go_roundw
    case rel=>
     have exs:Value.int .u32 ((x:Int) / 2 ^ s)=.int .u32 ((N / (2 ^ 32) ^ k % 2 ^ 32:Nat):Int):=by
      have:=HD.out;rw[this];simp
     rw[exs];refine⟨k+1,by omega,by go_num,?_,hbw.setCell (Nat.le_refl _) _⟩;have h1:=hbk.set k (.int .u32 ((N / (2 ^ 32) ^ k % 2 ^ 32:Nat):Int));rw[HS.out,<-Jm] at h1;exact h1
    case measure=>simp[intOf]<;>omega
  ·obtain rfl:k=len:=by omega
   have HK:=zH hbk;clear hbk;go_wp2_with fail;have hl:(fM k N++List.replicate (k-k) 0).length=k:=by simp[jw]
   refine (jK _ _ _ _ _ hl (Nat.le_refl _) (by unfold maxLen;omega) HK.out.rd).mono ?_;rintro e w2 ⟨rfl,rfl⟩;go_wp2;go_ret;refine⟨_,_,_,rfl,?_,by rw[<-HG.out];exact hbw⟩;have:=fF.kE hl (Nat.le_refl _) (by unfold maxLen;omega) HK.out.rd (by simpa using Q5 k N);rw[Nat.sub_self,replicate_zero,append_nil] at this;have e2:=aad xs D1.out s;rw[E1.out,HN.out] at e2;rw[e2] at this;exact this
theorem MJ (u0 u1 u2 v0 v1 v2:Nat) (w:World) (hu0:u0<=v0) (hu1:u1<4294967296) (hu2:u2<4294967296) (hv0:0<v0) (hv0':v0<4294967296) (hv1:v1<4294967296):
  Calls prog 272 #[.agg #[.int .u32 (u0:Int),.int .u32 (u1:Int),.int .u32 (u2:Int)],.agg #[.int .u32 (v0:Int),.int .u32 (v1:Int),.int .u32 (v2:Int)]] w fun e w'=>
   e=.returned (.int .u64 (nV u0 u1 u2 v0 v1:Nat))/\Below w.heap.size w w':=by
 obtain⟨Q,hQ⟩:=zF (nV u0 u1 u2 v0 v1);have HQ:=zH hQ;rw[hQ];clear hQ;obtain⟨T,hT⟩:=zF (u0*2 ^ 32+u1);have HT:=zH hT;have hT1:T<18446744073709551616:=by omega
 have or1:bits BinOp.or .u64 ((u0:Int)*4294967296) (u1:Int)=(T:Int):=by
  rw[show (u0:Int)*4294967296=((u0*2 ^ 32:Nat):Int) from by simp,u64_or_nat _ _ (by omega) (by omega),Nat.or_comm,qC _ _ _ hu1,Nat.add_comm,HT.out]
 clear hT
 have HS:Hid (Q<=T / v0):=by
  have:=WZ u0 u1 u2 v0 v1 hv0 hu2;rw[HQ.out] at this;rwa[<-HT.out]
 have d0:((T / v0:Nat):Int)=(T:Int) / v0:=by simp
 have d1:((T % v0:Nat):Int)=(T:Int) % v0:=by simp
 have X2:T / v0<=T:=Nat.div_le_self _ _;have X3:T % v0<v0:=Nat.mod_lt _ hv0;have q0:(0:Int)<=(T:Int) / v0:=by rw[<-d0];exact Int.natCast_nonneg _
 have q1:(T:Int) / v0<18446744073709551616:=by rw[<-d0];omega
 have q2:(0:Int)<=(T:Int) % v0:=by rw[<-d1];exact Int.natCast_nonneg _
 have q3:(T:Int) % v0<v0:=by rw[<-d1];omega
 have p0:¬(v0=0):=by omega
 have w1:IntKind.u64.wrap (v0:Int)=v0:=IntWalk.u64_in _ (by omega);have w2:IntKind.u64.wrap ((T:Int) / v0)=(T:Int) / v0:=IntWalk.u64_in _ (by omega);have w3:IntKind.u64.wrap ((T:Int) % v0)=(T:Int) % v0:=IntWalk.u64_in _ (by omega);have t1:(T:Int).tdiv v0=(T:Int) / v0:=Int.tdiv_eq_ediv_of_nonneg (by omega);have t2:(T:Int).tmod v0=(T:Int) % v0:=Int.tmod_eq_emod_of_nonneg (by omega);have HD:=zH (And.intro d0 d1);clear d0 d1;go_enter func272,ntmps272;go_wp2_with fail
 go_step3
 go_wp2_with fail;go_region;go_wp2_with fail
 go_step3
 go_wp2_with fail;clear w1 w2 w3 t1 t2 p0 or1
 go_loop [6,7] (fun qv rv=>∃q r:Nat,r<4294967296/\q<=T/\qv=.int .u64 q/\rv=.int .u64 r/\Hid (q*v0+r=T)/\Hid (Q<=q)) (fun qv _=>(intOf qv).toNat)
 case atStart=>exact⟨T / v0,T % v0,by omega,X2,by rw[HD.out.1],by rw[HD.out.2],by show _=_;rw[Nat.mul_comm];exact Nat.div_add_mod T v0,HS⟩
 case round=>
  obtain⟨q,r,hr,hqT,rfl,rfl,he,hq⟩:=hrel;clear q0 q1 q2 q3 X2 X3;have Xn:Hid (q*v0+r=u0*4294967296+u1):=he.trans HT.symm;by_cases hqm:4294967295<q
  ·have G1:=zH (WY u0 u1 u2 v0 v1 q r hv0 Xn (.inl hqm) (by rw[HQ.out];exact hq));rw[HQ.out] at G1;have hq':(4294967295:Int)<q:=by omega
   by_cases hrb:4294967295<r+v0
   ·go_wp2;go_ret;refine⟨?_,by rw[show w.heap.size=w.heap.size from rfl];exact ((zB _ _).alloc (by simp) _).drew⟩
    have e:=Jo u0 u1 u2 v0 v1 (q-1) (r+v0) hv0 hu0 hu1 hv1 (by
     have h2:=Xn.out;obtain⟨q',rfl⟩:∃q',q=q'+1:=⟨q-1,by have:=G1.2;omega⟩
     rw[Nat.add_mul] at h2;rw[Nat.add_sub_cancel];omega) hrb (by rw[HQ.out];exact G1.1)
    rw[HQ.out] at e;have hq0:=G1.2;show Ending.returned (.int .u64 ((q:Int)-1))=_;rw[<-e];congr 2;omega
   ·go_wp2
    go_round
    case rel=>
     have hq0:=G1.2;refine⟨q-1,r+v0,by omega,by omega,by congr 1;omega,by congr 1,?_,G1.1⟩;show _=_;have h2:=he.out;obtain⟨q',rfl⟩:∃q',q=q'+1:=⟨q-1,by omega⟩
     rw[Nat.add_mul] at h2;rw[Nat.add_sub_cancel];omega
    case measure=>have hq0:=G1.2;simp[intOf]<;>omega
  ·have hq':(q:Int)<=4294967295:=by omega
   have hqn:q<=4294967295:=by omega
   clear hqm;obtain⟨R,hR⟩:=zF (r*2 ^ 32+u2);have HR:=zH hR;have hR1:R<18446744073709551616:=by omega
   have or2:bits BinOp.or .u64 ((r:Int)*4294967296) (u2:Int)=(R:Int):=by
    rw[show (r:Int)*4294967296=((r*2 ^ 32:Nat):Int) from by simp,u64_or_nat _ _ (by omega) (by omega),Nat.or_comm,qC _ _ _ hu2,Nat.add_comm,HR.out]
   clear hR;have M:=Au q v1 0 0 (by omega) hv1 (by omega) (by omega);have M1:(0:Int)<=(q:Int)*v1:=by rw[<-Int.natCast_mul];omega
   have M2:(q:Int)*v1<=18446744065119617025:=by rw[<-Int.natCast_mul];omega
   by_cases hc:R<q*v1
   ·have G1:=zH (WY u0 u1 u2 v0 v1 q r hv0 Xn (.inr (by have:=HR.out;omega)) (by rw[HQ.out];exact hq.out));rw[HQ.out] at G1;have hc':(R:Int)<(q:Int)*v1:=by rw[<-Int.natCast_mul];omega
    have hq1:1<=q:=G1.out.2;by_cases hrb:4294967295<r+v0
    ·go_wp2;go_ret;refine⟨?_,by rw[show w.heap.size=w.heap.size from rfl];exact ((zB _ _).alloc (by simp) _).drew⟩
     have e:=Jo u0 u1 u2 v0 v1 (q-1) (r+v0) hv0 hu0 hu1 hv1 (by
      have h2:=Xn.out;obtain⟨q',rfl⟩:∃q',q=q'+1:=⟨q-1,by have:=G1.out.2;omega⟩
      rw[Nat.add_mul] at h2;rw[Nat.add_sub_cancel];omega) hrb (by rw[HQ.out];exact G1.out.1)
     rw[HQ.out] at e;have hq0:=G1.out.2;show Ending.returned (.int .u64 ((q:Int)-1))=_;rw[<-e];congr 2;omega
    ·go_wp2
     go_round
     case rel=>
      have hq0:=G1.out.2;refine⟨q-1,r+v0,by omega,by omega,by congr 1;omega,by congr 1,?_,G1.out.1⟩;show _=_;have h2:=he.out;obtain⟨q',rfl⟩:∃q',q=q'+1:=⟨q-1,by omega⟩
      rw[Nat.add_mul] at h2;rw[Nat.add_sub_cancel];omega
     case measure=>have hq0:=G1.out.2;simp[intOf]<;>omega
   ·have hc':(q:Int)*v1<=R:=by rw[<-Int.natCast_mul];omega
    have e:=zH (Q8 u0 u1 u2 v0 v1 q r hv0 Xn.out hqn (by have:=HR.out;omega) (by rw[HQ.out];exact hq.out));rw[HQ.out] at e;go_wp2;go_ret;refine⟨?_,((zB _ _).alloc (by simp) _).drew⟩;rw[<-e.out];rfl
theorem Ju (u pm b:Nat) (hu:u<4294967296) (hp:pm<4294967296) (hb:b<=1):
  ∃E D:Nat,IntKind.u64.wrap ((u:Int)-pm)=E/\IntKind.u64.wrap ((E:Int)-b)=D/\E<18446744073709551616/\D<18446744073709551616/\
   D % 4294967296+pm+b=u+(D / 9223372036854775808)*4294967296/\D / 9223372036854775808<=1:=by
 rcases Nat.lt_or_ge u pm with h|h
 ·refine⟨u+18446744073709551616-pm,u+18446744073709551616-pm-b,?_,?_,by omega,by omega,by omega,by omega⟩
  ·rw[IntKind.wrap_u64];omega
  ·rw[IntKind.wrap_u64];omega
 ·rcases Nat.lt_or_ge (u-pm) b with h2|h2
  ·refine⟨u-pm,u+18446744073709551616-pm-b,?_,?_,by omega,by omega,by omega,by omega⟩
   ·rw[IntKind.wrap_u64];omega
   ·rw[IntKind.wrap_u64];omega
  ·refine⟨u-pm,u-pm-b,?_,?_,by omega,by omega,by omega,by omega⟩
   ·rw[IntKind.wrap_u64];omega
   ·rw[IntKind.wrap_u64];omega
theorem aaf (p:Nat) (hp:p<18446744073709551616):bits BinOp.and .u64 (p:Int) 4294967295=((p % 4294967296:Nat):Int):=by
 rw[show (4294967295:Int)=((4294967295:Nat):Int) from rfl,u64_and_nat _ _ hp (by omega)];have:=Nat.and_two_pow_sub_one_eq_mod p 32;rw[show (2:Nat) ^ 32-1=4294967295 from rfl] at this;rw[this]
structure Turned (G j n:Nat) (zs zs':List Nat) (w w':World):Prop where
 blk:aj w' G 231 (U zs')
 len:zs'.length=zs.length
 out:∀p,(p<j∨j+n<p)->zs'.getD p 0=zs.getD p 0
 lt:∀x∈zs',x<2 ^ 32
 lJ:bW G w w'
def adI (G j n q:Nat) (zs ys:List Nat) (w:World) (e:Ending) (w':World):Prop:=
 ∃zs' c,c<=1/\e=.returned (.bool (c==1))/\Turned G j n zs zs' w w'/\val (2 ^ 32) (seg zs j (n+1))+c*(2 ^ 32) ^ (n+1)=val (2 ^ 32) (seg zs' j (n+1))+q*val (2 ^ 32) ys
theorem take_any (G j cap b off n aag q:Nat) (zs ys:List Nat) (w:World) (hz:aj w G 231 (U zs)) (hy:Rd w (some ⟨b,off,none⟩) (U ys)) (hne:b≠G) (hn:ys.length=n) (hjn:j+n<zs.length) (hcap:n+1<=cap)
  (hzd:∀x∈zs,x<2 ^ 32) (Jv:∀x∈ys,x<2 ^ 32) (hq:q<4294967296) (hlen:zs.length<=4294967296):
  Calls prog 273 #[.slice (some ⟨G,j,none⟩) (n+1) cap,.slice (some ⟨b,off,none⟩) n aag,.int .u64 (q:Int)] w (adI G j n q zs ys w):=by
 have hz0:=hz;have HZ:=zH hz;have HY:=zH hy;have HN:=zH hn;have HZD:=zH hzd;have HYD:=zH Jv;clear hz hy hn hzd Jv hz0;go_enter func273,ntmps273;go_wp2
 go_loopw [15,7,8] (fun iv cv bv wr=>∃(i c t:Nat) (zi:List Nat),i<=n/\c<4294967296/\t<=1/\iv=.int .i64 i/\cv=.int .u64 c/\bv=.int .u64 t/\aj wr G 231 (U zi)/\Hid (zi.length=zs.length)/\
   Hid (∀p,(p<j∨j+i<=p)->zi.getD p 0=zs.getD p 0)/\Hid (∀x∈zi,x<2 ^ 32)/\bW G w wr/\
   Hid (val (2 ^ 32) (seg zs j i)+(c+t)*(2 ^ 32) ^ i=val (2 ^ 32) (seg zi j i)+q*val (2 ^ 32) (ys.take i))) (fun i _ _ _=>n-(intOf i).toNat)
 case atStart=>exact⟨0,0,0,zs,by omega,by omega,by omega,rfl,rfl,rfl,HZ,rfl,fun _ _=>rfl,HZD,bW.refl _ _,by show _=_;simp[L8,val]⟩
 case round=>
  obtain⟨i,c,t,zi,hi,hc,ht,rfl,rfl,rfl,hbk,hl,hout,hzl,Ew,hv⟩:=hrel;by_cases hlt:i<n
  ·have hr1:=Ew.rd HY hne;obtain⟨_,_,hA,_,hcell⟩:=hr1.u (k:=i) (by rw[HN.out];omega);injection hA with hA;injection hA with hA1 hA2;subst hA1 hA2;have v0:ys.getD i 0<4294967296:=aP (by omega) HYD i;have u0:zi.getD (j+i) 0<4294967296:=aP (by omega) hzl (j+i);have FY:=hbk.cell (i:=j+i) (by rw[fV,hl.out];omega);rw[uZ] at FY;have hfz:=hbk.frozen (j+i);have HU:=zH (hout (j+i) (.inr (Nat.le_refl _)));have HS:=zH (fun y t'=>Jq (2 ^ 32) i q zs zi ys j c t y t' (by omega) (by rw[hl.out];omega) (seg_length _ _ _ (by rw[hl.out];omega)) (seg_length _ _ _ (by omega)) hv);obtain⟨v,hvv⟩:=zF (ys.getD i 0);have HV:=zH hvv;rw[hvv] at hcell v0;clear hvv hr1;obtain⟨u,MK⟩:=zF (zi.getD (j+i) 0);have HU2:=zH MK;rw[MK] at FY u0;clear MK;have M:=Au q v 0 0 hq v0 (by omega) (by omega);have M1:(0:Int)<=(q:Int)*v:=by rw[<-Int.natCast_mul];omega
   have M2:(q:Int)*v<=18446744065119617025:=by rw[<-Int.natCast_mul];omega
   obtain⟨P,hP⟩:=zF (q*v+c);have HP:=zH hP;have hPi:(q:Int)*v+c=(P:Int):=by rw[<-hP];simp
   have hP1:P<18446744073709551616:=by omega
   have hP2:P / 4294967296<4294967296:=by omega
   clear hP;have ha:=aaf P hP1;obtain⟨pm,hpm⟩:=zF (P % 4294967296);have HPM:=zH hpm;have aks:pm<4294967296:=by omega
   rw[hpm] at ha;clear hpm;obtain⟨E,D,hE,hD,hE1,hD1,hE2,hD2⟩:=Ju u pm t u0 aks ht;have HE2:=zH hE2;clear hE2;go_wp2
   go_roundw
   case rel=>
    refine⟨i+1,P / 4294967296,D / 9223372036854775808,zi.set (j+i) (D % 4294967296),by omega,hP2,hD2,by go_num,by simp,by simp,?_,by show _=_;rw[length_set,hl.out],?_,tN hzl (Nat.mod_lt _ (by omega)) _,Ew.set _ _,?_⟩
    ·rw[<-qQ,show ((D % 4294967296:Nat):Int)=(D:Int) % 4294967296 from by simp];exact hbk.set _ _
    ·show ∀p,_->_;intro p hp;rw[getD_set_ne _ _ _ _ (by omega)];exact hout p (by omega)
    ·have h:=HS (D % 4294967296) (D / 9223372036854775808);rw[HV.out,HP.out,<-HU.out,HU2.out,show (2:Nat) ^ 32=4294967296 from rfl,HPM.out] at h;exact h HE2.out
   case measure=>simp[intOf]<;>omega
  ·obtain rfl:i=n:=by omega
   have u0:zi.getD (j+i) 0<4294967296:=aP (by omega) hzl (j+i);have FY:=hbk.cell (i:=j+i) (by rw[fV,hl.out];omega);rw[uZ] at FY;have hfz:=hbk.frozen (j+i);have HU:=zH (hout (j+i) (.inr (Nat.le_refl _)));have HS:=zH (fun y t'=>Jq (2 ^ 32) i q zs zi ys j c t y t' (by omega) (by rw[hl.out];omega) (seg_length _ _ _ (by rw[hl.out];omega)) (seg_length _ _ _ (by omega)) hv)
   have HY0:Hid (ys.getD i 0=0):=by
    show _=_;rw[getD_eq_getElem?_getD,getElem?_eq_none (by rw[HN.out];omega)];rfl
   obtain⟨u,MK⟩:=zF (zi.getD (j+i) 0);have HU2:=zH MK;rw[MK] at FY u0;clear MK;obtain⟨E,D,hE,hD,hE1,hD1,hE2,hD2⟩:=Ju u c t u0 hc ht;have HE2:=zH hE2;clear hE2
   have HF:Hid (val (2 ^ 32) (seg zs j (i+1))+(D / 9223372036854775808)*(2 ^ 32) ^ (i+1)=val (2 ^ 32) (seg (zi.set (j+i) (D % 4294967296)) j (i+1))+q*val (2 ^ 32) ys):=by
    have h:=HS (D % 4294967296) (D / 9223372036854775808);rw[HY0.out,Nat.mul_zero,Nat.zero_add,<-HU.out,HU2.out,show (2:Nat) ^ 32=4294967296 from rfl,Nat.mod_eq_of_lt hc,Nat.div_eq_of_lt hc,Nat.zero_add,take_of_length_le (by rw[HN.out];omega)] at h;exact h HE2.out
   have HT:Hid (Turned G j i zs (zi.set (j+i) (D % 4294967296)) w (wr.setCell ⟨G,j+i,none⟩ (.int .u32 ((D % 4294967296:Nat):Int)))):=by
    refine⟨?_,by rw[length_set,hl.out],?_,tN hzl (Nat.mod_lt _ (by omega)) _,Ew.set _ _⟩
    ·rw[<-qQ];exact hbk.set _ _
    ·intro p hp;rw[getD_set_ne _ _ _ _ (by omega)];exact hout p (by omega)
   rw[show ((D % 4294967296:Nat):Int)=(D:Int) % 4294967296 from by simp] at HT;have hD3:D / 9223372036854775808=0∨D / 9223372036854775808=1:=by omega
   rcases hD3 with hD3|hD3
   ·have hD4:(D:Int) / 9223372036854775808=0:=by omega
    rw[hD3] at HF;clear hD2 hD3;go_wp2;go_ret;exact⟨_,0,by omega,rfl,HT,HF⟩
   ·have hD4:(D:Int) / 9223372036854775808=1:=by omega
    rw[hD3] at HF;clear hD2 hD3;go_wp2;go_ret;exact⟨_,1,by omega,rfl,HT,HF⟩
def adJ (G j n:Nat) (zs ys:List Nat) (w:World) (e:Ending) (w':World):Prop:=
 ∃zs' c,e=.returned (.tuple #[])/\Turned G j n zs zs' w w'/\val (2 ^ 32) (seg zs j (n+1))+val (2 ^ 32) ys=val (2 ^ 32) (seg zs' j (n+1))+c*(2 ^ 32) ^ (n+1)
theorem aah (G j cap b off n aag:Nat) (zs ys:List Nat) (w:World) (hz:aj w G 231 (U zs)) (hy:Rd w (some ⟨b,off,none⟩) (U ys)) (hne:b≠G) (hn:ys.length=n) (hjn:j+n<zs.length) (hcap:n+1<=cap)
  (hzd:∀x∈zs,x<2 ^ 32) (Jv:∀x∈ys,x<2 ^ 32) (hlen:zs.length<=4294967296):
  Calls prog 274 #[.slice (some ⟨G,j,none⟩) (n+1) cap,.slice (some ⟨b,off,none⟩) n aag] w (adJ G j n zs ys w):=by
 have HZ:=zH hz;have HY:=zH hy;have HN:=zH hn;have HZD:=zH hzd;have HYD:=zH Jv;clear hz hy hn hzd Jv;go_enter func274,ntmps274;go_wp2
 go_loopw [9,4] (fun iv cv wr=>∃(i c:Nat) (zi:List Nat),i<=n/\c<=1/\iv=.int .i64 i/\cv=.int .u64 c/\aj wr G 231 (U zi)/\Hid (zi.length=zs.length)/\
   Hid (∀p,(p<j∨j+i<=p)->zi.getD p 0=zs.getD p 0)/\Hid (∀x∈zi,x<2 ^ 32)/\bW G w wr/\
   Hid (val (2 ^ 32) (seg zs j i)+val (2 ^ 32) (ys.take i)=val (2 ^ 32) (seg zi j i)+c*(2 ^ 32) ^ i)) (fun i _ _=>n-(intOf i).toNat)
 case atStart=>exact⟨0,0,zs,by omega,by omega,rfl,rfl,HZ,rfl,fun _ _=>rfl,HZD,bW.refl _ _,by show _=_;simp[L8,val]⟩
 case round=>
  obtain⟨i,c,zi,hi,hc,rfl,rfl,hbk,hl,hout,hzl,Ew,hv⟩:=hrel;by_cases hlt:i<n
  ·have hr1:=Ew.rd HY hne;obtain⟨_,_,hA,_,hcell⟩:=hr1.u (k:=i) (by rw[HN.out];omega);injection hA with hA;injection hA with hA1 hA2;subst hA1 hA2;have v0:ys.getD i 0<4294967296:=aP (by omega) HYD i;have u0:zi.getD (j+i) 0<4294967296:=aP (by omega) hzl (j+i);have FY:=hbk.cell (i:=j+i) (by rw[fV,hl.out];omega);rw[uZ] at FY;have hfz:=hbk.frozen (j+i);have HU:=zH (hout (j+i) (.inr (Nat.le_refl _)));have HS:=zH (Jr (2 ^ 32) i zs zi ys j c (by omega) (by rw[hl.out];omega) (seg_length _ _ _ (by rw[hl.out];omega)) (seg_length _ _ _ (by omega)) hv);rw[<-HU.out] at HS;generalize ys.getD i 0=v at*;generalize zi.getD (j+i) 0=u at*;clear hr1;go_wp2_with fail;go_quiet (fail);go_wp2
   go_roundw
   case rel=>
    refine⟨i+1,(u+v+c) / 2 ^ 32,zi.set (j+i) ((u+v+c) % 2 ^ 32),by omega,by omega,by go_num,by simp,?_,by show _=_;rw[length_set,hl.out],?_,tN hzl (Nat.mod_lt _ (by omega)) _,(Ew.drewN _).set _ _,HS⟩
    ·rw[<-qQ,show (((u+v+c) % 2 ^ 32:Nat):Int)=((u:Int)+v+c) % 4294967296 from by simp];exact (hbk.drewN _).set _ _
    ·show ∀p,_->_;intro p hp;rw[getD_set_ne _ _ _ _ (by omega)];exact hout p (by omega)
   case measure=>simp[intOf]<;>omega
  ·obtain rfl:i=n:=by omega
   have u0:zi.getD (j+i) 0<4294967296:=aP (by omega) hzl (j+i);have FY:=hbk.cell (i:=j+i) (by rw[fV,hl.out];omega);rw[uZ] at FY;have hfz:=hbk.frozen (j+i);have HU:=zH (hout (j+i) (.inr (Nat.le_refl _)));have HS:=zH (Xb (2 ^ 32) i zs zi ys j c (by rw[HN.out];omega) (by omega) (by rw[hl.out];omega) (seg_length _ _ _ (by rw[hl.out];omega)) (seg_length _ _ _ (by omega)) hv);rw[<-HU.out] at HS;generalize zi.getD (j+i) 0=u at*;go_wp2;go_end0;refine⟨zi.set (j+i) ((u+c) % 2 ^ 32),(u+c) / 2 ^ 32,rfl,⟨?_,by rw[length_set,hl.out],?_,tN hzl (Nat.mod_lt _ (by omega)) _,Ew.set _ _⟩,HS⟩
   ·rw[<-qQ];have e:Value.int .u32 (((u+c) % 2 ^ 32:Nat):Int)=.int .u32 (((u:Int)+c) % 4294967296):=by simp
    rw[e];exact hbk.set _ _
   ·intro p hp;rw[getD_set_ne _ _ _ _ (by omega)];exact hout p (by omega)
theorem bitLen_spec (x:Nat) (h0:x≠0) (h:x<2 ^ 64):1<=Lib.bitLen x/\2 ^ (Lib.bitLen x-1)<=x/\x<2 ^ Lib.bitLen x:=by
 induction x using Nat.strongRecOn with
 |_ x ih=>
  have e:=Lib.bitLen_half x h0 h;by_cases h1:x / 2=0
  ·rw[h1,show Lib.bitLen 0=0 from rfl] at e;rw[e];exact⟨by omega,by simp;omega,by simp;omega⟩
  ·obtain⟨i1,i2,i3⟩:=ih (x / 2) (by omega) h1 (by omega);rw[e];refine⟨by omega,?_,?_⟩
   ·rw[show 1+Lib.bitLen (x / 2)-1=(Lib.bitLen (x / 2)-1)+1 from by omega,Nat.pow_succ];omega
   ·rw[Nat.add_comm 1,Nat.pow_succ];omega
def FZ (w:World) (n m:Nat) (e:Ending) (w':World):Prop:=
 ∃A len cap A' len' cap',e=.returned (.tuple #[.slice A len cap,.slice A' len' cap'])/\fF w' A len cap (n / m)/\fF w' A' len' cap' (n % m)/\Below w.heap.size w w'
theorem Ri (w:World):fF w none 0 0 0:=⟨Nat.le_refl _,by unfold maxLen;omega,[],rfl,Rd.nil _ _,Canon.nil _,rfl⟩
theorem Qo (A A':Option Addr) (len cap len' cap' n m:Nat) (w:World) (h1:fF w A len cap n) (h2:fF w A' len' cap' m) (hlt:n<m):
  Calls prog 224 #[.slice A len cap,.slice A' len' cap'] w (FZ w n m):=by
 have H1:=zH h1;have H2:=zH h2;clear h1 h2;go_enter func224,ntmps224;go_wp2_with fail;refine (nN _ _ _ _ _ _ n m _ H1 H2).mono ?_;rw[xZ hlt];rintro e w' ⟨rfl,hb⟩;go_wp2;go_ret2;refine⟨none,0,0,A,len,cap,rfl,?_,?_,hb⟩
 ·rw[Nat.div_eq_of_lt hlt];exact Ri _
 ·rw[Nat.mod_eq_of_lt hlt];exact H1.below hb
theorem Un (A A':Option Addr) (len cap cap' n m:Nat) (w:World) (h1:fF w A len cap n) (h2:fF w A' 1 cap' m) (hle:m<=n) (hb:len<=1073741824):
  Calls prog 224 #[.slice A len cap,.slice A' 1 cap'] w (FZ w n m):=by
 have H1:=zH h1;have H2:=zH h2;obtain⟨l2,m2,ys,e2,r2,c2,v2⟩:=h2
 have m0:0<m:=by
  rcases Nat.eq_zero_or_pos m with h|h
  ·exact absurd (H2.zero.2 h) (by omega)
  ·exact h
 obtain⟨y,rfl⟩:∃y,ys=[y]:=length_eq_one_iff.1 e2;obtain rfl:y=m:=by simpa [val] using v2
 have y1:y<4294967296:=c2.lt y (by simp);clear e2 c2 v2;have hc:fD n y=0∨fD n y=1:=by unfold fD;split;omega;split<;>simp
 obtain⟨c,hcc⟩:=zF (fD n y);have HC:=zH hcc;rw[hcc] at hc;have hc0:¬(c<0):=by omega
 clear h1 hcc hc;go_enter func224,ntmps224;go_wp2_with fail;refine (nN _ _ _ _ _ _ n y _ H1 H2).mono ?_;rw[HC.out];rintro e w1 ⟨rfl,hb1⟩;have r2':=r2.below hb1;obtain⟨b,off,rfl,hbb,hcell⟩:=r2'.u (xs:=[y]) (k:=0) (by simp);simp only[Nat.add_zero] at hcell;have e0:([y].getD 0 0:Nat)=y:=rfl;rw[e0] at hcell;have qR:=zH (H1.below hb1);clear r2 r2' e0;go_wp2_with fail;refine (short_any A len cap n _ y _ rfl qR hb m0 y1).mono ?_;rintro e w2 ⟨A2,len2,cap2,rfl,hq,hb2⟩;have HQ:=zH hq;clear hq;obtain⟨r,hr⟩:=zF (n % y);have F5:r<y:=by rw[<-hr];exact Nat.mod_lt _ m0
 have HR:=zH hr;rw[hr];clear hr;go_wp2_with fail;have hB:=aj.new w2 231 #[.int .u32 (r:Int)];have hrd:Rd (w2.alloc (.cells #[.int .u32 (r:Int)] 231)) (some ⟨w2.heap.size,0,none⟩) (U [r]):=hB.rd
 have hd:∀x∈[r],x<2 ^ 32:=by intro x hx;obtain rfl:x=r:=by simpa using hx
                             omega
 refine (jK _ 1 1 [r] _ rfl (by omega) (by unfold maxLen;omega) hrd).mono ?_;rintro e w' ⟨rfl,rfl⟩;go_wp2;go_ret2;have hL:=fF.kE (len:=1) (cap:=1) rfl (Nat.le_refl _) (by unfold maxLen;omega) hrd hd;refine⟨_,_,_,_,_,_,rfl,HQ.below (zB _ _),?_,?_⟩
 ·rw[HR.out];simpa [val] using hL
 ·exact ((hb1.trans (hb2.mono hb1.size)).trans ((Below.refl _ _).alloc (Nat.le_trans hb1.size hb2.size) _))
theorem Uo (x:Nat) (h0:0<x) (h1:x<4294967296):∃s:Nat,s<32/\(32-(Lib.bitLen x:Int))=s/\2147483648<=x*2 ^ s/\(x+1)*2 ^ s<=4294967296:=by
 obtain⟨h2,h3,h4⟩:=bitLen_spec x (by omega) (by omega);generalize Lib.bitLen x=L at*
 have hL:L<=32:=by
  rcases Nat.lt_or_ge 32 L with h|h
  ·have:=Nat.pow_le_pow_right (n:=2) (by omega) (show 32<=L-1 by omega);omega
  ·exact h
 refine⟨32-L,by omega,by omega,?_,?_⟩
 ·have:=Nat.mul_le_mul_right (2 ^ (32-L)) h3;rw[<-Nat.pow_add,show L-1+(32-L)=31 from by omega] at this;exact this
 ·have:=Nat.mul_le_mul_right (2 ^ (32-L)) (show x+1<=2 ^ L from h4);rw[<-Nat.pow_add,show L+(32-L)=32 from by omega] at this;exact this
theorem ML (xs ys:List Nat) (k s:Nat) (hs:s<32) (hx:Canon (2 ^ 32) xs) (hl:xs.length=k+1) (h2:2147483648<=xs.getD k 0*2 ^ s) (h3:(xs.getD k 0+1)*2 ^ s<=4294967296)
  (hy:Canon (2 ^ 32) ys) (hv:val (2 ^ 32) ys=val (2 ^ 32) xs*2 ^ s):ys.length=k+1/\2147483648<=ys.getD k 0/\2 ^ s<=ys.getD k 0:=by
 have e:val (2 ^ 32) xs=val (2 ^ 32) (xs.take k)+(2 ^ 32) ^ k*xs.getD k 0:=by
  rw[<-cZ,take_of_length_le (by omega)]
 have hlo:val (2 ^ 32) (xs.take k)<(2 ^ 32) ^ k:=by
  have:=iE (2 ^ 32) (xs.take k) (fun x hx'=>hx.lt x (mem_of_mem_take hx'));rwa[length_take_of_le (by omega)] at this
 have hS:0<2 ^ s:=Nat.pow_pos (by omega);have hS2:2 ^ s<=2147483648:=by have:=Nat.pow_le_pow_right (n:=2) (by omega) (show s<=31 by omega);omega
 have hE:0<(2 ^ 32) ^ k:=Nat.pow_pos (by omega);generalize xs.getD k 0=x at*
 have hub:val (2 ^ 32) ys<(2 ^ 32) ^ (k+1):=by
  rw[hv,e,show (2 ^ 32) ^ (k+1)=(2 ^ 32) ^ k*4294967296 from Nat.pow_succ ..];have h4:(val (2 ^ 32) (xs.take k)+1+(2 ^ 32) ^ k*x)*2 ^ s<=((2 ^ 32) ^ k*(x+1))*2 ^ s:=Nat.mul_le_mul_right _ (by rw[Nat.mul_add];omega);have h5:(2 ^ 32) ^ k*(x+1)*2 ^ s<=(2 ^ 32) ^ k*4294967296:=by rw[Nat.mul_assoc];exact Nat.mul_le_mul_left _ h3
  have h6:(val (2 ^ 32) (xs.take k)+(2 ^ 32) ^ k*x)*2 ^ s+2 ^ s=(val (2 ^ 32) (xs.take k)+1+(2 ^ 32) ^ k*x)*2 ^ s:=by grind
  omega
 have hlb:2147483648*(2 ^ 32) ^ k<=val (2 ^ 32) ys:=by
  rw[hv,e];have h4:(2 ^ 32) ^ k*(x*2 ^ s)<=(val (2 ^ 32) (xs.take k)+(2 ^ 32) ^ k*x)*2 ^ s:=by rw[<-Nat.mul_assoc];exact Nat.mul_le_mul_right _ (by omega)
  have h5:=Nat.mul_le_mul_left ((2 ^ 32) ^ k) h2;rw[Nat.mul_comm _ 2147483648] at h5;omega
 have hyn:ys≠[]:=by
  rintro rfl;simp only[val] at hlb;omega
 have hlen:ys.length=k+1:=by
  have h4:=hy.ge hyn;have h5:=(Nat.pow_lt_pow_iff_right (a:=2 ^ 32) (by omega)).1 (Nat.lt_of_le_of_lt h4 hub);have h6:=iE (2 ^ 32) ys hy.lt;have h7:(2 ^ 32) ^ k<(2 ^ 32) ^ ys.length:=by omega
  have h8:=(Nat.pow_lt_pow_iff_right (a:=2 ^ 32) (by omega)).1 h7;omega
 refine⟨hlen,?_⟩
 have e2:val (2 ^ 32) ys=val (2 ^ 32) (ys.take k)+(2 ^ 32) ^ k*ys.getD k 0:=by
  rw[<-cZ,take_of_length_le (by omega)]
 have hlo2:val (2 ^ 32) (ys.take k)<(2 ^ 32) ^ k:=by
  have:=iE (2 ^ 32) (ys.take k) (fun x hx'=>hy.lt x (mem_of_mem_take hx'));rwa[length_take_of_le (by omega)] at this
 generalize ys.getD k 0=y at*
 have:2147483648<=y:=by
  rcases Nat.lt_or_ge y 2147483648 with h|h
  ·exfalso;have h4:=Nat.mul_le_mul_left ((2 ^ 32) ^ k) (show y+1<=2147483648 from h);rw[Nat.mul_add,Nat.mul_comm _ 2147483648] at h4;omega
  ·exact h
 exact⟨this,by omega⟩
theorem start_lt (n V s L k:Nat) (y:Nat) (ys:List Nat) (hn:n<(2 ^ 32) ^ L) (hl:ys.length=k+1) (hV:V=val (2 ^ 32) ys) (hy:ys.getD k 0=y) (hs:2 ^ s<=y) (hkL:k+1<=L):
  n*2 ^ s<V*(2 ^ 32) ^ (L+1-(k+1)):=by
 have e2:V=val (2 ^ 32) (ys.take k)+(2 ^ 32) ^ k*y:=by
  rw[hV,<-hy,<-cZ,take_of_length_le (by omega)]
 have hS:0<2 ^ s:=Nat.pow_pos (by omega);have h1:(2 ^ 32) ^ k*y*(2 ^ 32) ^ (L+1-(k+1))<=V*(2 ^ 32) ^ (L+1-(k+1)):=Nat.mul_le_mul_right _ (by omega)
 have h2:(2 ^ 32) ^ k*y*(2 ^ 32) ^ (L+1-(k+1))=(2 ^ 32) ^ L*y:=by
  rw[Nat.mul_right_comm,<-Nat.pow_add,show k+(L+1-(k+1))=L from by omega]
 have h3:n*2 ^ s<(2 ^ 32) ^ L*2 ^ s:=Nat.mul_lt_mul_of_pos_right hn hS;have h4:(2 ^ 32) ^ L*2 ^ s<=(2 ^ 32) ^ L*y:=Nat.mul_le_mul_left _ hs;omega
theorem Qp (A A':Option Addr) (len cap k cap' n m:Nat) (w:World) (h1:fF w A len cap n) (h2:fF w A' (k+2) cap' m) (hle:m<=n) (hb:len<=536870912):
  Calls prog 224 #[.slice A len cap,.slice A' (k+2) cap'] w (FZ w n m):=by
 have H1:=zH h1;have H2:=zH h2;obtain⟨l1,m1,xs1,e1,r1,c1,v1⟩:=h1;obtain⟨l2,m2,xs,e2,r2,c2,v2⟩:=h2
 have hkl:k+2<=len:=by
  rcases Nat.lt_or_ge len (k+2) with h|h
  ·have:=c1.vJ (by omega) c2 (by rw[e1,e2];exact h);omega
  ·exact h
 obtain⟨M,rfl⟩:∃M,len=M+(k+1):=⟨len-(k+1),by omega⟩
 have hN1:n<(2 ^ 32) ^ (M+(k+1)):=by have:=iE (2 ^ 32) xs1 c1.lt;rwa[v1,e1] at this
 have hx0:0<xs.getD (k+1) 0:=by
  have h0:=c2.last (by intro e;subst e;simp at e2);rw[getLast_eq_getElem] at h0;rw[getD_lt (by omega)];simp only[e2] at h0;have:xs[k+1]'(by omega)≠0:=h0;omega
 have hx1:xs.getD (k+1) 0<4294967296:=aP (by omega) c2.lt (k+1);obtain⟨s,hs,hsE,hs1,hs2⟩:=Uo _ hx0 hx1;have F6:=zH (fun ys hy hv=>ML xs ys (k+1) s hs c2 e2 hs1 hs2 hy hv);have V2:=zH v2;have AL:=zH hN1;have hc:fD n m=0∨fD n m=1:=by unfold fD;split;omega;split<;>simp
 obtain⟨c,hcc⟩:=zF (fD n m);have HC:=zH hcc;rw[hcc] at hc;have hc0:¬(c<0):=by omega
 have R2:=zH r2;obtain⟨x,hx⟩:=zF (xs.getD (k+1) 0);have HX:=zH hx;rw[hx] at hx0 hx1 hsE;have E2:=zH e2;have SE:=zH hsE;clear hcc hc c1 c2 v1 v2 e1 e2 r1 r2 hN1 hs1 hs2 hx hsE;unfold maxLen at m1 m2;go_enter func224,ntmps224;go_wp2_with fail;refine (nN _ _ _ _ _ _ n m _ H1 H2).mono ?_;rw[HC.out];rintro e w1 ⟨rfl,hb1⟩;have r2':=R2.below hb1;obtain⟨b,off,rfl,hbb,hcell⟩:=r2'.u (k:=k+1) (by rw[E2.out];omega);rw[HX.out] at hcell;have qR:=zH (H1.below hb1);have H2':=zH (H2.below hb1);clear r2';go_wp2_with fail;refine (Tryz.bits_LeadingZeros32 _ _ (by omega) (by omega)).mono ?_;rintro e w' ⟨rfl,rfl⟩;rw[show ((x:Int)).toNat=x from by simp,SE.out];go_wp2_with fail;refine (Xm A (M+(k+1)) cap n _ s _ rfl qR (by omega) hs).mono ?_;rintro e w2 ⟨Ga,zs,rfl,hGa,aai,hzl,hzd,hzv,hb2⟩;have ae9:=zH (H2'.below hb2);have HZ:=zH (And.intro aai (And.intro hzl (And.intro hzd hzv)));have afa:=aai.lt;clear aai hzl hzd hzv;go_wp2_with fail;refine (Xm _ (k+2) cap' m _ s _ rfl ae9 (by omega) hs).mono ?_;rintro e w3 ⟨Gb,ys,rfl,hGb,Ur,hyl,Jv,hyv,hb3⟩;have Us:Ga≠Gb:=by omega
 have akt:=Ur.lt;have HZ3:=zH (HZ.1.below hb3 afa);have aaj:=sQ (2 ^ 32) ys Jv;have hsp:=F6 (jH ys) aaj (by rw[qB,hyv,V2.out]);obtain⟨aak,hy0,hy1⟩:=hsp;have htl:trimLen ys (k+2+1)=k+2:=by rw[<-hyl,<-mG,aak]
 have Xo:Hid (val (2 ^ 32) (jH ys)=m*2 ^ s):=by show _=_;rw[qB,hyv]
 have afb:Rd w3 (some ⟨Gb,0,none⟩) (U (jH ys)):=by
  unfold jH;rw[<-Fz];exact Ur.rd.take _
 have HT:=zH (jK (some ⟨Gb,0,none⟩) (k+2+1) (k+2+1) ys w3 hyl (Nat.le_refl _) (by unfold maxLen;omega) Ur.rd);rw[htl] at HT;have Xp:=zH afb;have DT:=zH aaj;have AO:=zH aak;have HY1:=zH hy1;clear hyl Jv hyv Ur afb aaj aak htl hy1;generalize jH ys=ys at*;go_wp2_with fail;refine HT.mono ?_;rintro e w' ⟨rfl,rfl⟩;go_wp2_with (at_make;refine dS _ rfl _ _ 228 rfl 231 (.int .u32 0) 4 underlying228 oH rfl _ _ _ _ M rfl rfl ?_ ?_ (by omega) (by omega) ?_)
 ·omega
 ·omega
 intro w4 hbq hb4;obtain⟨Gq,hGq⟩:=zF w3.heap.size;have HGq:=zH hGq;rw[hGq] at hbq hb4⊢;have Ut:Ga≠Gq:=by have:=HZ3.lt;omega
 have afc:Gb≠Gq:=by omega
 have hBel:Below w.heap.size w w4:=((hb1.trans (hb2.mono hb1.size)).trans (hb3.mono (Nat.le_trans hb1.size hb2.size))).trans (hb4.mono (by have:=hb1.size;have:=hb2.size;have:=hb3.size;omega));have afd:w.heap.size<=Ga:=Nat.le_trans hb1.size hGa;have aoL:w.heap.size<=Gb:=by have:=hb1.size;have:=hb2.size;omega
 have afe:w.heap.size<=Gq:=by omega
 have hza:Hid (aj w4 Ga 231 (U zs)):=HZ3.below hb4 (by omega);have Rj:Hid (Rd w4 (some ⟨Gb,0,none⟩) (U ys)):=Xp.keep (by rw[hGq];have:=hb4.size;omega) (fun p hp=>hb4.cell (by omega));have HQ:=zH hbq;obtain⟨_,hzl,hzd,hzv⟩:=HZ.out;have hst:=zH (start_lt n (m*2 ^ s) s (M+(k+1)) (k+1) _ ys AL AO Xo.symm rfl HY1 (by omega));have HZL:=zH hzl;have HZD:=zH hzd;have HZV:=zH hzv;have HY0:=zH hy0;clear hbq hGq HZ F6 HT hb1 hb2 hb3 hb4 HZ3 Xp hcell H1 qR H2 H2' ae9 R2 hbb HX AL SE E2 V2 hx0 hx1 hGa hGb afa akt m1 m2 l1 l2 hzl hzd hzv HY1 hy0;go_wp2
 go_loopw [12] (fun iv wr=>∃(t:Nat) (zs qs:List Nat),t<=M/\iv=.int .i64 ((t:Int)-1)/\aj wr Ga 231 (U zs)/\Hid (zs.length=M+(k+1)+1)/\Hid (∀x∈zs,x<2 ^ 32)/\
   aj wr Gq 231 (U (List.replicate t 0++qs))/\Hid (qs.length=M-t)/\Hid (∀x∈qs,x<2 ^ 32)/\Hid (n*2 ^ s=val (2 ^ 32) qs*val (2 ^ 32) ys*(2 ^ 32) ^ t+val (2 ^ 32) zs)/\
   Hid (val (2 ^ 32) zs<val (2 ^ 32) ys*(2 ^ 32) ^ t)/\Rd wr (some ⟨Gb,0,none⟩) (U ys)/\Below w.heap.size w wr) (fun i _=>(intOf i+1).toNat)
 case atStart=>
  refine⟨M,zs,[],by omega,by go_num,hza,HZL,HZD.out,by have:=HQ.out;simpa [U] using this,by show _=_;simp,by show ∀x∈_,_;simp,?_,?_,Rj.out,hBel⟩
  ·show _=_;rw[HZV.out];simp[val]
  ·show _<_;have:=hst.out;rw[show M+(k+1)+1-(k+1+1)=M from by omega] at this;rw[HZV.out,Xo.out];exact this
 case round=>
  clear hza HQ hBel HZL HZD HZV hst;obtain⟨t,zs,qs,ht,rfl,hbz,hzl,hzd,hbq,Jw,DR,hN,hR,Rj,hbw⟩:=hrel;by_cases ht0:0<t
  ·obtain⟨j,rfl⟩:∃j,t=j+1:=⟨t-1,by omega⟩
   have hcz:∀i,i<M+(k+1)+1->wr.cell? ⟨Ga,i,none⟩=some (.int .u32 ((zs.getD i 0:Nat):Int)):=by
    intro i hi;rw[hbz.cell (by rw[fV,hzl.out];exact hi),uZ]
   have c0:=hcz (j+(k+2)) (by omega);have c1:=hcz (j+(k+1)) (by omega);have c2:=hcz (j+k) (by omega);obtain⟨_,_,hA,_,d0⟩:=Rj.u (k:=k+1) (by rw[AO.out];omega);injection hA with hA;injection hA with hA1 hA2;subst hA1 hA2;obtain⟨_,_,hA,_,d1⟩:=Rj.u (k:=k) (by rw[AO.out];omega);injection hA with hA;injection hA with hA1 hA2;subst hA1 hA2;simp only[Nat.zero_add] at d0 d1;have RB:=zH (L9 zs ys j k hzd.out DT.out.lt AO.out (by rw[hzl.out];omega) (by have:=HY0.out;omega) hR.out);rw[show j+k+2=j+(k+2) from rfl,show j+k+1=j+(k+1) from rfl] at RB;have g1:zs.getD (j+(k+1)) 0<4294967296:=aP (by omega) hzd.out _;have g2:zs.getD (j+k) 0<4294967296:=aP (by omega) hzd.out _;have g3:ys.getD (k+1) 0<4294967296:=aP (by omega) DT.out.lt _;have g4:ys.getD k 0<4294967296:=aP (by omega) DT.out.lt _;have g5:0<ys.getD (k+1) 0:=by have:=HY0.out;omega
   generalize zs.getD (j+(k+2)) 0=z0 at*;generalize zs.getD (j+(k+1)) 0=z1 at*;generalize zs.getD (j+k) 0=z2 at*;generalize ys.getD (k+1) 0=y0 at*;generalize ys.getD k 0=y1 at*;have HB:=zH hbz;have Jy:=zH hbq;have Xp:=zH Rj;clear hcz hbz hbq Rj;have a1:IntKind.i64.wrap ((j:Int)+((k:Int)+2))=(j:Int)+(k+2):=IntWalk.i64_in _ (by omega);have a2:IntKind.i64.wrap ((j:Int)+((k:Int)+2)-1)=(j:Int)+(k+1):=by rw[IntWalk.i64_in _ (by omega)];omega
   have a3:IntKind.i64.wrap ((j:Int)+((k:Int)+2)-2)=(j:Int)+k:=by rw[IntWalk.i64_in _ (by omega)];omega
   have b1:IntKind.i64.wrap ((k:Int)+2-1)=(k:Int)+1:=by rw[IntWalk.i64_in _ (by omega)];omega
   have b2:IntKind.i64.wrap (k:Int)=k:=IntWalk.i64_in _ (by omega);have n1:((j:Int)+(k+2)).toNat=j+(k+2):=by omega
   have n2:((j:Int)+(k+1)).toNat=j+(k+1):=by omega
   have n3:((j:Int)+k).toNat=j+k:=by omega
   have n4:((k:Int)+1).toNat=k+1:=by omega
   have q1:(0:Int)<=(j:Int)+(k+2):=by omega
   have q2:(0:Int)<=(j:Int)+(k+1):=by omega
   have q3:(0:Int)<=(j:Int)+k:=by omega
   have q4:(0:Int)<=(k:Int)+1:=by omega
   have q5:(k:Int)<(k:Int)+2:=by omega
   have l1:(j:Int)+(k+2)<(M:Int)+(k+1)+1:=by omega
   have l2:(j:Int)+(k+1)<(M:Int)+(k+1)+1:=by omega
   have l3:(j:Int)+k<(M:Int)+(k+1)+1:=by omega
   go_wp2_with fail;refine wp_region_still_tail 32 (by kernel_rfl) (by kernel_rfl) ?_;simp only[take_succ_cons,take_zero,drop_succ_cons,drop_zero]
   repeat still_step
   refine wpStill_nil ?_;change wpList _ _ _ _ _ wr.drew;go_wp2_with fail;clear a1 a2 a3 b1 b2 n1 n2 n3 n4 q1 q2 q3 q4 q5 l1 l2 l3 c0 c1 c2 d0 d1;refine (MJ z0 z1 z2 y0 y1 0 _ RB.out.1 g1 g2 g5 g3 g4).mono ?_;rintro e w5 ⟨rfl,hb5⟩;obtain⟨Q,hQ⟩:=zF (nV z0 z1 z2 y0 y1);have hQ1:Q<4294967296:=by rw[<-hQ];exact adA _ _ _ _ _
   have RB2:=zH RB.out.2;rw[hQ] at RB2⊢;clear hQ RB g1 g2 g3 g4 g5;have MN:Below wr.heap.size wr w5:=⟨hb5.os,hb5.tape,hb5.output,hb5.size,hb5.block⟩
   have ku:=zH (HB.out.below MN HB.out.lt);have afg:=zH (Jy.out.below MN Jy.out.lt);have aal:=zH (Xp.out.below MN);have yQ:=hbw.trans (MN.mono hbw.size);clear HB Jy Xp hb5 MN hbw;go_wp2_with fail;rw[show j+(k+2)+1-j=(k+2)+1 from by omega];refine (take_any Ga j _ Gb 0 (k+2) _ Q zs ys w5 ku.out aal.out (Ne.symm Us) AO.out (by rw[hzl.out];omega) (by omega) hzd.out DT.out.lt hQ1 (by rw[hzl.out];omega)).mono ?_;rintro e w6 ⟨zs1,c1,hc1,rfl,hT1,hv1⟩;have HT1:=zH hT1;have yh:=zH hv1
   have hV0:0<val (2 ^ 32) ys:=by
    rcases Nat.eq_zero_or_pos (val (2 ^ 32) ys) with h|h
    ·have:=(DT.out.val_zero (by omega)).1 h;have:=AO.out
     simp_all
    ·exact h
   have afh:val (2 ^ 32) (seg zs1 j (k+2+1))<(2 ^ 32) ^ (k+2+1):=by
    have:=iE (2 ^ 32) (seg zs1 j (k+2+1)) (Iy hT1.lt);rwa[seg_length _ _ _ (by rw[hT1.len,hzl.out];omega)] at this
   have HZ1:=zH afh;have F7:=zH hV0;have hs6:w5.heap.size<=w6.heap.size:=hT1.lJ.size;have Uu:=zH (hT1.lJ.rd aal.out (Ne.symm Us));have MO:=zH (hT1.lJ.blk afg.out (Ne.symm Ut));have Uw:=yQ.trans (hT1.lJ.below afd yQ.size);clear hT1 hv1 afh hV0 aal afg yQ;have hc2:c1=0∨c1=1:=by omega
   obtain⟨uq,huq⟩:∃u,w6.cell? ⟨Gq,j,none⟩=some u:=⟨_,MO.out.cell (by simp[fV];omega)⟩
   have hfq:=MO.out.frozen j;rcases hc2 with rfl|rfl
   ·have Ad:=zH (Uh (val (2 ^ 32) (seg zs j (k+3))) (val (2 ^ 32) (seg zs1 j (k+3))) Q (val (2 ^ 32) ys) F7.out (by have:=yh.out;rw[Nat.zero_mul,Nat.add_zero] at this;exact this) RB2.out.1);go_wp2
    go_roundw
    case rel=>
     obtain⟨hlt2,heq2⟩:=DC zs zs1 ys j k (val (2 ^ 32) qs) Q (n*2 ^ s) HT1.out.len hzd.out AO.out (by rw[hzl.out];omega) DT.out.lt F7.out HT1.out.out hR.out hN.out Ad.out.1 Ad.out.2;refine⟨j,zs1,Q::qs,by omega,by first|rfl|go_num,HT1.out.blk.other Ut _,by show _=_;rw[HT1.out.len,hzl.out],HT1.out.lt,?_,by show _=_;simp[Jw.out];omega,?_,heq2,hlt2,?_,Uw.setCell afe _⟩
     ·rw[<-wU j 0 qs 0 Q,<-qQ];exact MO.out.set j _
     ·show ∀y∈_,_;intro y hy;rcases mem_cons.1 hy with rfl|hy
      ·exact hQ1
      ·exact DR.out y hy
     ·exact ((bW.refl Gq w6).set j _).rd Uu.out afc
    case measure=>simp[intOf]<;>omega
   ·clear huq hfq uq
    have hQ0:0<Q:=by
     rcases Nat.eq_zero_or_pos Q with h|h
     ·have:=yh.out;have:=HZ1.out;subst h;omega
     ·exact h
    go_wp2_with fail;rw[show j+(k+2)+1-j=(k+2)+1 from by omega];refine (aah Ga j _ Gb 0 (k+2) _ zs1 ys w6 HT1.out.blk Uu.out (Ne.symm Us) AO.out (by rw[HT1.out.len,hzl.out];omega) (by omega) HT1.out.lt DT.out.lt (by rw[HT1.out.len,hzl.out];omega)).mono ?_;rintro e w7 ⟨zs2,c2,rfl,hT2,hv2⟩;have HT2:=zH hT2;have DU:=zH hv2
    have afi:val (2 ^ 32) (seg zs2 j (k+2+1))<(2 ^ 32) ^ (k+2+1):=by
     have:=iE (2 ^ 32) (seg zs2 j (k+2+1)) (Iy hT2.lt);rwa[seg_length _ _ _ (by rw[hT2.len,HT1.out.len,hzl.out];omega)] at this
    have hVE:val (2 ^ 32) ys<=(2 ^ 32) ^ (k+2+1):=by
     have h1:=iE (2 ^ 32) ys DT.out.lt;rw[AO.out] at h1;have h2:=Nat.pow_le_pow_right (n:=2 ^ 32) (by omega) (show k+1+1<=k+2+1 by omega);omega
    have Ad:=zH (Ui (val (2 ^ 32) (seg zs j (k+3))) (val (2 ^ 32) (seg zs1 j (k+3))) (val (2 ^ 32) (seg zs2 j (k+3))) Q (val (2 ^ 32) ys) _ c2 F7.out hVE yh.out RB2.out.1 RB2.out.2 HZ1.out afi hv2);have aku:=zH (hT2.lJ.rd Uu.out (Ne.symm Us));have aam:=zH (hT2.lJ.blk MO.out (Ne.symm Ut));have Ux:=Uw.trans (hT2.lJ.below afd Uw.size);have akv:Hid (∀p,(p<j∨j+(k+2)<p)->zs2.getD p 0=zs.getD p 0):=fun p hp=>(hT2.out p hp).trans (HT1.out.out p hp)
    clear hT2 hv2 afi hVE Uu MO Uw;obtain⟨uq,huq⟩:∃u,w7.cell? ⟨Gq,j,none⟩=some u:=⟨_,aam.out.cell (by simp[fV];omega)⟩
    have hfq:=aam.out.frozen j;go_wp2
    go_roundw
    case rel=>
     obtain⟨_,hd1,hd2⟩:=Ad.out;obtain⟨hlt2,heq2⟩:=DC zs zs2 ys j k (val (2 ^ 32) qs) (Q-1) (n*2 ^ s) (by rw[HT2.out.len,HT1.out.len]) hzd.out AO.out (by rw[hzl.out];omega) DT.out.lt F7.out akv.out hR.out hN.out hd1 hd2;refine⟨j,zs2,(Q-1)::qs,by omega,by first|rfl|go_num,HT2.out.blk.other Ut _,by show _=_;rw[HT2.out.len,HT1.out.len,hzl.out],HT2.out.lt,?_,by show _=_;simp[Jw.out];omega,?_,heq2,hlt2,?_,Ux.setCell afe _⟩
     ·rw[<-wU j 0 qs 0 (Q-1),<-qQ,show ((Q-1:Nat):Int)=(Q:Int)-1 from by omega];exact aam.out.set j _
     ·show ∀y∈_,_;intro y hy;rcases mem_cons.1 hy with rfl|hy
      ·omega
      ·exact DR.out y hy
     ·exact ((bW.refl Gq w7).set j _).rd aku.out afc
    case measure=>simp[intOf]<;>omega
  ·obtain rfl:t=0:=by omega
   have HB:=zH hbz;have Jy:=zH hbq;have afj:(List.replicate 0 0++qs).length=M:=by simp[Jw.out]
   have F8:=zH (fun W (hW:∃d,W=wr.drewN d)=>jK (some ⟨Gq,0,none⟩) M M (List.replicate 0 0++qs) W afj (Nat.le_refl _) (by unfold maxLen;omega) (by obtain⟨d,rfl⟩:=hW;exact Jy.out.rd));have hk2:(k:Int)+2<=(M:Int)+(k+1)+1:=by omega
   have hk3:(0:Int)<=(k:Int)+2:=by omega
   have hk4:((k:Int)+2).toNat=k+2:=by omega
   clear hbz hbq;go_wp2_with fail;refine wp_region_still_tail 6 (by kernel_rfl) (by kernel_rfl) ?_;simp only[take_succ_cons,take_zero,drop_succ_cons,drop_zero]
   still_step
   refine wpStill_step (fun K hK=>?_);go_simp;refine⟨_,(F8.out wr.drew ⟨1,rfl⟩).mono (fun e w' h=>⟨h.1,h.2.symm⟩),hK _ ?_⟩;clear hK K
   repeat still_step
   refine wpStill_nil ?_;change wpList _ _ _ _ _ wr.drew;clear hk2 hk3 hk4;go_wp2_with fail;have hvV:val (2 ^ 32) ys<(2 ^ 32) ^ (k+2):=by have:=iE (2 ^ 32) ys DT.out.lt;rwa[AO.out] at this
   have hR2:val (2 ^ 32) zs<m*2 ^ s:=by have:=hR.out;rw[Xo.out] at this;simpa using this
   have hN2:n*2 ^ s=val (2 ^ 32) qs*(m*2 ^ s)+val (2 ^ 32) zs:=by have:=hN.out;rw[Xo.out] at this;simpa using this
   have hS:0<2 ^ s:=Nat.pow_pos (by omega)
   have hm0:0<m:=by
    rcases Nat.eq_zero_or_pos m with h|h
    ·subst h;omega
    ·exact h
   have hzt:val (2 ^ 32) (zs.take (k+2))=val (2 ^ 32) zs:=by
    have e:=qE (2 ^ 32) zs (k+2) (by rw[hzl.out];omega);rcases Nat.eq_zero_or_pos (val (2 ^ 32) (zs.drop (k+2))) with h|h
    ·rw[h] at e;omega
    ·have:=Nat.le_mul_of_pos_right ((2 ^ 32) ^ (k+2)) h;rw[Xo.out] at hvV;omega
   have hmod:val (2 ^ 32) zs / 2 ^ s=n % m:=by
    have h1:n=val (2 ^ 32) qs*m+val (2 ^ 32) zs / 2 ^ s:=by
     have h2:n=(n*2 ^ s) / 2 ^ s:=(Nat.mul_div_cancel _ hS).symm;rw[hN2,<-Nat.mul_assoc,Nat.add_comm,Nat.add_mul_div_right _ _ hS,Nat.add_comm] at h2;exact h2
    have h3:val (2 ^ 32) zs / 2 ^ s<m:=(Nat.div_lt_iff_lt_mul hS).2 hR2;rw[h1,Nat.add_comm,Nat.add_mul_mod_self_right,Nat.mod_eq_of_lt h3]
   have hdiv:val (2 ^ 32) qs=n / m:=by
    have h1:n*2 ^ s / (m*2 ^ s)=n / m:=Nat.mul_div_mul_right _ _ hS;rw[hN2,Nat.add_comm,Nat.add_mul_div_right _ _ (by omega),Nat.div_eq_of_lt hR2,Nat.zero_add] at h1;exact h1
   have afl:Rd wr.drew (some ⟨Ga,0,none⟩) (U (zs.take (k+2))):=by rw[<-Fz];exact HB.out.rd.take _
   refine (aae _ (k+2) _ (zs.take (k+2)) _ s _ rfl (by simp[hzl.out]<;>omega) afl (fun x hx=>hzd.out x (mem_of_mem_take hx)) (by omega) hs).mono ?_;rintro e w8 ⟨Ar,lr,cr,rfl,hLr,hb8⟩;rw[hzt,hmod] at hLr;have aan:Below wr.heap.size wr w8:=⟨hb8.os,hb8.tape,hb8.output,hb8.size,hb8.block⟩
   have hLq:=(fF.kE afj (Nat.le_refl _) (by unfold maxLen;omega) Jy.out.rd (by simpa using DR.out)).below aan;rw[replicate_zero,nil_append,hdiv] at hLq;have HLR:=zH hLr;have HLQ:=zH hLq;have MP:=hbw.trans (aan.mono hbw.size);clear hLr hLq hb8 aan hvV hR2 hN2 hzt hmod hdiv afl;go_wp2;go_ret2;exact⟨_,_,_,_,_,_,rfl,HLQ.out,HLR.out,MP⟩
theorem F9 (A A':Option Addr) (len cap len' cap' n m:Nat) (w:World) (h1:fF w A len cap n) (h2:fF w A' len' cap' m) (hm:0<m) (hb:len<=536870912):
  Calls prog 224 #[.slice A len cap,.slice A' len' cap'] w (FZ w n m):=by
 rcases Nat.lt_or_ge n m with h|h
 ·exact Qo _ _ _ _ _ _ _ _ _ h1 h2 h
 ·rcases len' with _|_|k
  ·have:=h2.zero.1 rfl;omega
  ·exact Un _ _ _ _ _ _ _ _ h1 h2 h (by omega)
  ·exact Qp _ _ _ _ _ _ _ _ _ h1 h2 h hb
theorem ny (A:Option Addr) (len cap n:Nat) (w:World) (h:fF w A len cap n) (hl:len<=1099511627776):
  Calls prog 209 #[.slice A len cap] w fun e w'=>e=.returned (.string (aC n))/\Below w.heap.size w w':=by
 obtain⟨l,m,xs,e,r,c,v⟩:=h;rw[<-v];exact FW A len cap xs w e l hl r c.lt
theorem bV (s:ByteArray) (K:Nat) (h:s.size<=K):ak s<256 ^ K:=Nat.lt_of_lt_of_le (fE s) (Nat.pow_le_pow_right (by omega) h)
theorem jM (s:ByteArray) (w:World) (hs:s.size<=1073741824):
  Calls prog 179 #[.string s] w fun e w'=>∃A len cap,e=.returned (.slice A len cap)/\fF w' A len cap (ak s)/\4*len<=s.size+3/\Below w.heap.size w w':=
 (aeZ s w (by omega)).mono fun e w' ⟨A,len,cap,h1,h2,h3⟩=>⟨A,len,cap,h1,h2,h2.gB (fE s),h3⟩
theorem Xq {n m K:Nat} (h1:n<256 ^ K) (h2:m<256 ^ K):n+m<256 ^ (K+1):=by
 rw[Nat.pow_succ];omega
def dM (s:ByteArray):Bool:=match s.data.toList with|[]=>true|c::_=>c !=0
theorem vT (s:ByteArray) (w:World):
  Calls prog 126 #[.string s] w fun e w'=>e=.returned (.bool (dM s))/\w=w':=by
 obtain⟨⟨l⟩⟩:=s;rcases l with _|⟨c,l⟩
 ·go_enter func126,ntmps126;go_wp2;go_ret;exact⟨rfl,rfl⟩
 ·have e:dM ⟨⟨c::l⟩⟩=(c !=0):=rfl;rw[e];clear e;go_enter func126,ntmps126;go_wp2;go_ret;refine⟨?_,rfl⟩;show Ending.returned (.bool ((c.toNat:Int) !=0))=_;congr 2;rw[Bool.eq_iff_iff];simp only[bne_iff_ne,ne_eq]
  rw[<-UInt8.toNat_inj];simp
theorem Uy (a b:ByteArray) (w:World) (ha:a.size<=1073741824) (hb:b.size<=1073741824):
  Calls prog 173 #[.string a,.string b] w fun e w'=>e=.returned (.int .i64 (fD (ak a) (ak b)))/\Below w.heap.size w w':=by
 go_enter func173,ntmps173;go_wp2_with fail;refine (jM a _ ha).mono ?_;rintro e w1 ⟨A1,l1,c1,rfl,h1,hl1,hb1⟩;have H1:=zH h1;clear h1;go_wp2_with fail;refine (jM b _ hb).mono ?_;rintro e w2 ⟨A2,l2,c2,rfl,h2,hl2,hb2⟩;have qR:=zH (H1.below hb2);have H2:=zH h2;clear h2;go_wp2_with fail;refine (nN _ _ _ _ _ _ _ _ _ qR H2).mono ?_;rintro e w3 ⟨rfl,hb3⟩;go_wp2;go_ret;exact⟨rfl,(hb1.trans (hb2.mono hb1.size)).trans (hb3.mono (Nat.le_trans hb1.size hb2.size))⟩
theorem ah {w a b:World} (h:Below w.heap.size w a) (h':Below a.heap.size a b):Below w.heap.size w b:=h.trans (h'.mono h.size)
theorem Gf (a b:ByteArray) (w:World) (ha:a.size<=1073741824) (hb:b.size<=1073741824):
  Calls prog 176 #[.string a,.string b] w fun e w'=>e=.returned (.string (aC (ak a+ak b)))/\Below w.heap.size w w':=by
 go_enter func176,ntmps176;go_wp2_with fail;refine (jM a _ ha).mono ?_;rintro e w1 ⟨A1,l1,c1,rfl,h1,hl1,hb1⟩;have H1:=zH h1;clear h1;go_wp2_with fail;refine (jM b _ hb).mono ?_;rintro e w2 ⟨A2,l2,c2,rfl,h2,hl2,hb2⟩;have qR:=zH (H1.below hb2);have H2:=zH h2;clear h2;go_wp2_with fail;refine (sum_any _ _ _ _ _ _ _ _ _ qR H2 (by omega) (by omega)).mono ?_;rintro e w3 ⟨A3,l3,c3,rfl,h3,hb3⟩;have hl3:4*l3<=max a.size b.size+1+3:=h3.gB (Xq (bV a _ (Nat.le_max_left _ _)) (bV b _ (Nat.le_max_right _ _)));have H3:=zH h3;clear h3;go_wp2_with fail;refine (ny _ _ _ _ _ H3 (by omega)).mono ?_;rintro e w4 ⟨rfl,hb4⟩;go_wp2;go_ret;exact⟨rfl,ah (ah (ah hb1 hb2) hb3) hb4⟩
theorem Uz (n:Nat) (h:n<18446744073709551616):val (2 ^ 32) [n % 4294967296,n / 4294967296]=n:=by
 simp only[val];omega
theorem AP (n:Int) (w:World) (h0:-9223372036854775808<=n) (h1:n<=9223372036854775807):
  Calls prog 156 #[.int .i64 n] w fun e w'=>e=.returned (.string (aC n.toNat))/\Below w.heap.size w w':=by
 by_cases hn:n<=0
 ·have e:n.toNat=0:=by omega
  rw[e];go_enter func156,ntmps156;go_wp2;go_ret;exact⟨rfl,Below.refl _ _⟩
 ·obtain⟨m,rfl⟩:=Int.eq_ofNat_of_zero_le (show 0<=n by omega);rw[Int.toNat_natCast]
  have hand:bits BinOp.and .i64 (m:Int) 4294967295=((m % 4294967296:Nat):Int):=by
   have h:=Nat.and_two_pow_sub_one_eq_mod m 32;rw[show (2:Nat) ^ 32-1=4294967295 from rfl] at h;rw[<-h];have hx:m&&& 4294967295<2 ^ 63:=Nat.and_lt_two_pow _ (by omega);show IntKind.i64.wrap ((BitVec.ofInt 64 (m:Int)&&& BitVec.ofInt 64 ((4294967295:Nat):Int)).toNat:Int)=_
   have ob:∀a:Nat,a<9223372036854775808->(BitVec.ofInt 64 (a:Int)).toNat=a:=fun a ha=>by
    rw[BitVec.ofInt_natCast,BitVec.toNat_ofNat];exact Nat.mod_eq_of_lt (by omega)
   rw[BitVec.toNat_and,ob m (by omega),ob 4294967295 (by omega),IntKind.wrap_i64];omega
  obtain⟨lo,hlo⟩:=zF (m % 4294967296);obtain⟨hi,hhi⟩:=zF (m / 4294967296);have hv:=zH (Uz m (by omega));rw[hlo,hhi] at hv;rw[hlo] at hand;have hlo1:lo<4294967296:=by omega
  have hhi1:hi<4294967296:=by omega
  have HLO:=zH hlo;have HHI:=zH hhi;have hdi:(m:Int) / 4294967296=(hi:Int):=by rw[<-hhi];simp
  clear hlo hhi;go_enter func156,ntmps156;go_wp2_with fail;have hB:=aj.new w 231 #[.int .u32 (lo:Int),.int .u32 (hi:Int)]
  refine (FW _ 2 2 [lo,hi] _ rfl (by omega) (by omega) hB.rd (by
   intro x hx;simp at hx;omega)).mono ?_
  rintro e w1 ⟨rfl,hb⟩;rw[hv.out];go_wp2;go_ret;exact⟨rfl,ah (zB _ _) hb⟩
def gQ (n:Nat):Nat:=if n=0 then 0 else n.log2+1
theorem MQ (n L:Nat) (h1:2 ^ L<=n) (h2:n<2 ^ (L+1)):gQ n=L+1:=by
 have h0:n≠0:=by have:=Nat.pow_pos (n:=L) (show 0<2 by omega);omega
 unfold gQ;rw[if_neg h0];have h3:=(Nat.le_log2 h0).2 h1;have h4:=(Nat.log2_lt h0).2 h2;omega
theorem UA (xs:List Nat) (k:Nat) (hx:∀x∈xs,x<2 ^ 32) (hl:xs.length=k+1) (h0:0<xs.getD k 0):
  gQ (val (2 ^ 32) xs)=32*k+Lib.bitLen (xs.getD k 0):=by
 have hx1:xs.getD k 0<2 ^ 32:=aP (by omega) hx k;obtain⟨b1,b2,b3⟩:=bitLen_spec (xs.getD k 0) (by omega) (by omega)
 have e:val (2 ^ 32) xs=val (2 ^ 32) (xs.take k)+(2 ^ 32) ^ k*xs.getD k 0:=by
  rw[<-cZ,take_of_length_le (by omega)]
 have hlo:val (2 ^ 32) (xs.take k)<(2 ^ 32) ^ k:=by
  have:=iE (2 ^ 32) (xs.take k) (fun x hx'=>hx x (mem_of_mem_take hx'));rwa[length_take_of_le (by omega)] at this
 generalize xs.getD k 0=x at*;generalize Lib.bitLen x=L at*;have ep:(2 ^ 32) ^ k=2 ^ (32*k):=by rw[<-Nat.pow_mul]
 rw[ep] at e hlo
 have:=MQ (val (2 ^ 32) xs) (32*k+(L-1)) (by
  rw[e,Nat.pow_add];have:=Nat.mul_le_mul_left (2 ^ (32*k)) b2;omega) (by
  rw[e,show 32*k+(L-1)+1=32*k+L from by omega,Nat.pow_add];have:=Nat.mul_le_mul_left (2 ^ (32*k)) (show x+1<=2 ^ L from b3);rw[Nat.mul_add] at this;omega)
 omega
theorem DV (a:ByteArray) (w:World) (ha:a.size<=1073741824):
  Calls prog 131 #[.string a] w fun e w'=>e=.returned (.int .i64 (gQ (ak a):Nat))/\Below w.heap.size w w':=by
 go_enter func131,ntmps131;go_wp2_with fail;refine (jM a _ ha).mono ?_;rintro e w1 ⟨A1,l1,c1,rfl,h1,hl1,hb1⟩;have hz:=h1.zero;obtain⟨le1,m1,xs,e1,r1,k1,v1⟩:=h1;rcases l1 with _|k
 ·have h0:ak a=0:=hz.1 rfl;have H0:=zH h0;clear hz h0 e1 v1;go_wp2;go_ret;exact⟨by rw[H0.out];rfl,hb1⟩
 ·have hx0:0<xs.getD k 0:=by
   have h0:=k1.last (by intro e;subst e;simp at e1);rw[getLast_eq_getElem] at h0;rw[getD_lt (by omega)];simp only[e1] at h0;have:xs[k]'(by omega)≠0:=h0;omega
  have HB:=zH (UA xs k k1.lt e1 hx0);have hx1:xs.getD k 0<4294967296:=aP (by omega) k1.lt k;obtain⟨b,off,rfl,hbb,hcell⟩:=r1.u (k:=k) (by omega);rw[v1] at HB;have hbl:=bitLen_spec (xs.getD k 0) (by omega) (by omega);generalize xs.getD k 0=x at*
  have hL:Lib.bitLen x<=32:=by
   rcases Nat.lt_or_ge 32 (Lib.bitLen x) with h|h
   ·have:=Nat.pow_le_pow_right (n:=2) (by omega) (show 32<=Lib.bitLen x-1 by omega);omega
   ·exact h
  have R1:=zH r1;clear hz e1 v1 r1 k1 hbl;unfold maxLen at m1;go_wp2_with fail;refine (Tryz.bits_Len32 _ _ (by omega) (by omega)).mono ?_;rintro e w' ⟨rfl,rfl⟩;rw[show ((x:Int)).toNat=x from by simp];go_wp2;go_ret;exact⟨by rw[HB.out];simp,hb1⟩
def AQ (a b:Nat) (w:World) (e:Ending) (w':World):Prop:=
 e=.returned (.tuple #[.string (if b=0 then aC 0 else aC (a / b)),.string (if b=0 then aC 0 else aC (a % b)),.bool (b !=0)])/\Below w.heap.size w w'
theorem UC (a b:ByteArray) (w:World) (ha:a.size<=536870912) (hb:b.size<=536870912):
  Calls prog 175 #[.string a,.string b] w (AQ (ak a) (ak b) w):=by
 go_enter func175,ntmps175;go_wp2_with fail;refine (jM b _ (by omega)).mono ?_;rintro e w1 ⟨A1,l1,c1,rfl,h1,hl1,hb1⟩;have H1:=zH h1;have hz:=h1.zero;clear h1;have hnv:ak a<256 ^ a.size:=fE a;generalize ak b=m at*;by_cases h0:l1=0
 ·have hm:m=0:=hz.1 h0;subst h0 hm;clear hz hnv;go_wp2;refine bodyPost_ret (results_tmp3 rfl _ _ _) rfl ?_;exact⟨rfl,hb1⟩
 ·have hm:0<m:=by
   rcases Nat.eq_zero_or_pos m with h|h
   ·exact absurd (hz.2 h) h0
   ·exact h
  have HNV:=zH hnv;clear hz hnv;go_wp2_with fail;refine (jM a _ (by omega)).mono ?_;rintro e w2 ⟨A2,l2,c2,rfl,h2,hl2,hb2⟩;have qR:=zH (H1.below hb2);have H2:=zH h2;clear h2;go_wp2_with fail;refine (F9 _ _ _ _ _ _ _ _ _ H2 qR hm (by omega)).mono ?_;rintro e w3 ⟨A3,l3,c3,A4,l4,c4,rfl,h3,h4,hb3⟩;have hl3:=h3.gB (Nat.lt_of_le_of_lt (Nat.div_le_self _ _) HNV);have hl4:=h4.gB (Nat.lt_of_le_of_lt (Nat.mod_le _ _) HNV);have H3:=zH h3;have H4:=zH h4;clear h3 h4;go_wp2_with fail;refine (ny _ _ _ _ _ H3 (by omega)).mono ?_;rintro e w4 ⟨rfl,hb4⟩;go_wp2_with fail;refine (ny _ _ _ _ _ (H4.below hb4) (by omega)).mono ?_;rintro e w5 ⟨rfl,hb5⟩;go_wp2;refine bodyPost_ret (results_tmp3 rfl _ _ _) rfl ?_;refine⟨?_,ah (ah (ah (ah hb1 hb2) hb3) hb4) hb5⟩;have hm':m≠0:=by omega
  simp[hm']
theorem dV {a b n m:Nat} (ha:n<256 ^ a) (hb:m<256 ^ b):n*m<256 ^ (a+b):=by
 rw[Nat.pow_add];rcases Nat.eq_zero_or_pos m with h|h
 ·subst h;rw[Nat.mul_zero];exact Nat.mul_pos (Nat.pow_pos (by omega)) (Nat.pow_pos (by omega))
 ·exact Nat.lt_of_lt_of_le (Nat.mul_lt_mul_of_pos_right ha h) (Nat.mul_le_mul_left _ (Nat.le_of_lt hb))
theorem qU (a b:ByteArray) (w:World) (ha:a.size<=536870912) (hb:b.size<=536870912):
  Calls prog 184 #[.string a,.string b] w fun e w'=>e=.returned (.string (aC (ak a*ak b)))/\Below w.heap.size w w':=by
 go_enter func184,ntmps184;go_wp2_with fail;refine (jM a _ (by omega)).mono ?_;rintro e w1 ⟨A1,l1,c1,rfl,h1,hl1,hb1⟩;have H1:=zH h1;clear h1;go_wp2_with fail;refine (jM b _ (by omega)).mono ?_;rintro e w2 ⟨A2,l2,c2,rfl,h2,hl2,hb2⟩;have qR:=zH (H1.out.below hb2);have H2:=zH h2;clear h2;go_wp2_with fail;refine (xI _ _ _ _ _ _ _ _ _ qR.out H2.out (by omega) (by omega)).mono ?_;rintro e w3 ⟨A3,l3,c3,rfl,h3,hb3⟩;have hl3:4*l3<=(a.size+b.size)+3:=h3.gB (dV (fE a) (fE b));have H3:=zH h3;clear h3;go_wp2_with fail;refine (ny _ _ _ _ _ H3.out (by omega)).mono ?_;rintro e w4 ⟨rfl,hb4⟩;go_wp2;go_ret;exact⟨rfl,ah (ah (ah hb1 hb2) hb3) hb4⟩
theorem Gg (u c y:Nat) (hu:u<4294967296) (hc:c<=1) (hy:y<4294967296):
  ∃E D:Nat,IntKind.u64.wrap ((u:Int)-c)=E/\IntKind.u64.wrap ((E:Int)-y)=D/\E<18446744073709551616/\D<18446744073709551616/\
   c+D % 4294967296+y=u+(D / 9223372036854775808)*4294967296/\D / 9223372036854775808<=1:=by
 rcases Nat.lt_or_ge u c with h|h
 ·refine⟨u+18446744073709551616-c,u+18446744073709551616-c-y,?_,?_,by omega,by omega,by omega,by omega⟩
  ·rw[IntKind.wrap_u64];omega
  ·rw[IntKind.wrap_u64];omega
 ·rcases Nat.lt_or_ge (u-c) y with h2|h2
  ·refine⟨u-c,u-c+18446744073709551616-y,?_,?_,by omega,by omega,by omega,by omega⟩
   ·rw[IntKind.wrap_u64];omega
   ·rw[IntKind.wrap_u64];omega
  ·refine⟨u-c,u-c-y,?_,?_,by omega,by omega,by omega,by omega⟩
   ·rw[IntKind.wrap_u64];omega
   ·rw[IntKind.wrap_u64];omega
theorem UD (B k:Nat) (xs ys os:List Nat) (c z c':Nat) (hk:os.length=k) (h:val B (xs.take k)+c*B ^ k=val B os+val B (ys.take k)) (e:c+z+ys.getD k 0=xs.getD k 0+c'*B):
  val B (xs.take (k+1))+c'*B ^ (k+1)=val B (os++[z])+val B (ys.take (k+1)):=by
 rw[gy,hk,cZ,cZ,Nat.pow_succ];generalize xs.getD k 0=x at*;generalize ys.getD k 0=y at*
 grind
theorem aao (A A':Option Addr) (len cap len' cap' n m:Nat) (w:World) (h1:fF w A len cap n) (h2:fF w A' len' cap' m) (hmn:m<=n) (hb:len<=1073741824):
  Calls prog 276 #[.slice A len cap,.slice A' len' cap'] w (vN w (n-m)):=by
 obtain⟨l1,m1,xs,e1,r1,c1,v1⟩:=h1;obtain⟨l2,m2,ys,e2,r2,c2,v2⟩:=h2;unfold maxLen at m1 m2
 have hll:len'<=len:=by
  rcases Nat.lt_or_ge len len' with h|h
  ·have:=c1.vJ (by omega) c2 (by omega);omega
  ·exact h
 have E1:=zH e1;have E2:=zH e2;have V1:=zH v1;have V2:=zH v2;have C1:=zH c1;have C2:=zH c2;have R1:=zH r1;have R2:=zH r2;clear e1 e2 v1 v2 c1 c2 r1 r2;go_enter func276,ntmps276;go_wp2_with (at_make;refine dS _ rfl _ _ 228 rfl 231 (.int .u32 0) 4 underlying228 oH rfl _ _ _ _ len rfl rfl ?_ ?_ (by omega) (by omega) ?_)
 ·omega
 ·omega
 intro w1 hblk hb1;obtain⟨G,HG⟩:∃G,Hid (G=w.heap.size):=⟨_,rfl⟩
 rw[<-HG.out] at hblk hb1⊢;have HB:=zH hblk;clear hblk;go_wp2
 go_loopw [14,6] (fun i cv wr=>∃(k c:Nat) (os:List Nat),k<=len/\c<=1/\i=.int .i64 k/\cv=.int .u64 c/\Hid (os.length=k)/\aj wr G 231 (U (os++List.replicate (len-k) 0))/\Hid (∀x∈os,x<2 ^ 32)/\
   Hid (val (2 ^ 32) (xs.take k)+c*(2 ^ 32) ^ k=val (2 ^ 32) os+val (2 ^ 32) (ys.take k))/\Below G w wr) (fun i _ _=>len-(intOf i).toNat)
 case atStart=>exact⟨0,0,[],by omega,by omega,rfl,rfl,rfl,by have:=HB.out;simpa [U] using this,by show ∀x∈_,_;simp,by show _=_;simp[val],hb1⟩
 case round=>
  obtain⟨k,c,os,hk,hc1,rfl,rfl,ho,hbk,hod,hv,hbw⟩:=hrel;by_cases hlt:k<len
  ·have hr1:Rd wr A (U xs):=R1.out.below (by rw[<-HG.out];exact hbw);obtain⟨b,off,rfl,hbb,hcell⟩:=hr1.u (k:=k) (by rw[E1.out];omega);have hfz:=hbk.frozen k;obtain⟨u,hu⟩:∃u,wr.cell? ⟨G,k,none⟩=some u:=⟨_,hbk.cell (by simp[fV,ho.out];omega)⟩
   have HS:=zH (fun z c' e=>UD (2 ^ 32) k xs ys os c z c' ho.out hv.out e);have x0:xs.getD k 0<4294967296:=aP (by omega) C1.out.lt k;have y0:ys.getD k 0<4294967296:=aP (by omega) C2.out.lt k;by_cases hk2:k<len'
   ·have hr2:Rd wr A' (U ys):=R2.out.below (by rw[<-HG.out];exact hbw);obtain⟨b',off',rfl,Z9,hcell'⟩:=hr2.u (k:=k) (by rw[E2.out];omega);generalize xs.getD k 0=x at*;generalize ys.getD k 0=y at*;obtain⟨E,D,hE,hD,hE0,hD0,hq,hd1⟩:=Gg x c y x0 hc1 y0;have HQ:=zH hq;clear hq hr1 hr2;go_wp2
    go_roundw
    case rel=>
     refine⟨k+1,D / 9223372036854775808,os++[D % 2 ^ 32],by omega,hd1,by go_num,by first|rfl|(congr 1<;>omega),by show _=_;simp[ho.out],?_,gK hod.out (Nat.mod_lt _ (by omega)),HS.out _ _ HQ.out,hbw.setCell (Nat.le_refl _) _⟩;rw[<-yg os len k _ ho.out (by omega)];have e:Value.int .u32 ((D % 2 ^ 32:Nat):Int)=.int .u32 ((D:Int) % 4294967296):=by congr 1<;>omega
     rw[e];exact hbk.set k _
    case measure=>simp[intOf]<;>omega
   ·have hy:ys.getD k 0=0:=by rw[getD_eq_getElem?_getD,getElem?_eq_none (by rw[E2.out];omega)];rfl
    rw[hy] at HS;clear y0 hy;generalize xs.getD k 0=x at*;obtain⟨E,D,hE,hD,hE0,hD0,hq,hd1⟩:=Gg x c 0 x0 hc1 (by omega)
    obtain rfl:D=E:=by
     have h:=IntKind.wrap_u64 ((E:Int)-(0:Nat));rw[hD] at h;omega
    have HQ:=zH hq;clear hq hr1 hD;go_wp2
    go_roundw
    case rel=>
     refine⟨k+1,D / 9223372036854775808,os++[D % 2 ^ 32],by omega,hd1,by go_num,by first|rfl|(congr 1<;>omega),by show _=_;simp[ho.out],?_,gK hod.out (Nat.mod_lt _ (by omega)),HS.out _ _ HQ.out,hbw.setCell (Nat.le_refl _) _⟩;rw[<-yg os len k _ ho.out (by omega)];have e:Value.int .u32 ((D % 2 ^ 32:Nat):Int)=.int .u32 ((D:Int) % 4294967296):=by congr 1<;>omega
     rw[e];exact hbk.set k _
    case measure=>simp[intOf]<;>omega
  ·obtain rfl:k=len:=by omega
   have kN:=zH hbk;clear hbk;go_wp2_with fail;have hl:(os++List.replicate (k-k) 0).length=k:=by simp[ho.out]
   have hd:∀x∈os++List.replicate (k-k) 0,x<2 ^ 32:=by
    rw[Nat.sub_self,replicate_zero,append_nil];exact hod.out
   refine (jK _ _ _ _ _ hl (Nat.le_refl _) (by unfold maxLen;omega) kN.out.rd).mono ?_;rintro e w2 ⟨rfl,rfl⟩;go_wp2;go_ret;refine⟨_,_,_,rfl,?_,by rw[<-HG.out];exact hbw⟩;have:=fF.kE hl (Nat.le_refl _) (by unfold maxLen;omega) kN.out.rd hd;have hv2:=hv.out;rw[<-E1.out,take_length,take_of_length_le (by rw[E1.out,E2.out];exact hll),V1.out,V2.out,E1.out] at hv2;have hvl:val (2 ^ 32) os<(2 ^ 32) ^ k:=by rw[<-ho.out];exact iE (2 ^ 32) os hod.out
   have hc0:c=0:=by
    rcases Nat.eq_zero_or_pos c with h|h
    ·exact h
    ·obtain rfl:c=1:=by omega
     rw[Nat.one_mul] at hv2;omega
   subst hc0;rw[Nat.zero_mul,Nat.add_zero] at hv2;rw[Nat.sub_self,replicate_zero,append_nil] at this;rw[show n-m=val (2 ^ 32) os by omega];exact this
theorem Jz (a b:ByteArray) (w:World) (ha:a.size<=1073741824) (hb:b.size<=1073741824) (hmn:ak b<=ak a):
  Calls prog 226 #[.string a,.string b] w fun e w'=>e=.returned (.tuple #[.string (aC (ak a-ak b)),.bool true])/\Below w.heap.size w w':=by
 have HV:=zH (fE a);have HM:=zH hmn;have HC:¬(fD (ak a) (ak b)<0):=by unfold fD;rw[if_neg (by omega)];split<;>omega
 clear hmn;go_enter func226,ntmps226;go_wp2_with fail;refine (jM a _ ha).mono ?_;rintro e w1 ⟨A1,l1,c1,rfl,h1,hl1,hb1⟩;have H1:=zH h1;clear h1;go_wp2_with fail;refine (jM b _ hb).mono ?_;rintro e w2 ⟨A2,l2,c2,rfl,h2,hl2,hb2⟩;have qR:=zH (H1.out.below hb2);have H2:=zH h2;clear h2;go_wp2_with fail;refine (nN _ _ _ _ _ _ _ _ _ qR.out H2.out).mono ?_;rintro e w3 ⟨rfl,hb3⟩;have akw:=zH (qR.out.below hb3);have H2':=zH (H2.out.below hb3);generalize fD (ak a) (ak b)=cq at*;go_wp2_with fail;refine (aao _ _ _ _ _ _ _ _ _ akw.out H2'.out HM.out (by omega)).mono ?_;rintro e w4 ⟨A4,l4,c4,rfl,h4,hb4⟩;have hl4:4*l4<=a.size+3:=h4.gB (Nat.lt_of_le_of_lt (Nat.sub_le _ _) HV.out);have H4:=zH h4;clear h4;go_wp2_with fail;refine (ny _ _ _ _ _ H4.out (by omega)).mono ?_;rintro e w5 ⟨rfl,hb5⟩;go_wp2;refine bodyPost_ret (v:=.tuple #[.string (aC (ak a-ak b)),.bool true]) (by simp[results,results226,go_sem]) rfl ?_;exact⟨rfl,ah (ah (ah (ah hb1 hb2) hb3) hb4) hb5⟩
theorem Xr (a b:ByteArray) (w:World) (ha:a.size<=1073741824) (hb:b.size<=1073741824) (hmn:ak a<ak b):
  Calls prog 226 #[.string a,.string b] w fun e w'=>e=.returned (.tuple #[.string ⟨#[]⟩,.bool false])/\Below w.heap.size w w':=by
 have HC:fD (ak a) (ak b)<0:=by unfold fD;rw[if_pos hmn];omega
 clear hmn;go_enter func226,ntmps226;go_wp2_with fail;refine (jM a _ ha).mono ?_;rintro e w1 ⟨A1,l1,c1,rfl,h1,hl1,hb1⟩;have H1:=zH h1;clear h1;go_wp2_with fail;refine (jM b _ hb).mono ?_;rintro e w2 ⟨A2,l2,c2,rfl,h2,hl2,hb2⟩;have qR:=zH (H1.out.below hb2);have H2:=zH h2;clear h2;go_wp2_with fail;refine (nN _ _ _ _ _ _ _ _ _ qR.out H2.out).mono ?_;rintro e w3 ⟨rfl,hb3⟩;generalize fD (ak a) (ak b)=cq at*;go_wp2;refine bodyPost_ret (v:=.tuple #[.string ⟨#[]⟩,.bool false]) (by simp[results,results226,go_sem]) rfl ?_;exact⟨rfl,ah (ah hb1 hb2) hb3⟩
end Go.Proofs.YtjpbmbgincdjaaaGreatDoor
