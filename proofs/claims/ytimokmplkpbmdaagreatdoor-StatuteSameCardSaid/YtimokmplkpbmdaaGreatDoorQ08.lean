/- A part of the proof: R5 R6 R7 R8. -/
import Derived.Test.YtimokmplkpbmdaaGreatDoorQ06
import Derived.Test.YtimokmplkpbmdaaGreatDoorQ07
set_option linter.all false
set_option maxRecDepth 100000
set_option maxHeartbeats 0
namespace Go.Proofs.YtimokmplkpbmdaaGreatDoor
open Go.RowKit
theorem lF (a:ByteArray) (K:Nat) (w:World) (ha:a.size<=1099511627776) (hK:K<=7) (ki:Int) (hki:ki=K):
  Calls Tryz.prog 98 #[.string a,.int .i64 ki] w (VE (ay a) (decide (ay a<256 ^ K)) w):=by
 subst hki;have hbig:=Ef (ay a) K;have yC:=aZ (ay a) K;have HC:=zH (fZ a w ha);have HI:=zH (YT a w ha)
 have h64:ay a<256 ^ K->decide (ay a<9223372036854775808)=true:=by
  intro h;have:=Nat.pow_le_pow_right (n:=256) (by omega) hK;rw[decide_eq_true_eq];omega
 generalize aC (ay a)=t at*;by_cases h:ay a<256 ^ K
 ·have hs:=yC h;have adL:=h64 h;have hd:decide (ay a<256 ^ K)=true:=by simpa using h
  rw[hd];rw[adL] at HI;clear hbig yC h64 h adL hd;go_enter Tryz.func98,Tryz.ntmps98;go_wp2_with fail;refine HC.out.mono ?_;rintro e w' ⟨rfl,rfl⟩;go_wp2_with fail;refine HI.out.mono ?_;rintro e w' ⟨rfl,rfl⟩;go_wp2;go_ret2;exact⟨rfl,rfl⟩
 ·have hs:=hbig (by omega);have hd:decide (ay a<256 ^ K)=false:=by simpa using h
  rw[hd];clear hbig yC h64 h hd HI;go_enter Tryz.func98,Tryz.ntmps98;go_wp2_with fail;refine HC.out.mono ?_;rintro e w' ⟨rfl,rfl⟩;go_wp2;go_ret2;exact⟨rfl,rfl⟩
theorem BL (l m:List UInt8) (h:l.length=m.length):Op.bytesLess l m=decide (vb l<vb m):=by
 induction l generalizing m with
 |nil=>
  obtain rfl:m=[]:=List.eq_nil_of_length_eq_zero (by simpa using h.symm);simp[Op.bytesLess]
 |cons a x ih=>
  cases m with
  |nil=>simp at h
  |cons b y=>
   have hl:x.length=y.length:=by simpa using h
   have h1:=tV x;have h2:=tV y;rw[Op.bytesLess,ih y hl,vb,vb,hl];rw[hl] at h1;rw[Bool.eq_iff_iff];simp only[Bool.or_eq_true,Bool.and_eq_true,decide_eq_true_eq,beq_iff_eq,UInt8.lt_iff_toNat_lt]
   constructor
   ·rintro (h3|⟨rfl,h3⟩)
    ·have:=Nat.mul_le_mul_right (256 ^ y.length) (show a.toNat+1<=b.toNat from h3);rw[Nat.add_mul] at this;omega
    ·omega
   ·intro h3;rcases Nat.lt_trichotomy a.toNat b.toNat with h4|h4|h4
    ·exact .inl h4
    ·exact .inr ⟨UInt8.toNat_inj.1 h4,by rw[h4] at h3;omega⟩
    ·have:=Nat.mul_le_mul_right (256 ^ y.length) (show b.toNat+1<=a.toNat from h4);rw[Nat.add_mul] at this;omega
theorem Jv (n m:Nat) (h:(nb n).length<(nb m).length):n<m:=by
 have h1:=tV (nb n);rw[tX] at h1;have h3:nb m≠[]:=by intro e;rw[e] at h;simp at h
 obtain⟨c,l,hcl⟩:=List.exists_cons_of_ne_nil h3;have h4:=sD m h3;have h5:=F6 c l (by simpa [hcl] using h4);rw[<-hcl,tX] at h5;rw[hcl] at h;have:=Nat.pow_le_pow_right (n:=256) (by omega) (show (nb n).length<=l.length by simp at h;omega);omega
theorem zN (n:Nat):(aC n).toList=nb n:=by rw[ByteArray.toList_eq];rfl
theorem LQ (a b:ByteArray) (w:World) (ha:a.size<=1099511627776) (hb:b.size<=1099511627776):
  Calls Tryz.prog 183 #[.string a,.string b] w fun e w'=>e=.returned (.int .i64 (iE (ay a) (ay b)))/\w=w':=by
 have HA:=zH (fZ a w ha);have HB:=zH (fZ b w hb);generalize ay a=n at*;generalize ay b=m at*;have hs:∀x,(aC x).size=(nb x).length:=fun _=>rfl
 have hn:=hs n;have hm:=hs m;clear hs;rcases Nat.lt_trichotomy (nb n).length (nb m).length with h|h|h
 ·have H:=zH (Jv n m h);have h1:(aC n).size<(aC m).size:=by omega
  generalize aC n=s at*;generalize aC m=t at*;clear h hn hm;go_enter Tryz.func183,Tryz.ntmps183;go_wp2_with fail;refine HA.out.mono ?_;rintro e w' ⟨rfl,rfl⟩;go_wp2_with fail;refine HB.out.mono ?_;rintro e w' ⟨rfl,rfl⟩;go_wp2;go_ret;exact⟨by rw[yL H.out];rfl,rfl⟩
 ·have h1:(aC n).size=(aC m).size:=by omega
  have hl1:=BL (nb n) (nb m) h;have hl2:=BL (nb m) (nb n) h.symm;rw[tX,tX] at hl1 hl2
  have he:(nb n==nb m)=decide (n=m):=by
   rw[Bool.eq_iff_iff];simp only[beq_iff_eq,decide_eq_true_eq]
   constructor
   ·intro h;have:=congrArg vb h;rwa[tX,tX] at this
   ·rintro rfl;rfl
  rw[<-zN,<-zN] at hl1 he;have h1i:((aC n).size:Int)=(aC m).size:=by omega
  clear h hn hm hl2;obtain⟨S,hS⟩:=zF (aC n);obtain⟨T,hT⟩:=zF (aC m);rw[hS] at HA hl1 he h1 h1i;rw[hT] at HB hl1 he h1 h1i;clear hS hT;rcases Nat.lt_trichotomy n m with h2|h2|h2
  ·have k1:decide (n<m)=true:=by simpa using h2
   rw[k1] at hl1;have H:=zH h2;clear k1 he h2 h1;go_enter Tryz.func183,Tryz.ntmps183;go_wp2_with fail;refine HA.out.mono ?_;rintro e w' ⟨rfl,rfl⟩;go_wp2_with fail;refine HB.out.mono ?_;rintro e w' ⟨rfl,rfl⟩;go_wp2;go_ret;exact⟨by rw[yL H.out];rfl,rfl⟩
  ·have k1:decide (n<m)=false:=by simp;omega
   have k2:decide (n=m)=true:=by simpa using h2
   rw[k1] at hl1;rw[k2] at he;have H:=zH h2;clear k1 k2 h2 h1;go_enter Tryz.func183,Tryz.ntmps183;go_wp2_with fail;refine HA.out.mono ?_;rintro e w' ⟨rfl,rfl⟩;go_wp2_with fail;refine HB.out.mono ?_;rintro e w' ⟨rfl,rfl⟩;go_wp2;go_ret;exact⟨by rw[H.out,Qj];rfl,rfl⟩
  ·have k1:decide (n<m)=false:=by simp;omega
   have k2:decide (n=m)=false:=by simp;omega
   rw[k1] at hl1;rw[k2] at he;have H:=zH h2;clear k1 k2 h2 h1;go_enter Tryz.func183,Tryz.ntmps183;go_wp2_with fail;refine HA.out.mono ?_;rintro e w' ⟨rfl,rfl⟩;go_wp2_with fail;refine HB.out.mono ?_;rintro e w' ⟨rfl,rfl⟩;go_wp2;go_ret;exact⟨by rw[Dz H.out];rfl,rfl⟩
 ·have H:=zH (Jv m n h);have h1:(aC m).size<(aC n).size:=by omega
  generalize aC n=s at*;generalize aC m=t at*;clear h hn hm;go_enter Tryz.func183,Tryz.ntmps183;go_wp2_with fail;refine HA.out.mono ?_;rintro e w' ⟨rfl,rfl⟩;go_wp2_with fail;refine HB.out.mono ?_;rintro e w' ⟨rfl,rfl⟩;go_wp2;go_ret;exact⟨by rw[Dz H.out];rfl,rfl⟩
theorem Gs (s:ByteArray) (w:World):
  Calls Tryz.prog 182 #[.string s] w fun e w'=>e=.returned (.bool (dM s))/\w=w':=by
 obtain⟨⟨l⟩⟩:=s;rcases l with _|⟨c,l⟩
 ·have h0:(⟨⟨[]⟩⟩:ByteArray).size=0:=rfl;go_enter Tryz.func182,Tryz.ntmps182;go_wp2;go_ret;exact⟨rfl,rfl⟩
 ·have e:dM ⟨⟨c::l⟩⟩=(c !=0):=rfl;have h0:(⟨⟨c::l⟩⟩:ByteArray).size=l.length+1:=rfl;rw[e];clear e;go_enter Tryz.func182,Tryz.ntmps182;go_wp2;go_ret;refine⟨?_,rfl⟩;show Ending.returned (.bool ((c.toNat:Int) !=0))=_;congr 2;rw[Bool.eq_iff_iff];simp only[bne_iff_ne,ne_eq]
  rw[<-UInt8.toNat_inj];simp
theorem Y9 (a b:ByteArray) (w:World) (ha:a.size<=1073741824) (hb:b.size<=1073741824):
  Calls Tryz.prog 47 #[.string a,.string b] w fun e w'=>e=.returned (.string (aC (ay a+ay b)))/\Below w.heap.size w w':=by
 have wH:=zH (lF a 7 w (by omega) (by omega) 7 rfl);have ny:=zH (lF b 7 w (by omega) (by omega) 7 rfl);by_cases hsm:ay a<256 ^ 7/\ay b<256 ^ 7
 ·obtain⟨h1,h2⟩:=hsm;have d1:decide (ay a<256 ^ 7)=true:=by simpa using h1
  have d2:decide (ay b<256 ^ 7)=true:=by simpa using h2
  rw[d1] at wH;rw[d2] at ny;have h1':ay a<72057594037927936:=h1;have h2':ay b<72057594037927936:=h2;clear d1 d2 h1 h2;generalize ay a=n at*;generalize ay b=m at*;go_enter Tryz.func47,Tryz.ntmps47;go_wp2_with fail;refine wH.out.mono ?_;rintro e w' ⟨rfl,rfl⟩;go_wp2_with fail;refine ny.out.mono ?_;rintro e w' ⟨rfl,rfl⟩;go_wp2_with fail;refine (qF _ _ (by omega) (by omega)).mono ?_;rintro e w1 ⟨rfl,hb1⟩;go_wp2;go_ret;refine⟨?_,hb1⟩;rw[show ((n:Int)+m).toNat=n+m from by omega];rfl
 ·obtain⟨B,hB⟩:=zE w.heap.size;have HB:=zH hB;have hBw:B<=w.heap.size:=by omega
  have hnot:¬(decide (ay a<256 ^ 7)=true/\decide (ay b<256 ^ 7)=true):=by simpa using hsm
  obtain⟨da,hda⟩:∃d,decide (ay a<256 ^ 7)=d:=⟨_,rfl⟩
  obtain⟨db,hdb⟩:∃d,decide (ay b<256 ^ 7)=d:=⟨_,rfl⟩
  rw[hda] at wH hnot;rw[hdb] at ny hnot;have hcase:(da=false/\db=false)∨(da=false/\db=true)∨(da=true/\db=false):=by cases da<;>cases db<;>simp_all
  clear hB hsm hda hdb hnot;rcases hcase with⟨rfl,rfl⟩|⟨rfl,rfl⟩|⟨rfl,rfl⟩
  all_goals
   go_enter Tryz.func47,Tryz.ntmps47;go_wp2_with fail;refine wH.out.mono ?_;rintro e w' ⟨rfl,rfl⟩;go_wp2_with fail;refine ny.out.mono ?_;rintro e w' ⟨rfl,rfl⟩;go_wp2_with fail;refine (vZ a _ ha).mono ?_;rintro e w1 ⟨A1,l1,c1,rfl,h1,hb1⟩;have hl1:=h1.ig (fF a);have H1:=zH h1;clear h1;go_wp2_with fail;refine (vZ b _ hb).mono ?_;rintro e w2 ⟨A2,l2,c2,rfl,h2,hb2⟩;have hl2:=h2.ig (fF b);obtain⟨_,_,xs,e1,r1,k1,v1⟩:=H1.out.below hb2;obtain⟨_,_,ys,e2,r2,k2,v2⟩:=h2;have mM:=ah hb1 hb2;rw[<-HB.out] at mM;have hB2:B<=w2.heap.size:=Nat.le_trans hBw mM.size;have E1:=zH e1;have E2:=zH e2;have V1:=zH v1;have V2:=zH v2;have C1:=zH k1;have C2:=zH k2;have R1:=zH r1;have R2:=zH r2;clear e1 e2 v1 v2 k1 k2 r1 r2 hb1 hb2;obtain⟨W2,hW2⟩:=zE w2.heap.size;have HW2:=zH hW2;clear hW2;go_wp2_with fail
   go_loopw [13,12,11] (fun kv cv ov wr=>∃(k c:Nat) (os:List Nat),k<=715827884/\c<=1/\(c=0∨k<=l1∨k<=l2)/\kv=.int .i64 k/\cv=.int .i64 c/\Hid (os.length=k)/\Hid (∀x∈os,x<2 ^ 24)/\
     Hid (val (2 ^ 24) os+c*(2 ^ 24) ^ k=val (2 ^ 24) (xs.take k)+val (2 ^ 24) (ys.take k))/\Hid (wr.ownsRow W2 3 1 ov k (I os))/\Below W2 w2 wr/\W2<=wr.heap.size) (fun kv cv _ _=>(2*(l1+l2+2)-2*(intOf kv).toNat)+(intOf cv).toNat)
   case atStart=>exact⟨0,0,[],by omega,by omega,.inl rfl,rfl,rfl,rfl,by show ∀x∈_,_;simp,by show _=_;simp[val],World.ownsRow_nil _ _ _ _,Below.refl _ _,by rw[HW2.out];exact Nat.le_refl _⟩
   case round=>
    obtain⟨k,c,os,hk,hc,hck,rfl,rfl,ho,hod,hv,hown,hbw,hBs⟩:=hrel;have HS:=zH (Lm (2 ^ 24) k xs ys os c (by omega) ho.out hv.out);have x0:xs.getD k 0<16777216:=aT (by omega) C1.out.lt k;have y0:ys.getD k 0<16777216:=aT (by omega) C2.out.lt k;have hx':l1<=k->xs.getD k 0=0:=fun h=>by rw[List.getD_eq_getElem?_getD,List.getElem?_eq_none (by rw[E1.out];omega)];rfl
    have hy':l2<=k->ys.getD k 0=0:=fun h=>by rw[List.getD_eq_getElem?_getD,List.getElem?_eq_none (by rw[E2.out];omega)];rfl
    have hr1:Rd wr A1 (I xs):=R1.out.keep (by rw[<-HW2.out];have:=hbw.size;omega) (fun p hp=>hbw.cell (by rw[HW2.out];exact hp));have hr2:Rd wr A2 (I ys):=R2.out.keep (by rw[<-HW2.out];have:=hbw.size;omega) (fun p hp=>hbw.cell (by rw[HW2.out];exact hp));by_cases hk1:k<l1
    ·obtain⟨b1,o1,rfl,_,hcx⟩:=hr1.i (k:=k) (by rw[E1.out];exact hk1);by_cases hk2:k<l2
     ·obtain⟨b2,o2,rfl,_,hcy⟩:=hr2.i (k:=k) (by rw[E2.out];exact hk2);generalize xs.getD k 0=x at*;generalize ys.getD k 0=y at*;clear hr1 hr2;have hq:(x+c+y) / 2 ^ 24<=1:=by omega
      go_wp2_with (at_builtin;go_must (refine bP wr #[.int .i64 (((c:Int)+x+y) % 16777216)] rfl _ _ 108 rfl W2 3 (.int .i64 0) 1 8 1 Tryz.underlying108 gQ rfl (by decide) u11 k (I os) (by rfl) hown.out (by rfl) ?_ ?_ ?_ ?_ ?_ ?_))
      any_goals first|rfl|(unfold maxLen;omega)|omega
      intro v' w' hown' hb';have HOWN:=zH hown';clear hown';go_wp2
      go_roundw
      case rel=>
       refine⟨k+1,(x+c+y) / 2 ^ 24,os++[(x+c+y) % 2 ^ 24],by omega,hq,by omega,by go_num,?_,by show _=_;simp[ho.out],fV hod.out (Nat.mod_lt _ (by omega)),HS.out,?_,hbw.trans hb',Nat.le_trans hBs hb'.size⟩
       ·congr 1<;>omega
       ·show World.ownsRow _ _ _ _ _ _ _;have h1:=HOWN.out;rw[jJ]
        have e1:I [(x+c+y) % 2 ^ 24]=[.int .i64 (((c:Int)+x+y) % 16777216)]:=by
         show [Value.int .i64 _]=[Value.int .i64 _]
         first|rfl|(congr 2<;>omega)
        rw[e1];exact h1
      case measure=>simp[intOf]<;>omega
     ·have hy0:=hy' (by omega);rw[hy0] at HS;clear hy' hy0 y0;generalize xs.getD k 0=x at*;clear hr1 hr2;have hq:(x+c+0) / 2 ^ 24<=1:=by omega
      go_wp2_with (at_builtin;go_must (refine bP wr #[.int .i64 (((c:Int)+x) % 16777216)] rfl _ _ 108 rfl W2 3 (.int .i64 0) 1 8 1 Tryz.underlying108 gQ rfl (by decide) u11 k (I os) (by rfl) hown.out (by rfl) ?_ ?_ ?_ ?_ ?_ ?_))
      any_goals first|rfl|(unfold maxLen;omega)|omega
      intro v' w' hown' hb';have HOWN:=zH hown';clear hown';go_wp2
      go_roundw
      case rel=>
       refine⟨k+1,(x+c+0) / 2 ^ 24,os++[(x+c+0) % 2 ^ 24],by omega,hq,by omega,by go_num,?_,by show _=_;simp[ho.out],fV hod.out (Nat.mod_lt _ (by omega)),HS.out,?_,hbw.trans hb',Nat.le_trans hBs hb'.size⟩
       ·congr 1<;>omega
       ·show World.ownsRow _ _ _ _ _ _ _;have h1:=HOWN.out;rw[jJ]
        have e1:I [(x+c+0) % 2 ^ 24]=[.int .i64 (((c:Int)+x) % 16777216)]:=by
         show [Value.int .i64 _]=[Value.int .i64 _]
         first|rfl|(congr 2<;>omega)
        rw[e1];exact h1
      case measure=>simp[intOf]<;>omega
    ·have hx0:=hx' (by omega);rw[hx0] at HS;clear hx' hx0 x0;by_cases hk2:k<l2
     ·obtain⟨b2,o2,rfl,_,hcy⟩:=hr2.i (k:=k) (by rw[E2.out];exact hk2);generalize ys.getD k 0=y at*;clear hr1 hr2;have hq:(0+c+y) / 2 ^ 24<=1:=by omega
      go_wp2_with (at_builtin;go_must (refine bP wr #[.int .i64 (((c:Int)+y) % 16777216)] rfl _ _ 108 rfl W2 3 (.int .i64 0) 1 8 1 Tryz.underlying108 gQ rfl (by decide) u11 k (I os) (by rfl) hown.out (by rfl) ?_ ?_ ?_ ?_ ?_ ?_))
      any_goals first|rfl|(unfold maxLen;omega)|omega
      intro v' w' hown' hb';have HOWN:=zH hown';clear hown';go_wp2
      go_roundw
      case rel=>
       refine⟨k+1,(0+c+y) / 2 ^ 24,os++[(0+c+y) % 2 ^ 24],by omega,hq,by omega,by go_num,?_,by show _=_;simp[ho.out],fV hod.out (Nat.mod_lt _ (by omega)),HS.out,?_,hbw.trans hb',Nat.le_trans hBs hb'.size⟩
       ·congr 1<;>omega
       ·show World.ownsRow _ _ _ _ _ _ _;have h1:=HOWN.out;rw[jJ]
        have e1:I [(0+c+y) % 2 ^ 24]=[.int .i64 (((c:Int)+y) % 16777216)]:=by
         show [Value.int .i64 _]=[Value.int .i64 _]
         first|rfl|(congr 2<;>omega)
        rw[e1];exact h1
      case measure=>simp[intOf]<;>omega
     ·have hy0:=hy' (by omega);rw[hy0] at HS;clear hy' hy0 y0;by_cases hc0:0<c
      ·obtain rfl:c=1:=by omega
       clear hr1 hr2;have hq:(0+1+0) / 2 ^ 24<=1:=by omega
       go_wp2_with (at_builtin;go_must (refine bP wr #[.int .i64 (1)] rfl _ _ 108 rfl W2 3 (.int .i64 0) 1 8 1 Tryz.underlying108 gQ rfl (by decide) u11 k (I os) (by rfl) hown.out (by rfl) ?_ ?_ ?_ ?_ ?_ ?_))
       any_goals first|rfl|(unfold maxLen;omega)|omega
       intro v' w' hown' hb';have HOWN:=zH hown';clear hown';go_wp2
       go_roundw
       case rel=>
        refine⟨k+1,(0+1+0) / 2 ^ 24,os++[(0+1+0) % 2 ^ 24],by omega,hq,by omega,by go_num,?_,by show _=_;simp[ho.out],fV hod.out (Nat.mod_lt _ (by omega)),HS.out,?_,hbw.trans hb',Nat.le_trans hBs hb'.size⟩
        ·congr 1<;>omega
        ·show World.ownsRow _ _ _ _ _ _ _;have h1:=HOWN.out;rw[jJ]
         have e1:I [(0+1+0) % 2 ^ 24]=[.int .i64 (1)]:=by
          show [Value.int .i64 _]=[Value.int .i64 _]
          first|rfl|(congr 2<;>omega)
         rw[e1];exact h1
       case measure=>simp[intOf]<;>omega
      ·obtain rfl:c=0:=by omega
       obtain⟨A',cap',rfl,h1,h2,h3,h4⟩:=bY hown.out;have H3:=zH h3;clear h3 hown hr1 hr2;go_wp2_with fail;refine (tY _ _ _ os _ ho.out h1 (by omega) H3.out hod.out).mono ?_;rintro e w3 ⟨rfl,hb3⟩;go_wp2;go_ret;refine⟨?_,?_⟩
       ·have h5:=hv.out;rw[List.take_of_length_le (by rw[E1.out];omega),List.take_of_length_le (by rw[E2.out];omega),V1.out,V2.out,Nat.zero_mul,Nat.add_zero] at h5;rw[h5];rfl
       ·have h5:Below B w wr:=mM.trans (hbw.mono (by rw[HW2.out];exact hB2));have h6:=h5.trans (hb3.mono (Nat.le_trans hBw h5.size));rw[<-HB.out];exact h6
def nC (w:World) (n m:Nat) (e:Ending) (w':World):Prop:=
 ∃z:Int,e=.returned (.int .i64 z)/\(z<0↔n<m)/\(z=0↔n=m)/\Below w.heap.size w w'
theorem nC.lt {w w':World} {n m:Nat} {z:Int} (h:n<m) (hz:z<0) (hb:Below w.heap.size w w'):nC w n m (.returned (.int .i64 z)) w':=
 ⟨z,rfl,by omega,by omega,hb⟩
theorem nC.gt {w w':World} {n m:Nat} {z:Int} (h:m<n) (hz:0<z) (hb:Below w.heap.size w w'):nC w n m (.returned (.int .i64 z)) w':=
 ⟨z,rfl,by omega,by omega,hb⟩
theorem nC.eq {w w':World} {n m:Nat} (h:n=m) (hb:Below w.heap.size w w'):nC w n m (.returned (.int .i64 0)) w':=
 ⟨0,rfl,by omega,by omega,hb⟩
theorem LU (A A':Option Addr) (len cap len' cap' n m:Nat) (w:World) (h1:iZ w A len cap n) (h2:iZ w A' len' cap' m):
  Calls Tryz.prog 221 #[.slice A len cap,.slice A' len' cap'] w (nC w n m):=by
 obtain⟨l1,m1,xs,e1,r1,c1,v1⟩:=h1;obtain⟨l2,m2,ys,e2,r2,c2,v2⟩:=h2;unfold maxLen at m1 m2;have E1:=zH e1;have E2:=zH e2;have V1:=zH v1;have V2:=zH v2;have C1:=zH c1;have C2:=zH c2;have R1:=zH r1;have R2:=zH r2;clear e1 e2 v1 v2 c1 c2 r1 r2;rcases Nat.lt_trichotomy len len' with hl|hl|hl
 ·go_enter Tryz.func221,Tryz.ntmps221;go_wp2;go_ret;exact nC.lt (by rw[<-V1.out,<-V2.out];exact C1.out.wB (by omega) C2.out (by rw[E1.out,E2.out];exact hl)) (by omega) (Below.refl _ _)
 ·subst hl;go_enter Tryz.func221,Tryz.ntmps221;go_wp2
  go_loopw [5] (fun i wr=>∃k:Nat,k<=len/\i=.int .i64 ((k:Int)-1)/\Hid (xs.drop k=ys.drop k)/\∃d,wr=w.drewN d) (fun i _=>(intOf i+1).toNat)
  case atStart=>exact⟨len,by omega,by go_num,by show _=_;rw[List.drop_eq_nil_of_le (by rw[E1.out];omega),List.drop_eq_nil_of_le (by rw[E2.out];omega)],0,rfl⟩
  case round=>
   obtain⟨k,hk,rfl,hd,d,rfl⟩:=hrel;by_cases hk0:0<k
   ·obtain⟨k,rfl⟩:∃j,k=j+1:=⟨k-1,by omega⟩
    obtain⟨b,off,rfl,hb,hc⟩:=R1.out.i (k:=k) (by rw[E1.out];omega);obtain⟨b',off',rfl,hb',hc'⟩:=R2.out.i (k:=k) (by rw[E2.out];omega);have D1:=zH (fun hlt=>qP (2 ^ 24) xs ys C1.out.lt k (by rw[E1.out];omega) (by rw[E2.out];omega) hd.out hlt);have D2:=zH (fun hlt=>qP (2 ^ 24) ys xs C2.out.lt k (by rw[E2.out];omega) (by rw[E1.out];omega) hd.out.symm hlt);have D3:=zH (fun he=>Bq xs ys k (by rw[E1.out];omega) (by rw[E2.out];omega) hd.out he);have x0:xs.getD k 0<16777216:=aT (by omega) C1.out.lt k;have y0:ys.getD k 0<16777216:=aT (by omega) C2.out.lt k;generalize xs.getD k 0=x at*;generalize ys.getD k 0=y at*;have p1:(0:Int)<=(k:Int)+1-1:=by omega
    rcases Nat.lt_trichotomy x y with hxy|hxy|hxy
    ·have HX:=zH (D1.out hxy);go_wp2_with fail;go_quiet (fail);go_wp2_with fail;go_quiet (fail);go_wp2;go_ret;exact nC.lt (by rw[<-V1.out,<-V2.out];exact HX.out) (by omega) (by repeat (first|exact Below.refl _ _|exact ak _ _ _|refine below_drewN ?_ _))
    ·have HX:=zH (D3.out hxy);subst hxy;go_wp2_with fail;go_quiet (fail);go_wp2
     go_roundw
     case rel=>exact⟨k,by omega,by first|rfl|go_num,HX.out,_,by first|rfl|(simp only[World.drewN_drewN];rfl)⟩
     case measure=>simp[intOf]<;>omega
    ·have HX:=zH (D2.out hxy);go_wp2_with fail;go_quiet (fail);go_wp2_with fail;go_quiet (fail);go_wp2;go_ret;exact nC.gt (by rw[<-V1.out,<-V2.out];exact HX.out) (by omega) (by repeat (first|exact Below.refl _ _|exact ak _ _ _|refine below_drewN ?_ _))
   ·obtain rfl:k=0:=by omega
    go_wp2;go_ret;have:xs=ys:=by simpa using hd.out
    exact nC.eq (by rw[<-V1.out,<-V2.out,this]) (ak _ _ _)
 ·go_enter Tryz.func221,Tryz.ntmps221;go_wp2;go_ret;exact nC.gt (by rw[<-V1.out,<-V2.out];exact C2.out.wB (by omega) C1.out (by rw[E1.out,E2.out];exact hl)) (by omega) (Below.refl _ _)
theorem VK (B k:Nat) (xs ys os:List Nat) (c z c':Nat) (hk:os.length=k) (h:val B (xs.take k)+c*B ^ k=val B os+val B (ys.take k)) (e:c+z+ys.getD k 0=xs.getD k 0+c'*B):
  val B (xs.take (k+1))+c'*B ^ (k+1)=val B (os++[z])+val B (ys.take (k+1)):=by
 rw[fQ,hk,dB,dB,Nat.pow_succ];generalize xs.getD k 0=x at*;generalize ys.getD k 0=y at*
 grind
theorem SC (B k t:Nat) (xs os:List Nat) (c:Nat) (hk:os.length=k) (h:val B os+c*B ^ k=val B (xs.take k)*t):
  val B (os++[(xs.getD k 0*t+c) % B])+(xs.getD k 0*t+c) / B*B ^ (k+1)=val B (xs.take (k+1))*t:=by
 rw[fQ,hk,dB,Nat.pow_succ];generalize xs.getD k 0=x;have e:=Nat.div_add_mod (x*t+c) B;generalize (x*t+c) / B=q at*;generalize (x*t+c) % B=r at*
 grind
theorem O5 (x t c:Nat) (hx:x<16777216) (ht:t<16777216) (hc:c<16777216):x*t+c<281474976710656:=by
 have:=Nat.mul_le_mul (show x<=16777215 from by omega) (show t<=16777215 from by omega);omega
theorem Gt (A:Option Addr) (len cap n t:Nat) (ti:Int) (w:World) (hti:ti=t) (h1:iZ w A len cap n) (hl:len<=715827884) (ht:t<16777216):
  Calls Tryz.prog 224 #[.slice A len cap,.int .i64 ti] w (yM w (n*t)):=by
 subst hti;obtain⟨_,_,xs,e1,r1,k1,v1⟩:=h1;have E1:=zH e1;have V1:=zH v1;have C1:=zH k1;have R1:=zH r1;clear e1 v1 k1 r1;obtain⟨B,hB⟩:=zE w.heap.size;have HB:=zH hB;clear hB;go_enter Tryz.func224,Tryz.ntmps224;go_wp2_with fail
 go_loopw [7,6,5] (fun kv cv ov wr=>∃(k c:Nat) (os:List Nat),k<=len/\c<16777216/\kv=.int .i64 k/\cv=.int .i64 c/\Hid (os.length=k)/\Hid (∀x∈os,x<2 ^ 24)/\
   Hid (val (2 ^ 24) os+c*(2 ^ 24) ^ k=val (2 ^ 24) (xs.take k)*t)/\Hid (wr.ownsRow B 3 1 ov k (I os))/\Below B w wr/\B<=wr.heap.size) (fun kv _ _ _=>len-(intOf kv).toNat)
 case atStart=>exact⟨0,0,[],by omega,by omega,rfl,rfl,rfl,by show ∀x∈_,_;simp,by show _=_;simp[val],World.ownsRow_nil _ _ _ _,Below.refl _ _,by rw[HB.out];exact Nat.le_refl _⟩
 case round=>
  obtain⟨k,c,os,hk,hc,rfl,rfl,ho,hod,hv,hown,hbw,hBs⟩:=hrel;by_cases hlt:k<len
  ·have hr1:Rd wr A (I xs):=R1.out.keep (by rw[<-HB.out];have:=hbw.size;omega) (fun p hp=>hbw.cell (by rw[HB.out];exact hp));obtain⟨b1,o1,rfl,_,hcx⟩:=hr1.i (k:=k) (by rw[E1.out];exact hlt);clear hr1;have x0:xs.getD k 0<16777216:=aT (by omega) C1.out.lt k;have HS:=zH (SC (2 ^ 24) k t xs os c ho.out hv.out);generalize xs.getD k 0=x at*;have M:=O5 x t c x0 ht hc;have M1:(0:Int)<=(x:Int)*t:=by rw[<-Int.natCast_mul];omega
   have M2:(x:Int)*t+c<281474976710656:=by rw[<-Int.natCast_mul];omega
   have hq:(x*t+c) / 2 ^ 24<16777216:=by rw[Nat.div_lt_iff_lt_mul (by omega)];omega
   go_wp2_with (at_builtin;go_must (refine bP wr #[.int .i64 (((x:Int)*t+c) % 16777216)] rfl _ _ 108 rfl B 3 (.int .i64 0) 1 8 1 Tryz.underlying108 gQ rfl (by decide) u5 k (I os) (by rfl) hown.out (by rfl) ?_ ?_ ?_ ?_ ?_ ?_))
   any_goals first|rfl|(unfold maxLen;omega)|omega
   intro v' w' hown' hb';have HOWN:=zH hown';clear hown';go_wp2
   go_roundw
   case rel=>
    refine⟨k+1,(x*t+c) / 2 ^ 24,os++[(x*t+c) % 2 ^ 24],by omega,hq,by go_num,?_,by show _=_;simp[ho.out],fV hod.out (Nat.mod_lt _ (by omega)),HS.out,?_,hbw.trans hb',Nat.le_trans hBs hb'.size⟩
    ·simp
    ·show World.ownsRow _ _ _ _ _ _ _;have h1:=HOWN.out;rw[jJ]
     have e1:I [(x*t+c) % 2 ^ 24]=[.int .i64 (((x:Int)*t+c) % 16777216)]:=by
      show [Value.int .i64 _]=[Value.int .i64 _]
      simp
     rw[e1];exact h1
   case measure=>simp[intOf]<;>omega
  ·obtain rfl:k=len:=by omega
   go_wp2_with (at_builtin;go_must (refine bP wr #[.int .i64 (c:Int)] rfl _ _ 108 rfl B 3 (.int .i64 0) 1 8 1 Tryz.underlying108 gQ rfl (by decide) u5 k (I os) (by rfl) hown.out (by rfl) ?_ ?_ ?_ ?_ ?_ ?_))
   any_goals first|rfl|(unfold maxLen;omega)|omega
   intro v' w' hown' hb';obtain⟨A',cap',rfl,h1,h2,h3,h4⟩:=bY hown';rw[show I os++(#[Value.int .i64 (c:Int)]:Array Value).toList=I (os++[c]) from by rw[jJ];rfl] at h3;have H3:=zH h3;clear h3 h4 hown' hown;go_wp2_with fail;refine (BD _ _ _ (os++[c]) _ (by simp[ho.out]) h1 (Nat.le_trans h1 h2) H3.out).mono ?_;rintro e w3 ⟨rfl,rfl⟩;go_wp2;go_ret;have hh:=iZ.kE (by simp[ho.out]) h1 h2 H3.out (fV hod.out (by omega));rw[fQ,ho.out,Nat.mul_comm _ c,hv.out,List.take_of_length_le (by rw[E1.out];omega),V1.out] at hh;exact⟨_,_,_,rfl,hh,by rw[<-HB.out];exact hbw.trans hb'⟩
theorem SG (A A':Option Addr) (len cap len' cap' n m:Nat) (w:World) (h1:iZ w A len cap n) (h2:iZ w A' len' cap' m) (hl:len<=715827884) (hmn:m<=n):
  Calls Tryz.prog 223 #[.slice A len cap,.slice A' len' cap'] w (yM w (n-m)):=by
 obtain⟨_,_,xs,e1,r1,k1,v1⟩:=h1;obtain⟨_,_,ys,e2,r2,k2,v2⟩:=h2
 have hll:len'<=len:=by
  rcases Nat.lt_or_ge len len' with h|h
  ·have:=k1.wB (by omega) k2 (by omega);omega
  ·exact h
 have E1:=zH e1;have E2:=zH e2;have V1:=zH v1;have V2:=zH v2;have C1:=zH k1;have C2:=zH k2;have R1:=zH r1;have R2:=zH r2;clear e1 e2 v1 v2 k1 k2 r1 r2;obtain⟨B,hB⟩:=zE w.heap.size;have HB:=zH hB;clear hB;go_enter Tryz.func223,Tryz.ntmps223;go_wp2_with fail
 go_loopw [7,6,5] (fun kv cv ov wr=>∃(k c:Nat) (os:List Nat),k<=len/\c<=1/\kv=.int .i64 k/\cv=.int .i64 c/\Hid (os.length=k)/\Hid (∀x∈os,x<2 ^ 24)/\
   Hid (val (2 ^ 24) (xs.take k)+c*(2 ^ 24) ^ k=val (2 ^ 24) os+val (2 ^ 24) (ys.take k))/\Hid (wr.ownsRow B 3 1 ov k (I os))/\Below B w wr/\B<=wr.heap.size) (fun kv _ _ _=>len-(intOf kv).toNat)
 case atStart=>exact⟨0,0,[],by omega,by omega,rfl,rfl,rfl,by show ∀x∈_,_;simp,by show _=_;simp[val],World.ownsRow_nil _ _ _ _,Below.refl _ _,by rw[HB.out];exact Nat.le_refl _⟩
 case round=>
  obtain⟨k,c,os,hk,hc,rfl,rfl,ho,hod,hv,hown,hbw,hBs⟩:=hrel;by_cases hlt:k<len
  ·have hr1:Rd wr A (I xs):=R1.out.keep (by rw[<-HB.out];have:=hbw.size;omega) (fun p hp=>hbw.cell (by rw[HB.out];exact hp));have hr2:Rd wr A' (I ys):=R2.out.keep (by rw[<-HB.out];have:=hbw.size;omega) (fun p hp=>hbw.cell (by rw[HB.out];exact hp));obtain⟨b1,o1,rfl,_,hcx⟩:=hr1.i (k:=k) (by rw[E1.out];exact hlt);have x0:xs.getD k 0<16777216:=aT (by omega) C1.out.lt k;have y0:ys.getD k 0<16777216:=aT (by omega) C2.out.lt k;have hy':len'<=k->ys.getD k 0=0:=fun h=>by rw[List.getD_eq_getElem?_getD,List.getElem?_eq_none (by rw[E2.out];omega)];rfl
   have HS:=zH (fun z c' e=>VK (2 ^ 24) k xs ys os c z c' ho.out hv.out e);by_cases hk2:k<len'
   ·obtain⟨b2,o2,rfl,_,hcy⟩:=hr2.i (k:=k) (by rw[E2.out];exact hk2);clear hr1 hr2 hy';generalize xs.getD k 0=x at*;generalize ys.getD k 0=y at*;by_cases hd:c+y<=x
    ·go_wp2_with (at_builtin;go_must (refine bP wr #[.int .i64 ((x:Int)-c-y)] rfl _ _ 108 rfl B 3 (.int .i64 0) 1 8 1 Tryz.underlying108 gQ rfl (by decide) u5 k (I os) (by rfl) hown.out (by rfl) ?_ ?_ ?_ ?_ ?_ ?_))
     any_goals first|rfl|(unfold maxLen;omega)|omega
     intro v' w' hown' hb';have HOWN:=zH hown';clear hown';go_wp2
     go_roundw
     case rel=>
      refine⟨k+1,0,os++[x-c-y],by omega,by omega,by go_num,by first|rfl|go_num,by show _=_;simp[ho.out],fV hod.out (by omega),HS.out _ _ (by omega),?_,hbw.trans hb',Nat.le_trans hBs hb'.size⟩;show World.ownsRow _ _ _ _ _ _ _;have h1:=HOWN.out;rw[jJ]
      have e1:I [x-c-y]=[.int .i64 ((x:Int)-c-y)]:=by
       show [Value.int .i64 _]=[Value.int .i64 _]
       congr 2<;>omega
      rw[e1];exact h1
     case measure=>simp[intOf]<;>omega
    ·go_wp2_with (at_builtin;go_must (refine bP wr #[.int .i64 ((x:Int)-c-y+16777216)] rfl _ _ 108 rfl B 3 (.int .i64 0) 1 8 1 Tryz.underlying108 gQ rfl (by decide) u5 k (I os) (by rfl) hown.out (by rfl) ?_ ?_ ?_ ?_ ?_ ?_))
     any_goals first|rfl|(unfold maxLen;omega)|omega
     intro v' w' hown' hb';have HOWN:=zH hown';clear hown';go_wp2
     go_roundw
     case rel=>
      refine⟨k+1,1,os++[x+16777216-c-y],by omega,by omega,by go_num,by first|rfl|go_num,by show _=_;simp[ho.out],fV hod.out (by omega),HS.out _ _ (by omega),?_,hbw.trans hb',Nat.le_trans hBs hb'.size⟩;show World.ownsRow _ _ _ _ _ _ _;have h1:=HOWN.out;rw[jJ]
      have e1:I [x+16777216-c-y]=[.int .i64 ((x:Int)-c-y+16777216)]:=by
       show [Value.int .i64 _]=[Value.int .i64 _]
       congr 2<;>omega
      rw[e1];exact h1
     case measure=>simp[intOf]<;>omega
   ·have hy0:=hy' (by omega);rw[hy0] at HS;clear hr1 hr2 hy' hy0 y0;generalize xs.getD k 0=x at*;by_cases hd:c<=x
    ·go_wp2_with (at_builtin;go_must (refine bP wr #[.int .i64 ((x:Int)-c)] rfl _ _ 108 rfl B 3 (.int .i64 0) 1 8 1 Tryz.underlying108 gQ rfl (by decide) u5 k (I os) (by rfl) hown.out (by rfl) ?_ ?_ ?_ ?_ ?_ ?_))
     any_goals first|rfl|(unfold maxLen;omega)|omega
     intro v' w' hown' hb';have HOWN:=zH hown';clear hown';go_wp2
     go_roundw
     case rel=>
      refine⟨k+1,0,os++[x-c],by omega,by omega,by go_num,by first|rfl|go_num,by show _=_;simp[ho.out],fV hod.out (by omega),HS.out _ _ (by omega),?_,hbw.trans hb',Nat.le_trans hBs hb'.size⟩;show World.ownsRow _ _ _ _ _ _ _;have h1:=HOWN.out;rw[jJ]
      have e1:I [x-c]=[.int .i64 ((x:Int)-c)]:=by
       show [Value.int .i64 _]=[Value.int .i64 _]
       congr 2<;>omega
      rw[e1];exact h1
     case measure=>simp[intOf]<;>omega
    ·go_wp2_with (at_builtin;go_must (refine bP wr #[.int .i64 ((x:Int)-c+16777216)] rfl _ _ 108 rfl B 3 (.int .i64 0) 1 8 1 Tryz.underlying108 gQ rfl (by decide) u5 k (I os) (by rfl) hown.out (by rfl) ?_ ?_ ?_ ?_ ?_ ?_))
     any_goals first|rfl|(unfold maxLen;omega)|omega
     intro v' w' hown' hb';have HOWN:=zH hown';clear hown';go_wp2
     go_roundw
     case rel=>
      refine⟨k+1,1,os++[x+16777216-c],by omega,by omega,by go_num,by first|rfl|go_num,by show _=_;simp[ho.out],fV hod.out (by omega),HS.out _ _ (by omega),?_,hbw.trans hb',Nat.le_trans hBs hb'.size⟩;show World.ownsRow _ _ _ _ _ _ _;have h1:=HOWN.out;rw[jJ]
      have e1:I [x+16777216-c]=[.int .i64 ((x:Int)-c+16777216)]:=by
       show [Value.int .i64 _]=[Value.int .i64 _]
       congr 2<;>omega
      rw[e1];exact h1
     case measure=>simp[intOf]<;>omega
  ·obtain rfl:k=len:=by omega
   obtain⟨A',cap',rfl,h1,h2,h3,h4⟩:=bY hown.out;have H3:=zH h3;clear h3 h4 hown;go_wp2_with fail;refine (BD _ _ _ os _ ho.out h1 (Nat.le_trans h1 h2) H3.out).mono ?_;rintro e w3 ⟨rfl,rfl⟩;go_wp2;go_ret;have hh:=iZ.kE ho.out h1 h2 H3.out hod.out;have h5:=hv.out;have h6:=gZ (2 ^ 24) os hod.out;rw[List.take_of_length_le (by rw[E1.out];omega),List.take_of_length_le (by rw[E2.out];omega),V1.out,V2.out] at h5;rw[ho.out] at h6
   have h7:val (2 ^ 24) os=n-m:=by
    rcases Nat.le_one_iff_eq_zero_or_eq_one.1 hc with rfl|rfl
    ·rw[Nat.zero_mul] at h5;omega
    ·rw[Nat.one_mul] at h5;omega
   rw[h7] at hh;exact⟨_,_,_,rfl,hh,by rw[<-HB.out];exact hbw⟩
theorem SH (A A':Option Addr) (len cap len' cap' n m:Nat) (w:World) (h1:iZ w A len cap n) (h2:iZ w A' len' cap' m) (hl:len'<=715827884) (h0:n<m*16777216):
  Calls Tryz.prog 222 #[.slice A len cap,.slice A' len' cap'] w fun e w'=>e=.returned (.int .i64 ((n / m:Nat):Int))/\n / m<16777216/\Below w.heap.size w w':=by
 have H1:=zH h1;have H2:=zH h2;clear h1 h2;have hdm:n / m<16777216:=Nat.div_lt_of_lt_mul h0;go_enter Tryz.func222,Tryz.ntmps222;go_wp2_with fail
 go_loopw [5,6] (fun lv hv wr=>∃lo hi:Nat,lo<=hi/\hi<=16777215/\lv=.int .i64 lo/\hv=.int .i64 hi/\Hid (m*lo<=n/\n<m*(hi+1))/\Below w.heap.size w wr) (fun lv hv _=>(intOf hv).toNat-(intOf lv).toNat)
 case atStart=>exact⟨0,16777215,by omega,by omega,rfl,rfl,⟨by omega,h0⟩,Below.refl _ _⟩
 case round=>
  obtain⟨lo,hi,hlh,hhi,rfl,rfl,hb,hbw⟩:=hrel;by_cases hlt:lo<hi
  ·go_wp2_with fail;refine (Gt A' len' cap' m ((lo+hi+1) / 2) _ wr (by omega) (H2.out.below hbw) hl (by omega)).mono ?_;rintro e w1 ⟨A1,l1,c1,rfl,g1,hb1⟩;have G1:=zH g1;clear g1;go_wp2_with fail;refine (LU _ _ _ _ _ _ _ _ _ G1.out ((H1.out.below hbw).below hb1)).mono ?_;rintro e w2 ⟨z,rfl,z1,z2,hb2⟩;have mM:=ah hb1 hb2;have hb3:Below w.heap.size w w2:=hbw.trans (mM.mono hbw.size);obtain⟨mid,hmid⟩:∃q,(lo+hi+1) / 2=q:=⟨_,rfl⟩
   have hmi:((lo:Int)+hi+1) / 2=mid:=by omega
   have hm1:lo<mid:=by omega
   have hm2:mid<=hi:=by omega
   rw[hmid] at z1 z2;have Z1:=zH z1;have Z2:=zH z2;clear z1 z2;by_cases hz:z<=0
   ·go_wp2
    go_roundw
    case rel=>
     refine⟨mid,hi,hm2,hhi,by first|rfl|(congr 1<;>omega),rfl,⟨?_,hb.out.2⟩,hb3⟩;rcases Int.lt_or_eq_of_le hz with h|h
     ·exact Nat.le_of_lt (Z1.out.1 h)
     ·exact Nat.le_of_eq (Z2.out.1 h)
    case measure=>simp[intOf]<;>omega
   ·go_wp2
    go_roundw
    case rel=>
     refine⟨lo,mid-1,by omega,by omega,rfl,by first|rfl|(congr 1<;>omega),⟨hb.out.1,?_⟩,hb3⟩;rw[show mid-1+1=mid from by omega];rcases Nat.lt_trichotomy (m*mid) n with h|h|h
     ·have:=Z1.out.2 h;omega
     ·have:=Z2.out.2 h;omega
     ·exact h
    case measure=>simp[intOf]<;>omega
  ·obtain rfl:lo=hi:=by omega
   go_wp2;go_ret
   have hq:n / m=lo:=by
    rcases Nat.eq_zero_or_pos m with h|h
    ·subst h;omega
    ·exact Nat.div_eq_of_lt_le (by rw[Nat.mul_comm];exact hb.out.1) (by rw[Nat.mul_comm];exact hb.out.2)
   rw[hq];exact⟨rfl,by omega,hbw⟩
theorem SI (xs:List Nat) (k y:Nat):(I xs).set k (.int .i64 (y:Int))=I (xs.set k y):=by simp[I,List.map_set]
theorem zO (a b:ByteArray) (w:World) (ha:a.size<=1073741824) (hb:b.size<=1073741824):
  Calls Tryz.prog 140 #[.string a,.string b] w fun e w'=>e=.returned (.string (aC (ay a*ay b)))/\Below w.heap.size w w':=by
 have wH:=zH (lF a 3 w (by omega) (by omega) 3 rfl);have ny:=zH (lF b 4 w (by omega) (by omega) 4 rfl);by_cases hsm:ay a<256 ^ 3/\ay b<256 ^ 4
 ·obtain⟨h1,h2⟩:=hsm;have d1:decide (ay a<256 ^ 3)=true:=by simpa using h1
  have d2:decide (ay b<256 ^ 4)=true:=by simpa using h2
  rw[d1] at wH;rw[d2] at ny;have h1':ay a<16777216:=h1;have h2':ay b<4294967296:=h2;clear d1 d2 h1 h2;generalize ay a=n at*;generalize ay b=m at*;have M:=Nat.mul_le_mul (show n<=16777215 by omega) (show m<=4294967295 by omega);have M1:(0:Int)<=(n:Int)*m:=by rw[<-Int.natCast_mul];omega
  have M2:(n:Int)*m<=72057589726183425:=by rw[<-Int.natCast_mul];omega
  go_enter Tryz.func140,Tryz.ntmps140;go_wp2_with fail;refine wH.out.mono ?_;rintro e w' ⟨rfl,rfl⟩;go_wp2_with fail;refine ny.out.mono ?_;rintro e w' ⟨rfl,rfl⟩;go_wp2_with fail;refine (qF _ _ (by omega) (by omega)).mono ?_;rintro e w1 ⟨rfl,hb1⟩;go_wp2;go_ret;refine⟨?_,hb1⟩;rw[show ((n:Int)*m).toNat=n*m from by rw[<-Int.natCast_mul];rfl];rfl
 ·obtain⟨B,hB⟩:=zE w.heap.size;have HB:=zH hB;have hBw:B<=w.heap.size:=by omega
  have hnot:¬(decide (ay a<256 ^ 3)=true/\decide (ay b<256 ^ 4)=true):=by simpa using hsm
  obtain⟨da,hda⟩:∃d,decide (ay a<256 ^ 3)=d:=⟨_,rfl⟩
  obtain⟨db,hdb⟩:∃d,decide (ay b<256 ^ 4)=d:=⟨_,rfl⟩
  rw[hda] at wH hnot;rw[hdb] at ny hnot;have hcase:(da=false/\db=false)∨(da=false/\db=true)∨(da=true/\db=false):=by cases da<;>cases db<;>simp_all
  clear hB hsm hda hdb hnot;rcases hcase with⟨rfl,rfl⟩|⟨rfl,rfl⟩|⟨rfl,rfl⟩
  all_goals
   go_enter Tryz.func140,Tryz.ntmps140;go_wp2_with fail;refine wH.out.mono ?_;rintro e w' ⟨rfl,rfl⟩;go_wp2_with fail;refine ny.out.mono ?_;rintro e w' ⟨rfl,rfl⟩;go_wp2_with fail;refine (vZ a _ ha).mono ?_;rintro e w1 ⟨A,len,c1,rfl,h1,hb1⟩;have hl1:=h1.ig (fF a);have H1:=zH h1;clear h1;go_wp2_with fail;refine (vZ b _ hb).mono ?_;rintro e w2 ⟨A',len',c2,rfl,h2,hb2⟩;have hl2:=h2.ig (fF b);obtain⟨_,_,xs,e1,r1,k1,v1⟩:=H1.out.below hb2;obtain⟨_,_,ys,e2,r2,k2,v2⟩:=h2;have mM:=ah hb1 hb2;rw[<-HB.out] at mM;have hB2:B<=w2.heap.size:=Nat.le_trans hBw mM.size;have E1:=zH e1;have E2:=zH e2;have V1:=zH v1;have V2:=zH v2;have C1:=zH k1;have C2:=zH k2;have R1:=zH r1;have R2:=zH r2;clear e1 e2 v1 v2 k1 k2 r1 r2 hb1 hb2;go_wp2_with (at_make;refine dO _ rfl _ _ 108 rfl 3 (.int .i64 0) 8 Tryz.underlying108 gQ rfl _ _ _ _ (len+len') rfl rfl ?_ ?_ (by omega) (by omega) ?_)
   ·omega
   ·omega
   intro w3 hblk hb3;obtain⟨G,HG⟩:∃G,Hid (G=w2.heap.size):=⟨_,rfl⟩
   rw[<-HG.out] at hblk hb3⊢;have HK:=zH hblk;clear hblk;go_wp2_with fail
   go_loopw [12] (fun iv wr=>∃(i:Nat) (out:List Nat),i<=len/\iv=.int .i64 i/\Hid (out.length=len+len')/\aj wr G 3 (I out)/\Hid (∀x∈out,x<2 ^ 24)/\Hid (∀p,i+len'<=p->out.getD p 0=0)/\
     Hid (val (2 ^ 24) out=val (2 ^ 24) (xs.take i)*val (2 ^ 24) ys)/\Below G w2 wr) (fun i _=>len-(intOf i).toNat)
   case atStart=>
    refine⟨0,List.replicate (len+len') 0,by omega,rfl,List.length_replicate ..,by have:=HK.out;simpa [I] using this,?_,?_,?_,hb3⟩
    ·show ∀x∈_,_;intro x hx;rw[(List.mem_replicate.1 hx).2];omega
    ·show ∀p,_->_;intro p _;simp[List.getD_eq_getElem?_getD,List.getElem?_replicate];split<;>rfl
    ·show _=_;simp[val,uy]
   case round=>
    obtain⟨i,out,hi,rfl,ho,hbk,hod,wF,hv,hbw⟩:=hrel;by_cases hlt:i<len
    ·have hr1:Rd wr A (I xs):=R1.out.below (by rw[<-HG.out];exact hbw);obtain⟨b,off,rfl,hbb,hcell⟩:=hr1.i (k:=i) (by rw[E1.out];omega);have x0:xs.getD i 0<16777216:=aT (by omega) C1.out.lt i;obtain⟨x,HX⟩:∃x,Hid (xs.getD i 0=x):=⟨_,rfl⟩
     clear hcell;rw[HX.out] at x0;obtain⟨wo,rfl⟩:∃wo:World,wo=wr:=⟨_,rfl⟩
     have HO:=zH (And.intro hbk hbw);have wF:=wF;clear hbk hr1;go_wp2_with fail
     go_loopw [14,13] (fun jv cv wr=>∃(j c:Nat) (out:List Nat),j<=len'/\jv=.int .i64 j/\cv=.int .i64 c/\c<16777216/\Hid (out.length=len+len')/\aj wr G 3 (I out)/\Hid (∀x∈out,x<2 ^ 24)/\Hid (∀p,i+len'<=p->out.getD p 0=0)/\
      Hid (val (2 ^ 24) out+c*(2 ^ 24) ^ (i+j)=val (2 ^ 24) (xs.take i)*val (2 ^ 24) ys+xs.getD i 0*val (2 ^ 24) (ys.take j)*(2 ^ 24) ^ i)/\Below G w2 wr) (fun j _ _=>len'-(intOf j).toNat)
     case atStart=>exact⟨0,0,out,by omega,rfl,rfl,by omega,ho,HO.out.1,hod,wF,by show _=_;rw[hv.out];simp[val],HO.out.2⟩
     case round=>
      obtain⟨j,c,out,hj,rfl,rfl,hc,ho,hbk,hod,wF,hv,hbw⟩:=hrel;by_cases hlt2:j<len'
      ·have hr1:=R1.out.below (w':=wr) (by rw[<-HG.out];exact hbw)
       have hcell:wr.cell? ⟨b,off+i,none⟩=some (.int .i64 (x:Int)):=by
        obtain⟨b3,o3,h3,_,hc3⟩:=hr1.i (k:=i) (by rw[E1.out];omega);injection h3 with h3;injection h3 with h3 h4;subst h3 h4;rw[HX.out] at hc3;exact hc3
       have hr2:Rd wr A' (I ys):=R2.out.below (by rw[<-HG.out];exact hbw);obtain⟨b',off',rfl,YS,hcell'⟩:=hr2.i (k:=j) (by rw[E2.out];omega);clear hr1 hr2;have y0:ys.getD j 0<16777216:=aT (by omega) C2.out.lt j;have o0:out.getD (i+j) 0<16777216:=aT (by omega) hod.out (i+j);have BG:=hbk.cell (i:=i+j) (by rw[iY,ho.out];omega);rw[KT] at BG;have HS:=zH (FX (2 ^ 24) i j xs ys out c (by omega) (by rw[ho.out];omega) hv.out);rw[HX.out] at HS;generalize ys.getD j 0=y at*;generalize out.getD (i+j) 0=o at*;have M:=Nat.mul_le_mul (show x<=16777215 by omega) (show y<=16777215 by omega);have M1:(0:Int)<=(x:Int)*y:=by rw[<-Int.natCast_mul];omega
       have M2:(x:Int)*y<=281474943156225:=by rw[<-Int.natCast_mul];omega
       have hfz:=hbk.frozen (i+j);have hq:(x*y+o+c) / 2 ^ 24<16777216:=by rw[Nat.div_lt_iff_lt_mul (by omega)];omega
       have hbk':=hbk.drewN 1;go_wp2_with fail;go_quiet (fail);go_wp2
       go_roundw
       case rel=>
        refine⟨j+1,(x*y+o+c) / 2 ^ 24,out.set (i+j) ((x*y+o+c) % 2 ^ 24),by omega,by go_num,?_,hq,by show _=_;rw[List.length_set,ho.out],?_,uz hod.out (Nat.mod_lt _ (by omega)) _,?_,by show _=_;rw[HX.out];exact HS.out,?_⟩
        ·simp[Int.add_comm]<;>omega
        ·rw[<-SI];have e:Value.int .i64 (((x*y+o+c) % 2 ^ 24:Nat):Int)=.int .i64 (((o:Int)+x*y+c) % 16777216):=by simp[Int.add_comm]
         rw[e];exact (hbk.drewN _).set _ _
        ·show ∀p,_->_;intro p hp;rw[getD_set_ne _ _ _ _ (by omega)];exact wF.out p hp
        ·exact (below_drewN hbw _).setCell (Nat.le_refl _) _
       case measure=>simp[intOf]<;>omega
      ·obtain rfl:j=len':=by omega
       have BG:=hbk.cell (i:=i+j) (by rw[iY,ho.out];omega);have hfz:=hbk.frozen (i+j);have HS:=zH (FY (2 ^ 24) i xs ys out c (by rw[ho.out,E2.out];omega) (wF.out _ (by rw[E2.out];omega)) (by rw[E2.out];exact hv.out));rw[E2.out] at HS;go_wp2
       go_roundw
       case rel=>
        refine⟨i+1,out.set (i+j) c,by omega,by go_num,by show _=_;rw[List.length_set,ho.out],?_,uz hod.out (by omega) _,?_,HS.out,hbw.setCell (Nat.le_refl _) _⟩
        ·rw[<-SI];exact hbk.set _ _
        ·show ∀p,_->_;intro p hp;rw[getD_set_ne _ _ _ _ (by omega)];exact wF.out p (by omega)
       case measure=>simp[intOf]<;>omega
    ·obtain rfl:i=len:=by omega
     have HK:=zH hbk;clear hbk;go_wp2_with fail;refine (tY _ _ _ _ _ ho.out (Nat.le_refl _) (by omega) HK.out.rd hod.out).mono ?_;rintro e w4 ⟨rfl,hb4⟩;go_wp2;go_ret;refine⟨?_,?_⟩
     ·rw[hv.out,List.take_of_length_le (by rw[E1.out];omega),V1.out,V2.out];rfl
     ·have h5:Below B w wr:=mM.trans (hbw.mono (by rw[HG.out];exact hB2));have h6:=h5.trans (hb4.mono (Nat.le_trans hBw h5.size));rw[<-HB.out];exact h6
end Go.Proofs.YtimokmplkpbmdaaGreatDoor
