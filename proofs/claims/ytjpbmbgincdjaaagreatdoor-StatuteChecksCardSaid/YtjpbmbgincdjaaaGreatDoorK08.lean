/- Part: R5 R6 R7 R8. -/
import Derived.Test.YtjpbmbgincdjaaaGreatDoorK06
import Derived.Test.YtjpbmbgincdjaaaGreatDoorK07
set_option linter.all false
set_option maxRecDepth 100000
set_option maxHeartbeats 0
namespace Go.Proofs.YtjpbmbgincdjaaaGreatDoor
open Go.RowKit List World Tryz
theorem lT (a:ByteArray) (K:Nat) (w:World) (ha:a.size<=1099511627776) (hK:K<=7) (ki:Int) (hki:ki=K):
  Calls prog 103 #[.string a,.int .i64 ki] w (Xl (ak a) (decide (ak a<256 ^ K)) w):=by
 subst hki;have hbig:=DN (ak a) K;have xJ:=aY (ak a) K;have HC:=zH (fO a w ha);have HI:=zH (MI a w ha)
 have h64:ak a<256 ^ K->decide (ak a<9223372036854775808)=true:=by
  intro h;have:=Nat.pow_le_pow_right (n:=256) (by omega) hK;rw[decide_eq_true_eq];omega
 generalize aC (ak a)=t at*;by_cases h:ak a<256 ^ K
 ·have hs:=xJ h;have afn:=h64 h;have hd:decide (ak a<256 ^ K)=true:=by simpa using h
  rw[hd];rw[afn] at HI;clear hbig xJ h64 h afn hd;go_enter func103,ntmps103;go_wp2_with fail;refine HC.mono ?_;rintro e w' ⟨rfl,rfl⟩;go_wp2_with fail;refine HI.mono ?_;rintro e w' ⟨rfl,rfl⟩;go_wp2;go_ret2;exact⟨rfl,rfl⟩
 ·have hs:=hbig (by omega);have hd:decide (ak a<256 ^ K)=false:=by simpa using h
  rw[hd];clear hbig xJ h64 h hd HI;go_enter func103,ntmps103;go_wp2_with fail;refine HC.mono ?_;rintro e w' ⟨rfl,rfl⟩;go_wp2;go_ret2;exact⟨rfl,rfl⟩
theorem AU (l m:List UInt8) (h:l.length=m.length):Op.bytesLess l m=decide (vb l<vb m):=by
 induction l generalizing m with
 |nil=>
  obtain rfl:m=[]:=eq_nil_of_length_eq_zero (by simpa using h.symm);simp[Op.bytesLess]
 |cons a x ih=>
  cases m with
  |nil=>simp at h
  |cons b y=>
   have hl:x.length=y.length:=by simpa using h
   have h1:=qN x;have h2:=qN y;rw[Op.bytesLess,ih y hl,vb,vb,hl];rw[hl] at h1;rw[Bool.eq_iff_iff];simp only[Bool.or_eq_true,Bool.and_eq_true,decide_eq_true_eq,beq_iff_eq,UInt8.lt_iff_toNat_lt]
   constructor
   ·rintro (h3|⟨rfl,h3⟩)
    ·have:=Nat.mul_le_mul_right (256 ^ y.length) (show a.toNat+1<=b.toNat from h3);rw[Nat.add_mul] at this;omega
    ·omega
   ·intro h3;rcases Nat.lt_trichotomy a.toNat b.toNat with h4|h4|h4
    ·exact .inl h4
    ·exact .inr ⟨UInt8.toNat_inj.1 h4,by rw[h4] at h3;omega⟩
    ·have:=Nat.mul_le_mul_right (256 ^ y.length) (show b.toNat+1<=a.toNat from h4);rw[Nat.add_mul] at this;omega
theorem JA (n m:Nat) (h:(nb n).length<(nb m).length):n<m:=by
 have h1:=qN (nb n);rw[qO] at h1;have h3:nb m≠[]:=by intro e;rw[e] at h;simp at h
 obtain⟨c,l,hcl⟩:=exists_cons_of_ne_nil h3;have h4:=qo m h3;have h5:=FI c l (by simpa [hcl] using h4);rw[<-hcl,qO] at h5;rw[hcl] at h;have:=Nat.pow_le_pow_right (n:=256) (by omega) (show (nb n).length<=l.length by simp at h;omega);omega
theorem yR (n:Nat):(aC n).toList=nb n:=by rw[ByteArray.toList_eq];rfl
theorem vU (a b:ByteArray) (w:World) (ha:a.size<=1099511627776) (hb:b.size<=1099511627776):
  Calls prog 167 #[.string a,.string b] w fun e w'=>e=.returned (.int .i64 (fD (ak a) (ak b)))/\w=w':=by
 have HA:=zH (fO a w ha);have HB:=zH (fO b w hb);generalize ak a=n at*;generalize ak b=m at*;have hs:∀x,(aC x).size=(nb x).length:=fun _=>rfl
 have hn:=hs n;have hm:=hs m;clear hs;rcases Nat.lt_trichotomy (nb n).length (nb m).length with h|h|h
 ·have H:=zH (JA n m h);have h1:(aC n).size<(aC m).size:=by omega
  generalize aC n=s at*;generalize aC m=t at*;clear h hn hm;go_enter func167,ntmps167;go_wp2_with fail;refine HA.mono ?_;rintro e w' ⟨rfl,rfl⟩;go_wp2_with fail;refine HB.mono ?_;rintro e w' ⟨rfl,rfl⟩;go_wp2;go_ret;exact⟨by rw[xZ H.out];rfl,rfl⟩
 ·have h1:(aC n).size=(aC m).size:=by omega
  have hl1:=AU (nb n) (nb m) h;have hl2:=AU (nb m) (nb n) h.symm;rw[qO,qO] at hl1 hl2
  have he:(nb n==nb m)=decide (n=m):=by
   rw[Bool.eq_iff_iff];simp only[beq_iff_eq,decide_eq_true_eq]
   constructor
   ·intro h;have:=congrArg vb h;rwa[qO,qO] at this
   ·rintro rfl;rfl
  rw[<-yR,<-yR] at hl1 he;have h1i:((aC n).size:Int)=(aC m).size:=by omega
  clear h hn hm hl2;obtain⟨S,hS⟩:=zF (aC n);obtain⟨T,hT⟩:=zF (aC m);rw[hS] at HA hl1 he h1 h1i;rw[hT] at HB hl1 he h1 h1i;clear hS hT;rcases Nat.lt_trichotomy n m with h2|h2|h2
  ·have k1:decide (n<m)=true:=by simpa using h2
   rw[k1] at hl1;have H:=zH h2;clear k1 he h2 h1;go_enter func167,ntmps167;go_wp2_with fail;refine HA.mono ?_;rintro e w' ⟨rfl,rfl⟩;go_wp2_with fail;refine HB.mono ?_;rintro e w' ⟨rfl,rfl⟩;go_wp2;go_ret;exact⟨by rw[xZ H.out];rfl,rfl⟩
  ·have k1:decide (n<m)=false:=by simp;omega
   have k2:decide (n=m)=true:=by simpa using h2
   rw[k1] at hl1;rw[k2] at he;have H:=zH h2;clear k1 k2 h2 h1;go_enter func167,ntmps167;go_wp2_with fail;refine HA.mono ?_;rintro e w' ⟨rfl,rfl⟩;go_wp2_with fail;refine HB.mono ?_;rintro e w' ⟨rfl,rfl⟩;go_wp2;go_ret;exact⟨by rw[H.out,Q7];rfl,rfl⟩
  ·have k1:decide (n<m)=false:=by simp;omega
   have k2:decide (n=m)=false:=by simp;omega
   rw[k1] at hl1;rw[k2] at he;have H:=zH h2;clear k1 k2 h2 h1;go_enter func167,ntmps167;go_wp2_with fail;refine HA.mono ?_;rintro e w' ⟨rfl,rfl⟩;go_wp2_with fail;refine HB.mono ?_;rintro e w' ⟨rfl,rfl⟩;go_wp2;go_ret;exact⟨by rw[CU H.out];rfl,rfl⟩
 ·have H:=zH (JA m n h);have h1:(aC m).size<(aC n).size:=by omega
  generalize aC n=s at*;generalize aC m=t at*;clear h hn hm;go_enter func167,ntmps167;go_wp2_with fail;refine HA.mono ?_;rintro e w' ⟨rfl,rfl⟩;go_wp2_with fail;refine HB.mono ?_;rintro e w' ⟨rfl,rfl⟩;go_wp2;go_ret;exact⟨by rw[CU H.out];rfl,rfl⟩
theorem Gh (s:ByteArray) (w:World):
  Calls prog 166 #[.string s] w fun e w'=>e=.returned (.bool (dM s))/\w=w':=by
 obtain⟨⟨l⟩⟩:=s;rcases l with _|⟨c,l⟩
 ·have h0:(⟨⟨[]⟩⟩:ByteArray).size=0:=rfl;go_enter func166,ntmps166;go_wp2;go_ret;exact⟨rfl,rfl⟩
 ·have e:dM ⟨⟨c::l⟩⟩=(c !=0):=rfl;have h0:(⟨⟨c::l⟩⟩:ByteArray).size=l.length+1:=rfl;rw[e];clear e;go_enter func166,ntmps166;go_wp2;go_ret;refine⟨?_,rfl⟩;show Ending.returned (.bool ((c.toNat:Int) !=0))=_;congr 2;rw[Bool.eq_iff_iff];simp only[bne_iff_ne,ne_eq]
  rw[<-UInt8.toNat_inj];simp
theorem UE (n:Nat) (h:0<n):gQ n=gQ (n / 2)+1:=by
 unfold gQ;rw[if_neg (by omega)];by_cases h1:n / 2=0
 ·rw[if_pos h1];obtain rfl:n=1:=by omega
  rfl
 ·rw[if_neg h1];have h0:n≠0:=by omega
  have e:n.log2=(n / 2).log2+1:=by
   rw[Nat.log2_def,if_pos (by omega)]
  rw[e]
theorem Xt (c r k:Nat) (hc:0<c) (hr:r<256 ^ k):gQ (c*256 ^ k+r)=8*k+gQ c:=by
 have h1:gQ c=c.log2+1:=by unfold gQ;rw[if_neg (by omega)]
 have h2:2 ^ c.log2<=c:=Nat.log2_self_le (by omega);have h3:c<2 ^ (c.log2+1):=Nat.lt_log2_self;have ep:(256:Nat) ^ k=2 ^ (8*k):=by rw[Nat.pow_mul]
 rw[ep] at hr⊢;rw[h1]
 have:=MQ (c*2 ^ (8*k)+r) (8*k+c.log2) (by
  rw[Nat.pow_add,Nat.mul_comm];have:=Nat.mul_le_mul_right (2 ^ (8*k)) h2;omega) (by
  rw[show 8*k+c.log2+1=8*k+(c.log2+1) from rfl,Nat.pow_add,Nat.mul_comm (2 ^ (8*k))];have:=Nat.mul_le_mul_right (2 ^ (8*k)) (show c+1<=2 ^ (c.log2+1) from h3);rw[Nat.add_mul] at this;omega)
 omega
theorem JB (a:ByteArray) (w:World) (ha:a.size<=1073741824):
  Calls prog 170 #[.string a] w fun e w'=>e=.returned (.int .i64 (gQ (ak a):Nat))/\w=w':=by
 have HC:=zH (fO a w (by omega));have hsz:(aC (ak a)).size<=a.size:=aY _ _ (fE a);by_cases h0:ak a=0
 ·have hs0:(aC 0).size=0:=rfl;rw[h0] at HC⊢;go_enter func170,ntmps170;go_wp2_with fail;refine HC.mono ?_;rintro e w' ⟨rfl,rfl⟩;go_wp2;go_ret;exact⟨rfl,rfl⟩
 ·have hne:=CW _ h0;obtain⟨c,l,hcl⟩:=exists_cons_of_ne_nil hne;have hc0:=qo _ hne;have hv:ak a=c.toNat*256 ^ l.length+vb l:=by rw[<-qO (ak a),hcl];rfl
  have hcn:0<c.toNat:=by
   rcases Nat.eq_zero_or_pos c.toNat with h|h
   ·exact absurd (UInt8.toNat_inj.1 h) (by simpa [hcl] using hc0)
   ·exact h
  have HB:=zH (Xt c.toNat (vb l) l.length hcn (qN l));rw[<-hv] at HB;have hc256:=c.toNat_lt;obtain⟨t,ht⟩:=zF (aC (ak a));have hts:t.size=l.length+1:=by rw[<-ht];show (nb (ak a)).length=_;rw[hcl];rfl
  have ht0:∀h:0<t.size,(t[0]'h).toNat=c.toNat:=by
   intro h
   have:t[0]'h=c:=by
    subst ht;show (nb (ak a)).toArray[0]'_=c;simp[hcl]
   rw[this]
  rw[ht] at HC hsz;obtain⟨d,hd⟩:=zF c.toNat;rw[hd] at HB hcn hc256 ht0;obtain⟨k,hk⟩:=zF l.length;rw[hk] at HB hts;have HT0:=zH (ht0 (by omega));have htd:((t[0]'(by omega)).toNat:Int)=(d:Int):=by rw[HT0.out]
  have aoM:(t.size:Int)=k+1:=by omega
  clear h0 hne hcl hc0 hv ht hd;go_enter func170,ntmps170;go_wp2_with fail;refine HC.mono ?_;rintro e w' ⟨rfl,rfl⟩;go_wp2_with fail
  go_loop [3,4] (fun nv dv=>∃(x y:Nat),nv=.int .i64 (x:Int)/\dv=.int .i64 (y:Int)/\y<=256/\x<=8*k+256/\Hid (x+gQ y=8*k+gQ d)/\x+y<=8*k+256) (fun _ dv=>(intOf dv).toNat)
  case atStart=>exact⟨8*k,d,by go_num,rfl,by omega,by omega,rfl,by omega⟩
  case round=>
   obtain⟨x,y,rfl,rfl,hy,hx,hb,hxy⟩:=hrel;by_cases hy0:0<y
   ·have HH:=zH (UE y hy0);go_wp2
    go_round
    case rel=>exact⟨x+1,y / 2,by go_num,by go_num,by omega,by omega,by show _=_;have h1:=hb.out;rw[HH.out] at h1;omega,by omega⟩
    case measure=>simp[intOf]<;>omega
   ·obtain rfl:y=0:=by omega
    go_wp2;go_ret;refine⟨?_,rfl⟩;have h1:=hb.out;rw[show gQ 0=0 from rfl,Nat.add_zero] at h1;rw[HB.out,<-h1];rfl
theorem MR (a b:ByteArray) (w:World) (ha:a.size<=1073741824) (hb:b.size<=1073741824):
  Calls prog 44 #[.string a,.string b] w fun e w'=>e=.returned (.string (aC (ak a+ak b)))/\Below w.heap.size w w':=by
 have vV:=zH (lT a 7 w (by omega) (by omega) 7 rfl);have nI:=zH (lT b 7 w (by omega) (by omega) 7 rfl);by_cases hsm:ak a<256 ^ 7/\ak b<256 ^ 7
 ·obtain⟨h1,h2⟩:=hsm;have d1:decide (ak a<256 ^ 7)=true:=by simpa using h1
  have d2:decide (ak b<256 ^ 7)=true:=by simpa using h2
  rw[d1] at vV;rw[d2] at nI;have h1':ak a<72057594037927936:=h1;have h2':ak b<72057594037927936:=h2;clear d1 d2 h1 h2;generalize ak a=n at*;generalize ak b=m at*;go_enter func44,ntmps44;go_wp2_with fail;refine vV.mono ?_;rintro e w' ⟨rfl,rfl⟩;go_wp2_with fail;refine nI.mono ?_;rintro e w' ⟨rfl,rfl⟩;go_wp2_with fail;refine (oU _ _ (by omega) (by omega)).mono ?_;rintro e w1 ⟨rfl,hb1⟩;go_wp2;go_ret;refine⟨?_,hb1⟩;rw[show ((n:Int)+m).toNat=n+m from by omega];rfl
 ·obtain⟨B,hB⟩:=zE w.heap.size;have HB:=zH hB;have hBw:B<=w.heap.size:=by omega
  have hnot:¬(decide (ak a<256 ^ 7)=true/\decide (ak b<256 ^ 7)=true):=by simpa using hsm
  obtain⟨da,hda⟩:∃d,decide (ak a<256 ^ 7)=d:=⟨_,rfl⟩
  obtain⟨db,hdb⟩:∃d,decide (ak b<256 ^ 7)=d:=⟨_,rfl⟩
  rw[hda] at vV hnot;rw[hdb] at nI hnot;have hcase:(da=false/\db=false)∨(da=false/\db=true)∨(da=true/\db=false):=by cases da<;>cases db<;>simp_all
  clear hB hsm hda hdb hnot;rcases hcase with⟨rfl,rfl⟩|⟨rfl,rfl⟩|⟨rfl,rfl⟩
  all_goals
   go_enter func44,ntmps44;go_wp2_with fail;refine vV.mono ?_;rintro e w' ⟨rfl,rfl⟩;go_wp2_with fail;refine nI.mono ?_;rintro e w' ⟨rfl,rfl⟩;go_wp2_with fail;refine (qH a _ ha).mono ?_;rintro e w1 ⟨A1,l1,c1,rfl,h1,hb1⟩;have hl1:=h1.gB (fE a);have H1:=zH h1;clear h1;go_wp2_with fail;refine (qH b _ hb).mono ?_;rintro e w2 ⟨A2,l2,c2,rfl,h2,hb2⟩;have hl2:=h2.gB (fE b);obtain⟨_,_,xs,e1,r1,k1,v1⟩:=H1.below hb2;obtain⟨_,_,ys,e2,r2,k2,v2⟩:=h2;have lM:=ah hb1 hb2;rw[<-HB.out] at lM;have hB2:B<=w2.heap.size:=Nat.le_trans hBw lM.size;have E1:=zH e1;have E2:=zH e2;have V1:=zH v1;have V2:=zH v2;have C1:=zH k1;have C2:=zH k2;have R1:=zH r1;have R2:=zH r2;clear e1 e2 v1 v2 k1 k2 r1 r2 hb1 hb2;obtain⟨W2,hW2⟩:=zE w2.heap.size;have HW2:=zH hW2;clear hW2;go_wp2_with fail
   go_loopw [13,12,11] (fun kv cv ov wr=>∃(k c:Nat) (os:List Nat),k<=715827884/\c<=1/\(c=0∨k<=l1∨k<=l2)/\kv=.int .i64 k/\cv=.int .i64 c/\Hid (os.length=k)/\Hid (∀x∈os,x<2 ^ 24)/\
     Hid (val (2 ^ 24) os+c*(2 ^ 24) ^ k=val (2 ^ 24) (xs.take k)+val (2 ^ 24) (ys.take k))/\Hid (wr.ownsRow W2 3 1 ov k (I os))/\Below W2 w2 wr/\W2<=wr.heap.size) (fun kv cv _ _=>(2*(l1+l2+2)-2*(intOf kv).toNat)+(intOf cv).toNat)
   case atStart=>exact⟨0,0,[],by omega,by omega,.inl rfl,rfl,rfl,rfl,by show ∀x∈_,_;simp,by show _=_;simp[val],ownsRow_nil _ _ _ _,Below.refl _ _,by rw[HW2.out];exact Nat.le_refl _⟩
   case round=>
    obtain⟨k,c,os,hk,hc,hck,rfl,rfl,ho,hod,hv,hown,hbw,hBs⟩:=hrel;have HS:=zH (LZ (2 ^ 24) k xs ys os c (by omega) ho hv);have x0:xs.getD k 0<16777216:=aP (by omega) C1.lt k;have y0:ys.getD k 0<16777216:=aP (by omega) C2.lt k;have hx':l1<=k->xs.getD k 0=0:=fun h=>by rw[getD_eq_getElem?_getD,getElem?_eq_none (by rw[E1.out];omega)];rfl
    have hy':l2<=k->ys.getD k 0=0:=fun h=>by rw[getD_eq_getElem?_getD,getElem?_eq_none (by rw[E2.out];omega)];rfl
    have hr1:Rd wr A1 (I xs):=R1.keep (by rw[<-HW2.out];have:=hbw.size;omega) (fun p hp=>hbw.cell (by rw[HW2.out];exact hp));have hr2:Rd wr A2 (I ys):=R2.keep (by rw[<-HW2.out];have:=hbw.size;omega) (fun p hp=>hbw.cell (by rw[HW2.out];exact hp));by_cases hk1:k<l1
    ·obtain⟨b1,o1,rfl,_,hcx⟩:=hr1.i (k:=k) (by rw[E1.out];exact hk1);by_cases hk2:k<l2
     ·obtain⟨b2,o2,rfl,_,hcy⟩:=hr2.i (k:=k) (by rw[E2.out];exact hk2);generalize xs.getD k 0=x at*;generalize ys.getD k 0=y at*;clear hr1 hr2;have hq:(x+c+y) / 2 ^ 24<=1:=by omega
      go_wp2_with (at_builtin;go_must (refine dW wr #[.int .i64 (((c:Int)+x+y) % 16777216)] rfl _ _ 106 rfl W2 3 (.int .i64 0) 1 8 1 underlying106 gZ rfl (by decide) u11 k (I os) (by rfl) hown (by rfl) ?_ ?_ ?_ ?_ ?_ ?_))
      any_goals first|rfl|(unfold maxLen;omega)|omega
      intro v' w' hown' hb';have HOWN:=zH hown';clear hown';go_wp2
      go_roundw
      case rel=>
       refine⟨k+1,(x+c+y) / 2 ^ 24,os++[(x+c+y) % 2 ^ 24],by omega,hq,by omega,by go_num,?_,by show _=_;simp[ho.out],gK hod (Nat.mod_lt _ (by omega)),HS,?_,hbw.trans hb',Nat.le_trans hBs hb'.size⟩
       ·congr 1<;>omega
       ·show World.ownsRow _ _ _ _ _ _ _;have h1:=HOWN.out;rw[jJ]
        have e1:I [(x+c+y) % 2 ^ 24]=[.int .i64 (((c:Int)+x+y) % 16777216)]:=by
         show [Value.int .i64 _]=[Value.int .i64 _]
         first|rfl|(congr 2<;>omega)
        rw[e1];exact h1
      case measure=>simp[intOf]<;>omega
     ·have hy0:=hy' (by omega);rw[hy0] at HS;clear hy' hy0 y0;generalize xs.getD k 0=x at*;clear hr1 hr2;have hq:(x+c+0) / 2 ^ 24<=1:=by omega
      go_wp2_with (at_builtin;go_must (refine dW wr #[.int .i64 (((c:Int)+x) % 16777216)] rfl _ _ 106 rfl W2 3 (.int .i64 0) 1 8 1 underlying106 gZ rfl (by decide) u11 k (I os) (by rfl) hown (by rfl) ?_ ?_ ?_ ?_ ?_ ?_))
      any_goals first|rfl|(unfold maxLen;omega)|omega
      intro v' w' hown' hb';have HOWN:=zH hown';clear hown';go_wp2
      go_roundw
      case rel=>
       refine⟨k+1,(x+c+0) / 2 ^ 24,os++[(x+c+0) % 2 ^ 24],by omega,hq,by omega,by go_num,?_,by show _=_;simp[ho.out],gK hod (Nat.mod_lt _ (by omega)),HS,?_,hbw.trans hb',Nat.le_trans hBs hb'.size⟩
       ·congr 1<;>omega
       ·show World.ownsRow _ _ _ _ _ _ _;have h1:=HOWN.out;rw[jJ]
        have e1:I [(x+c+0) % 2 ^ 24]=[.int .i64 (((c:Int)+x) % 16777216)]:=by
         show [Value.int .i64 _]=[Value.int .i64 _]
         first|rfl|(congr 2<;>omega)
        rw[e1];exact h1
      case measure=>simp[intOf]<;>omega
    ·have hx0:=hx' (by omega);rw[hx0] at HS;clear hx' hx0 x0;by_cases hk2:k<l2
     ·obtain⟨b2,o2,rfl,_,hcy⟩:=hr2.i (k:=k) (by rw[E2.out];exact hk2);generalize ys.getD k 0=y at*;clear hr1 hr2;have hq:(0+c+y) / 2 ^ 24<=1:=by omega
      go_wp2_with (at_builtin;go_must (refine dW wr #[.int .i64 (((c:Int)+y) % 16777216)] rfl _ _ 106 rfl W2 3 (.int .i64 0) 1 8 1 underlying106 gZ rfl (by decide) u11 k (I os) (by rfl) hown (by rfl) ?_ ?_ ?_ ?_ ?_ ?_))
      any_goals first|rfl|(unfold maxLen;omega)|omega
      intro v' w' hown' hb';have HOWN:=zH hown';clear hown';go_wp2
      go_roundw
      case rel=>
       refine⟨k+1,(0+c+y) / 2 ^ 24,os++[(0+c+y) % 2 ^ 24],by omega,hq,by omega,by go_num,?_,by show _=_;simp[ho.out],gK hod (Nat.mod_lt _ (by omega)),HS,?_,hbw.trans hb',Nat.le_trans hBs hb'.size⟩
       ·congr 1<;>omega
       ·show World.ownsRow _ _ _ _ _ _ _;have h1:=HOWN.out;rw[jJ]
        have e1:I [(0+c+y) % 2 ^ 24]=[.int .i64 (((c:Int)+y) % 16777216)]:=by
         show [Value.int .i64 _]=[Value.int .i64 _]
         first|rfl|(congr 2<;>omega)
        rw[e1];exact h1
      case measure=>simp[intOf]<;>omega
     ·have hy0:=hy' (by omega);rw[hy0] at HS;clear hy' hy0 y0;by_cases hc0:0<c
      ·obtain rfl:c=1:=by omega
       clear hr1 hr2;have hq:(0+1+0) / 2 ^ 24<=1:=by omega
       go_wp2_with (at_builtin;go_must (refine dW wr #[.int .i64 (1)] rfl _ _ 106 rfl W2 3 (.int .i64 0) 1 8 1 underlying106 gZ rfl (by decide) u11 k (I os) (by rfl) hown (by rfl) ?_ ?_ ?_ ?_ ?_ ?_))
       any_goals first|rfl|(unfold maxLen;omega)|omega
       intro v' w' hown' hb';have HOWN:=zH hown';clear hown';go_wp2
       go_roundw
       case rel=>
        refine⟨k+1,(0+1+0) / 2 ^ 24,os++[(0+1+0) % 2 ^ 24],by omega,hq,by omega,by go_num,?_,by show _=_;simp[ho.out],gK hod (Nat.mod_lt _ (by omega)),HS,?_,hbw.trans hb',Nat.le_trans hBs hb'.size⟩
        ·congr 1<;>omega
        ·show World.ownsRow _ _ _ _ _ _ _;have h1:=HOWN.out;rw[jJ]
         have e1:I [(0+1+0) % 2 ^ 24]=[.int .i64 (1)]:=by
          show [Value.int .i64 _]=[Value.int .i64 _]
          first|rfl|(congr 2<;>omega)
         rw[e1];exact h1
       case measure=>simp[intOf]<;>omega
      ·obtain rfl:c=0:=by omega
       obtain⟨A',cap',rfl,h1,h2,h3,h4⟩:=dK hown.out;have H3:=zH h3;clear h3 hown hr1 hr2;go_wp2_with fail;refine (pV _ _ _ os _ ho h1 (by omega) H3 hod).mono ?_;rintro e w3 ⟨rfl,hb3⟩;go_wp2;go_ret;refine⟨?_,?_⟩
       ·have h5:=hv.out;rw[take_of_length_le (by rw[E1.out];omega),take_of_length_le (by rw[E2.out];omega),V1.out,V2.out,Nat.zero_mul,Nat.add_zero] at h5;rw[h5];rfl
       ·have h5:Below B w wr:=lM.trans (hbw.mono (by rw[HW2.out];exact hB2));have h6:=h5.trans (hb3.mono (Nat.le_trans hBw h5.size));rw[<-HB.out];exact h6
def nJ (w:World) (n m:Nat) (e:Ending) (w':World):Prop:=
 ∃z:Int,e=.returned (.int .i64 z)/\(z<0↔n<m)/\(z=0↔n=m)/\Below w.heap.size w w'
theorem nJ.lt {w w':World} {n m:Nat} {z:Int} (h:n<m) (hz:z<0) (hb:Below w.heap.size w w'):nJ w n m (.returned (.int .i64 z)) w':=
 ⟨z,rfl,by omega,by omega,hb⟩
theorem nJ.gt {w w':World} {n m:Nat} {z:Int} (h:m<n) (hz:0<z) (hb:Below w.heap.size w w'):nJ w n m (.returned (.int .i64 z)) w':=
 ⟨z,rfl,by omega,by omega,hb⟩
theorem nJ.eq {w w':World} {n m:Nat} (h:n=m) (hb:Below w.heap.size w w'):nJ w n m (.returned (.int .i64 0)) w':=
 ⟨0,rfl,by omega,by omega,hb⟩
theorem MS (A A':Option Addr) (len cap len' cap' n m:Nat) (w:World) (h1:jq w A len cap n) (h2:jq w A' len' cap' m):
  Calls prog 219 #[.slice A len cap,.slice A' len' cap'] w (nJ w n m):=by
 obtain⟨l1,m1,xs,e1,r1,c1,v1⟩:=h1;obtain⟨l2,m2,ys,e2,r2,c2,v2⟩:=h2;unfold maxLen at m1 m2;have E1:=zH e1;have E2:=zH e2;have V1:=zH v1;have V2:=zH v2;have C1:=zH c1;have C2:=zH c2;have R1:=zH r1;have R2:=zH r2;clear e1 e2 v1 v2 c1 c2 r1 r2;rcases Nat.lt_trichotomy len len' with hl|hl|hl
 ·go_enter func219,ntmps219;go_wp2;go_ret;exact nJ.lt (by rw[<-V1.out,<-V2.out];exact C1.out.vJ (by omega) C2.out (by rw[E1.out,E2.out];exact hl)) (by omega) (Below.refl _ _)
 ·subst hl;go_enter func219,ntmps219;go_wp2
  go_loopw [5] (fun i wr=>∃k:Nat,k<=len/\i=.int .i64 ((k:Int)-1)/\Hid (xs.drop k=ys.drop k)/\∃d,wr=w.drewN d) (fun i _=>(intOf i+1).toNat)
  case atStart=>exact⟨len,by omega,by go_num,by show _=_;rw[drop_eq_nil_of_le (by rw[E1.out];omega),drop_eq_nil_of_le (by rw[E2.out];omega)],0,rfl⟩
  case round=>
   obtain⟨k,hk,rfl,hd,d,rfl⟩:=hrel;by_cases hk0:0<k
   ·obtain⟨k,rfl⟩:∃j,k=j+1:=⟨k-1,by omega⟩
    obtain⟨b,off,rfl,hb,hc⟩:=R1.out.i (k:=k) (by rw[E1.out];omega);obtain⟨b',off',rfl,hb',hc'⟩:=R2.out.i (k:=k) (by rw[E2.out];omega);have D1:=zH (fun hlt=>qM (2 ^ 24) xs ys C1.out.lt k (by rw[E1.out];omega) (by rw[E2.out];omega) hd.out hlt);have D2:=zH (fun hlt=>qM (2 ^ 24) ys xs C2.out.lt k (by rw[E2.out];omega) (by rw[E1.out];omega) hd.out.symm hlt);have D3:=zH (fun he=>Aq xs ys k (by rw[E1.out];omega) (by rw[E2.out];omega) hd.out he);have x0:xs.getD k 0<16777216:=aP (by omega) C1.out.lt k;have y0:ys.getD k 0<16777216:=aP (by omega) C2.out.lt k;generalize xs.getD k 0=x at*;generalize ys.getD k 0=y at*;have p1:(0:Int)<=(k:Int)+1-1:=by omega
    rcases Nat.lt_trichotomy x y with hxy|hxy|hxy
    ·have HX:=zH (D1.out hxy);go_wp2_with fail;go_quiet (fail);go_wp2_with fail;go_quiet (fail);go_wp2;go_ret;exact nJ.lt (by rw[<-V1.out,<-V2.out];exact HX.out) (by omega) (by repeat (first|exact Below.refl _ _|exact aI _ _ _|refine below_drewN ?_ _))
    ·have HX:=zH (D3.out hxy);subst hxy;go_wp2_with fail;go_quiet (fail);go_wp2
     go_roundw
     case rel=>exact⟨k,by omega,by first|rfl|go_num,HX.out,_,by first|rfl|(simp only[drewN_drewN];rfl)⟩
     case measure=>simp[intOf]<;>omega
    ·have HX:=zH (D2.out hxy);go_wp2_with fail;go_quiet (fail);go_wp2_with fail;go_quiet (fail);go_wp2;go_ret;exact nJ.gt (by rw[<-V1.out,<-V2.out];exact HX.out) (by omega) (by repeat (first|exact Below.refl _ _|exact aI _ _ _|refine below_drewN ?_ _))
   ·obtain rfl:k=0:=by omega
    go_wp2;go_ret;have:xs=ys:=by simpa using hd.out
    exact nJ.eq (by rw[<-V1.out,<-V2.out,this]) (aI _ _ _)
 ·go_enter func219,ntmps219;go_wp2;go_ret;exact nJ.gt (by rw[<-V1.out,<-V2.out];exact C2.out.vJ (by omega) C1.out (by rw[E1.out,E2.out];exact hl)) (by omega) (Below.refl _ _)
theorem Xu (B k:Nat) (xs ys os:List Nat) (c z c':Nat) (hk:os.length=k) (h:val B (xs.take k)+c*B ^ k=val B os+val B (ys.take k)) (e:c+z+ys.getD k 0=xs.getD k 0+c'*B):
  val B (xs.take (k+1))+c'*B ^ (k+1)=val B (os++[z])+val B (ys.take (k+1)):=by
 rw[gy,hk,cZ,cZ,Nat.pow_succ];generalize xs.getD k 0=x at*;generalize ys.getD k 0=y at*
 grind
theorem UF (B k t:Nat) (xs os:List Nat) (c:Nat) (hk:os.length=k) (h:val B os+c*B ^ k=val B (xs.take k)*t):
  val B (os++[(xs.getD k 0*t+c) % B])+(xs.getD k 0*t+c) / B*B ^ (k+1)=val B (xs.take (k+1))*t:=by
 rw[gy,hk,cZ,Nat.pow_succ];generalize xs.getD k 0=x;have e:=Nat.div_add_mod (x*t+c) B;generalize (x*t+c) / B=q at*;generalize (x*t+c) % B=r at*
 grind
theorem Qq (x t c:Nat) (hx:x<16777216) (ht:t<16777216) (hc:c<16777216):x*t+c<281474976710656:=by
 have:=Nat.mul_le_mul (show x<=16777215 from by omega) (show t<=16777215 from by omega);omega
theorem Gi (A:Option Addr) (len cap n t:Nat) (ti:Int) (w:World) (hti:ti=t) (h1:jq w A len cap n) (hl:len<=715827884) (ht:t<16777216):
  Calls prog 222 #[.slice A len cap,.int .i64 ti] w (x9 w (n*t)):=by
 subst hti;obtain⟨_,_,xs,e1,r1,k1,v1⟩:=h1;have E1:=zH e1;have V1:=zH v1;have C1:=zH k1;have R1:=zH r1;clear e1 v1 k1 r1;obtain⟨B,hB⟩:=zE w.heap.size;have HB:=zH hB;clear hB;go_enter func222,ntmps222;go_wp2_with fail
 go_loopw [7,6,5] (fun kv cv ov wr=>∃(k c:Nat) (os:List Nat),k<=len/\c<16777216/\kv=.int .i64 k/\cv=.int .i64 c/\Hid (os.length=k)/\Hid (∀x∈os,x<2 ^ 24)/\
   Hid (val (2 ^ 24) os+c*(2 ^ 24) ^ k=val (2 ^ 24) (xs.take k)*t)/\Hid (wr.ownsRow B 3 1 ov k (I os))/\Below B w wr/\B<=wr.heap.size) (fun kv _ _ _=>len-(intOf kv).toNat)
 case atStart=>exact⟨0,0,[],by omega,by omega,rfl,rfl,rfl,by show ∀x∈_,_;simp,by show _=_;simp[val],ownsRow_nil _ _ _ _,Below.refl _ _,by rw[HB.out];exact Nat.le_refl _⟩
 case round=>
  obtain⟨k,c,os,hk,hc,rfl,rfl,ho,hod,hv,hown,hbw,hBs⟩:=hrel;by_cases hlt:k<len
  ·have hr1:Rd wr A (I xs):=R1.out.keep (by rw[<-HB.out];have:=hbw.size;omega) (fun p hp=>hbw.cell (by rw[HB.out];exact hp));obtain⟨b1,o1,rfl,_,hcx⟩:=hr1.i (k:=k) (by rw[E1.out];exact hlt);clear hr1;have x0:xs.getD k 0<16777216:=aP (by omega) C1.out.lt k;have HS:=zH (UF (2 ^ 24) k t xs os c ho.out hv.out);generalize xs.getD k 0=x at*;have M:=Qq x t c x0 ht hc;have M1:(0:Int)<=(x:Int)*t:=by rw[<-Int.natCast_mul];omega
   have M2:(x:Int)*t+c<281474976710656:=by rw[<-Int.natCast_mul];omega
   have hq:(x*t+c) / 2 ^ 24<16777216:=by rw[Nat.div_lt_iff_lt_mul (by omega)];omega
   go_wp2_with (at_builtin;go_must (refine dW wr #[.int .i64 (((x:Int)*t+c) % 16777216)] rfl _ _ 106 rfl B 3 (.int .i64 0) 1 8 1 underlying106 gZ rfl (by decide) u5 k (I os) (by rfl) hown.out (by rfl) ?_ ?_ ?_ ?_ ?_ ?_))
   any_goals first|rfl|(unfold maxLen;omega)|omega
   intro v' w' hown' hb';have HOWN:=zH hown';clear hown';go_wp2
   go_roundw
   case rel=>
    refine⟨k+1,(x*t+c) / 2 ^ 24,os++[(x*t+c) % 2 ^ 24],by omega,hq,by go_num,?_,by show _=_;simp[ho.out],gK hod.out (Nat.mod_lt _ (by omega)),HS.out,?_,hbw.trans hb',Nat.le_trans hBs hb'.size⟩
    ·simp
    ·show World.ownsRow _ _ _ _ _ _ _;have h1:=HOWN.out;rw[jJ]
     have e1:I [(x*t+c) % 2 ^ 24]=[.int .i64 (((x:Int)*t+c) % 16777216)]:=by
      show [Value.int .i64 _]=[Value.int .i64 _]
      simp
     rw[e1];exact h1
   case measure=>simp[intOf]<;>omega
  ·obtain rfl:k=len:=by omega
   go_wp2_with (at_builtin;go_must (refine dW wr #[.int .i64 (c:Int)] rfl _ _ 106 rfl B 3 (.int .i64 0) 1 8 1 underlying106 gZ rfl (by decide) u5 k (I os) (by rfl) hown.out (by rfl) ?_ ?_ ?_ ?_ ?_ ?_))
   any_goals first|rfl|(unfold maxLen;omega)|omega
   intro v' w' hown' hb';obtain⟨A',cap',rfl,h1,h2,h3,h4⟩:=dK hown';rw[show I os++(#[Value.int .i64 (c:Int)]:Array Value).toList=I (os++[c]) from by rw[jJ];rfl] at h3;have H3:=zH h3;clear h3 h4 hown' hown;go_wp2_with fail;refine (AA _ _ _ (os++[c]) _ (by simp[ho.out]) h1 (Nat.le_trans h1 h2) H3.out).mono ?_;rintro e w3 ⟨rfl,rfl⟩;go_wp2;go_ret;have hh:=jq.kE (by simp[ho.out]) h1 h2 H3.out (gK hod.out (by omega));rw[gy,ho.out,Nat.mul_comm _ c,hv.out,take_of_length_le (by rw[E1.out];omega),V1.out] at hh;exact⟨_,_,_,rfl,hh,by rw[<-HB.out];exact hbw.trans hb'⟩
theorem Gj (A A':Option Addr) (len cap len' cap' n m:Nat) (w:World) (h1:jq w A len cap n) (h2:jq w A' len' cap' m) (hl:len<=715827884) (hmn:m<=n):
  Calls prog 221 #[.slice A len cap,.slice A' len' cap'] w (x9 w (n-m)):=by
 obtain⟨_,_,xs,e1,r1,k1,v1⟩:=h1;obtain⟨_,_,ys,e2,r2,k2,v2⟩:=h2
 have hll:len'<=len:=by
  rcases Nat.lt_or_ge len len' with h|h
  ·have:=k1.vJ (by omega) k2 (by omega);omega
  ·exact h
 have E1:=zH e1;have E2:=zH e2;have V1:=zH v1;have V2:=zH v2;have C1:=zH k1;have C2:=zH k2;have R1:=zH r1;have R2:=zH r2;clear e1 e2 v1 v2 k1 k2 r1 r2;obtain⟨B,hB⟩:=zE w.heap.size;have HB:=zH hB;clear hB;go_enter func221,ntmps221;go_wp2_with fail
 go_loopw [7,6,5] (fun kv cv ov wr=>∃(k c:Nat) (os:List Nat),k<=len/\c<=1/\kv=.int .i64 k/\cv=.int .i64 c/\Hid (os.length=k)/\Hid (∀x∈os,x<2 ^ 24)/\
   Hid (val (2 ^ 24) (xs.take k)+c*(2 ^ 24) ^ k=val (2 ^ 24) os+val (2 ^ 24) (ys.take k))/\Hid (wr.ownsRow B 3 1 ov k (I os))/\Below B w wr/\B<=wr.heap.size) (fun kv _ _ _=>len-(intOf kv).toNat)
 case atStart=>exact⟨0,0,[],by omega,by omega,rfl,rfl,rfl,by show ∀x∈_,_;simp,by show _=_;simp[val],ownsRow_nil _ _ _ _,Below.refl _ _,by rw[HB.out];exact Nat.le_refl _⟩
 case round=>
  obtain⟨k,c,os,hk,hc,rfl,rfl,ho,hod,hv,hown,hbw,hBs⟩:=hrel;by_cases hlt:k<len
  ·have hr1:Rd wr A (I xs):=R1.out.keep (by rw[<-HB.out];have:=hbw.size;omega) (fun p hp=>hbw.cell (by rw[HB.out];exact hp));have hr2:Rd wr A' (I ys):=R2.out.keep (by rw[<-HB.out];have:=hbw.size;omega) (fun p hp=>hbw.cell (by rw[HB.out];exact hp));obtain⟨b1,o1,rfl,_,hcx⟩:=hr1.i (k:=k) (by rw[E1.out];exact hlt);have x0:xs.getD k 0<16777216:=aP (by omega) C1.out.lt k;have y0:ys.getD k 0<16777216:=aP (by omega) C2.out.lt k;have hy':len'<=k->ys.getD k 0=0:=fun h=>by rw[getD_eq_getElem?_getD,getElem?_eq_none (by rw[E2.out];omega)];rfl
   have HS:=zH (fun z c' e=>Xu (2 ^ 24) k xs ys os c z c' ho.out hv.out e);by_cases hk2:k<len'
   ·obtain⟨b2,o2,rfl,_,hcy⟩:=hr2.i (k:=k) (by rw[E2.out];exact hk2);clear hr1 hr2 hy';generalize xs.getD k 0=x at*;generalize ys.getD k 0=y at*;by_cases hd:c+y<=x
    ·go_wp2_with (at_builtin;go_must (refine dW wr #[.int .i64 ((x:Int)-c-y)] rfl _ _ 106 rfl B 3 (.int .i64 0) 1 8 1 underlying106 gZ rfl (by decide) u5 k (I os) (by rfl) hown.out (by rfl) ?_ ?_ ?_ ?_ ?_ ?_))
     any_goals first|rfl|(unfold maxLen;omega)|omega
     intro v' w' hown' hb';have HOWN:=zH hown';clear hown';go_wp2
     go_roundw
     case rel=>
      refine⟨k+1,0,os++[x-c-y],by omega,by omega,by go_num,by first|rfl|go_num,by show _=_;simp[ho.out],gK hod.out (by omega),HS.out _ _ (by omega),?_,hbw.trans hb',Nat.le_trans hBs hb'.size⟩;show World.ownsRow _ _ _ _ _ _ _;have h1:=HOWN.out;rw[jJ]
      have e1:I [x-c-y]=[.int .i64 ((x:Int)-c-y)]:=by
       show [Value.int .i64 _]=[Value.int .i64 _]
       congr 2<;>omega
      rw[e1];exact h1
     case measure=>simp[intOf]<;>omega
    ·go_wp2_with (at_builtin;go_must (refine dW wr #[.int .i64 ((x:Int)-c-y+16777216)] rfl _ _ 106 rfl B 3 (.int .i64 0) 1 8 1 underlying106 gZ rfl (by decide) u5 k (I os) (by rfl) hown.out (by rfl) ?_ ?_ ?_ ?_ ?_ ?_))
     any_goals first|rfl|(unfold maxLen;omega)|omega
     intro v' w' hown' hb';have HOWN:=zH hown';clear hown';go_wp2
     go_roundw
     case rel=>
      refine⟨k+1,1,os++[x+16777216-c-y],by omega,by omega,by go_num,by first|rfl|go_num,by show _=_;simp[ho.out],gK hod.out (by omega),HS.out _ _ (by omega),?_,hbw.trans hb',Nat.le_trans hBs hb'.size⟩;show World.ownsRow _ _ _ _ _ _ _;have h1:=HOWN.out;rw[jJ]
      have e1:I [x+16777216-c-y]=[.int .i64 ((x:Int)-c-y+16777216)]:=by
       show [Value.int .i64 _]=[Value.int .i64 _]
       congr 2<;>omega
      rw[e1];exact h1
     case measure=>simp[intOf]<;>omega
   ·have hy0:=hy' (by omega);rw[hy0] at HS;clear hr1 hr2 hy' hy0 y0;generalize xs.getD k 0=x at*;by_cases hd:c<=x
    ·go_wp2_with (at_builtin;go_must (refine dW wr #[.int .i64 ((x:Int)-c)] rfl _ _ 106 rfl B 3 (.int .i64 0) 1 8 1 underlying106 gZ rfl (by decide) u5 k (I os) (by rfl) hown.out (by rfl) ?_ ?_ ?_ ?_ ?_ ?_))
     any_goals first|rfl|(unfold maxLen;omega)|omega
     intro v' w' hown' hb';have HOWN:=zH hown';clear hown';go_wp2
     go_roundw
     case rel=>
      refine⟨k+1,0,os++[x-c],by omega,by omega,by go_num,by first|rfl|go_num,by show _=_;simp[ho.out],gK hod.out (by omega),HS.out _ _ (by omega),?_,hbw.trans hb',Nat.le_trans hBs hb'.size⟩;show World.ownsRow _ _ _ _ _ _ _;have h1:=HOWN.out;rw[jJ]
      have e1:I [x-c]=[.int .i64 ((x:Int)-c)]:=by
       show [Value.int .i64 _]=[Value.int .i64 _]
       congr 2<;>omega
      rw[e1];exact h1
     case measure=>simp[intOf]<;>omega
    ·go_wp2_with (at_builtin;go_must (refine dW wr #[.int .i64 ((x:Int)-c+16777216)] rfl _ _ 106 rfl B 3 (.int .i64 0) 1 8 1 underlying106 gZ rfl (by decide) u5 k (I os) (by rfl) hown.out (by rfl) ?_ ?_ ?_ ?_ ?_ ?_))
     any_goals first|rfl|(unfold maxLen;omega)|omega
     intro v' w' hown' hb';have HOWN:=zH hown';clear hown';go_wp2
     go_roundw
     case rel=>
      refine⟨k+1,1,os++[x+16777216-c],by omega,by omega,by go_num,by first|rfl|go_num,by show _=_;simp[ho.out],gK hod.out (by omega),HS.out _ _ (by omega),?_,hbw.trans hb',Nat.le_trans hBs hb'.size⟩;show World.ownsRow _ _ _ _ _ _ _;have h1:=HOWN.out;rw[jJ]
      have e1:I [x+16777216-c]=[.int .i64 ((x:Int)-c+16777216)]:=by
       show [Value.int .i64 _]=[Value.int .i64 _]
       congr 2<;>omega
      rw[e1];exact h1
     case measure=>simp[intOf]<;>omega
  ·obtain rfl:k=len:=by omega
   obtain⟨A',cap',rfl,h1,h2,h3,h4⟩:=dK hown.out;have H3:=zH h3;clear h3 h4 hown;go_wp2_with fail;refine (AA _ _ _ os _ ho.out h1 (Nat.le_trans h1 h2) H3.out).mono ?_;rintro e w3 ⟨rfl,rfl⟩;go_wp2;go_ret;have hh:=jq.kE ho.out h1 h2 H3.out hod.out;have h5:=hv.out;have h6:=iE (2 ^ 24) os hod.out;rw[take_of_length_le (by rw[E1.out];omega),take_of_length_le (by rw[E2.out];omega),V1.out,V2.out] at h5;rw[ho.out] at h6
   have h7:val (2 ^ 24) os=n-m:=by
    rcases Nat.le_one_iff_eq_zero_or_eq_one.1 hc with rfl|rfl
    ·rw[Nat.zero_mul] at h5;omega
    ·rw[Nat.one_mul] at h5;omega
   rw[h7] at hh;exact⟨_,_,_,rfl,hh,by rw[<-HB.out];exact hbw⟩
theorem UG (A A':Option Addr) (len cap len' cap' n m:Nat) (w:World) (h1:jq w A len cap n) (h2:jq w A' len' cap' m) (hl:len'<=715827884) (h0:n<m*16777216):
  Calls prog 220 #[.slice A len cap,.slice A' len' cap'] w fun e w'=>e=.returned (.int .i64 ((n / m:Nat):Int))/\n / m<16777216/\Below w.heap.size w w':=by
 have H1:=zH h1;have H2:=zH h2;clear h1 h2;have hdm:n / m<16777216:=Nat.div_lt_of_lt_mul h0;go_enter func220,ntmps220;go_wp2_with fail
 go_loopw [5,6] (fun lv hv wr=>∃lo hi:Nat,lo<=hi/\hi<=16777215/\lv=.int .i64 lo/\hv=.int .i64 hi/\Hid (m*lo<=n/\n<m*(hi+1))/\Below w.heap.size w wr) (fun lv hv _=>(intOf hv).toNat-(intOf lv).toNat)
 case atStart=>exact⟨0,16777215,by omega,by omega,rfl,rfl,⟨by omega,h0⟩,Below.refl _ _⟩
 case round=>
  obtain⟨lo,hi,hlh,hhi,rfl,rfl,hb,hbw⟩:=hrel;by_cases hlt:lo<hi
  ·go_wp2_with fail;refine (Gi A' len' cap' m ((lo+hi+1) / 2) _ wr (by omega) (H2.out.below hbw) hl (by omega)).mono ?_;rintro e w1 ⟨A1,l1,c1,rfl,g1,hb1⟩;have G1:=zH g1;clear g1;go_wp2_with fail;refine (MS _ _ _ _ _ _ _ _ _ G1.out ((H1.out.below hbw).below hb1)).mono ?_;rintro e w2 ⟨z,rfl,z1,z2,hb2⟩;have lM:=ah hb1 hb2;have hb3:Below w.heap.size w w2:=hbw.trans (lM.mono hbw.size);obtain⟨mid,hmid⟩:∃q,(lo+hi+1) / 2=q:=⟨_,rfl⟩
   have hmi:((lo:Int)+hi+1) / 2=mid:=by omega
   have hm1:lo<mid:=by omega
   have hm2:mid<=hi:=by omega
   rw[hmid] at z1 z2;have Z1:=zH z1;have Z2:=zH z2;clear z1 z2;by_cases hz:z<=0
   ·go_wp2
    go_roundw
    case rel=>
     refine⟨mid,hi,hm2,hhi,by first|rfl|(congr 1<;>omega),rfl,⟨?_,hb.out.2⟩,hb3⟩;rcases Int.lt_or_eq_of_le hz with h|h
     ·exact Nat.le_of_lt (Z1.out.1 h)
     ·exact Nat.le_of_eq (Z2.out.1 h)
    case measure=>simp[intOf]<;>omega
   ·go_wp2
    go_roundw
    case rel=>
     refine⟨lo,mid-1,by omega,by omega,rfl,by first|rfl|(congr 1<;>omega),⟨hb.out.1,?_⟩,hb3⟩;rw[show mid-1+1=mid from by omega];rcases Nat.lt_trichotomy (m*mid) n with h|h|h
     ·have:=Z1.out.2 h;omega
     ·have:=Z2.out.2 h;omega
     ·exact h
    case measure=>simp[intOf]<;>omega
  ·obtain rfl:lo=hi:=by omega
   go_wp2;go_ret
   have hq:n / m=lo:=by
    rcases Nat.eq_zero_or_pos m with h|h
    ·subst h;omega
    ·exact Nat.div_eq_of_lt_le (by rw[Nat.mul_comm];exact hb.out.1) (by rw[Nat.mul_comm];exact hb.out.2)
   rw[hq];exact⟨rfl,by omega,hbw⟩
theorem UH (xs:List Nat) (k y:Nat):(I xs).set k (.int .i64 (y:Int))=I (xs.set k y):=by simp[I,map_set]
theorem qw (a b:ByteArray) (w:World) (ha:a.size<=1073741824) (hb:b.size<=1073741824):
  Calls prog 122 #[.string a,.string b] w fun e w'=>e=.returned (.string (aC (ak a*ak b)))/\Below w.heap.size w w':=by
 have vV:=zH (lT a 3 w (by omega) (by omega) 3 rfl);have nI:=zH (lT b 4 w (by omega) (by omega) 4 rfl);by_cases hsm:ak a<256 ^ 3/\ak b<256 ^ 4
 ·obtain⟨h1,h2⟩:=hsm;have d1:decide (ak a<256 ^ 3)=true:=by simpa using h1
  have d2:decide (ak b<256 ^ 4)=true:=by simpa using h2
  rw[d1] at vV;rw[d2] at nI;have h1':ak a<16777216:=h1;have h2':ak b<4294967296:=h2;clear d1 d2 h1 h2;generalize ak a=n at*;generalize ak b=m at*;have M:=Nat.mul_le_mul (show n<=16777215 by omega) (show m<=4294967295 by omega);have M1:(0:Int)<=(n:Int)*m:=by rw[<-Int.natCast_mul];omega
  have M2:(n:Int)*m<=72057589726183425:=by rw[<-Int.natCast_mul];omega
  go_enter func122,ntmps122;go_wp2_with fail;refine vV.out.mono ?_;rintro e w' ⟨rfl,rfl⟩;go_wp2_with fail;refine nI.out.mono ?_;rintro e w' ⟨rfl,rfl⟩;go_wp2_with fail;refine (oU _ _ (by omega) (by omega)).mono ?_;rintro e w1 ⟨rfl,hb1⟩;go_wp2;go_ret;refine⟨?_,hb1⟩;rw[show ((n:Int)*m).toNat=n*m from by rw[<-Int.natCast_mul];rfl];rfl
 ·obtain⟨B,hB⟩:=zE w.heap.size;have HB:=zH hB;have hBw:B<=w.heap.size:=by omega
  have hnot:¬(decide (ak a<256 ^ 3)=true/\decide (ak b<256 ^ 4)=true):=by simpa using hsm
  obtain⟨da,hda⟩:∃d,decide (ak a<256 ^ 3)=d:=⟨_,rfl⟩
  obtain⟨db,hdb⟩:∃d,decide (ak b<256 ^ 4)=d:=⟨_,rfl⟩
  rw[hda] at vV hnot;rw[hdb] at nI hnot;have hcase:(da=false/\db=false)∨(da=false/\db=true)∨(da=true/\db=false):=by cases da<;>cases db<;>simp_all
  clear hB hsm hda hdb hnot;rcases hcase with⟨rfl,rfl⟩|⟨rfl,rfl⟩|⟨rfl,rfl⟩
  all_goals
   go_enter func122,ntmps122;go_wp2_with fail;refine vV.out.mono ?_;rintro e w' ⟨rfl,rfl⟩;go_wp2_with fail;refine nI.out.mono ?_;rintro e w' ⟨rfl,rfl⟩;go_wp2_with fail;refine (qH a _ ha).mono ?_;rintro e w1 ⟨A,len,c1,rfl,h1,hb1⟩;have hl1:=h1.gB (fE a);have H1:=zH h1;clear h1;go_wp2_with fail;refine (qH b _ hb).mono ?_;rintro e w2 ⟨A',len',c2,rfl,h2,hb2⟩;have hl2:=h2.gB (fE b);obtain⟨_,_,xs,e1,r1,k1,v1⟩:=H1.out.below hb2;obtain⟨_,_,ys,e2,r2,k2,v2⟩:=h2;have lM:=ah hb1 hb2;rw[<-HB.out] at lM;have hB2:B<=w2.heap.size:=Nat.le_trans hBw lM.size;have E1:=zH e1;have E2:=zH e2;have V1:=zH v1;have V2:=zH v2;have C1:=zH k1;have C2:=zH k2;have R1:=zH r1;have R2:=zH r2;clear e1 e2 v1 v2 k1 k2 r1 r2 hb1 hb2;go_wp2_with (at_make;refine dS _ rfl _ _ 106 rfl 3 (.int .i64 0) 8 underlying106 gZ rfl _ _ _ _ (len+len') rfl rfl ?_ ?_ (by omega) (by omega) ?_)
   ·omega
   ·omega
   intro w3 hblk hb3;obtain⟨G,HG⟩:∃G,Hid (G=w2.heap.size):=⟨_,rfl⟩
   rw[<-HG.out] at hblk hb3⊢;have HK:=zH hblk;clear hblk;go_wp2_with fail
   go_loopw [12] (fun iv wr=>∃(i:Nat) (out:List Nat),i<=len/\iv=.int .i64 i/\Hid (out.length=len+len')/\aj wr G 3 (I out)/\Hid (∀x∈out,x<2 ^ 24)/\Hid (∀p,i+len'<=p->out.getD p 0=0)/\
     Hid (val (2 ^ 24) out=val (2 ^ 24) (xs.take i)*val (2 ^ 24) ys)/\Below G w2 wr) (fun i _=>len-(intOf i).toNat)
   case atStart=>
    refine⟨0,List.replicate (len+len') 0,by omega,rfl,length_replicate ..,by have:=HK.out;simpa [I] using this,?_,?_,?_,hb3⟩
    ·show ∀x∈_,_;intro x hx;rw[(mem_replicate.1 hx).2];omega
    ·show ∀p,_->_;intro p _;simp[getD_eq_getElem?_getD,getElem?_replicate];split<;>rfl
    ·show _=_;simp[val,tK]
   case round=>
    obtain⟨i,out,hi,rfl,ho,hbk,hod,vS,hv,hbw⟩:=hrel;by_cases hlt:i<len
    ·have hr1:Rd wr A (I xs):=R1.out.below (by rw[<-HG.out];exact hbw);obtain⟨b,off,rfl,hbb,hcell⟩:=hr1.i (k:=i) (by rw[E1.out];omega);have x0:xs.getD i 0<16777216:=aP (by omega) C1.out.lt i;obtain⟨x,HX⟩:∃x,Hid (xs.getD i 0=x):=⟨_,rfl⟩
     clear hcell;rw[HX.out] at x0;obtain⟨wo,rfl⟩:∃wo:World,wo=wr:=⟨_,rfl⟩
     have HO:=zH (And.intro hbk hbw);have vS:=vS;clear hbk hr1;go_wp2_with fail
     go_loopw [14,13] (fun jv cv wr=>∃(j c:Nat) (out:List Nat),j<=len'/\jv=.int .i64 j/\cv=.int .i64 c/\c<16777216/\Hid (out.length=len+len')/\aj wr G 3 (I out)/\Hid (∀x∈out,x<2 ^ 24)/\Hid (∀p,i+len'<=p->out.getD p 0=0)/\
      Hid (val (2 ^ 24) out+c*(2 ^ 24) ^ (i+j)=val (2 ^ 24) (xs.take i)*val (2 ^ 24) ys+xs.getD i 0*val (2 ^ 24) (ys.take j)*(2 ^ 24) ^ i)/\Below G w2 wr) (fun j _ _=>len'-(intOf j).toNat)
     case atStart=>exact⟨0,0,out,by omega,rfl,rfl,by omega,ho,HO.out.1,hod,vS,by show _=_;rw[hv.out];simp[val],HO.out.2⟩
     case round=>
      obtain⟨j,c,out,hj,rfl,rfl,hc,ho,hbk,hod,vS,hv,hbw⟩:=hrel;by_cases hlt2:j<len'
      ·have hr1:=R1.out.below (w':=wr) (by rw[<-HG.out];exact hbw)
       have hcell:wr.cell? ⟨b,off+i,none⟩=some (.int .i64 (x:Int)):=by
        obtain⟨b3,o3,h3,_,hc3⟩:=hr1.i (k:=i) (by rw[E1.out];omega);injection h3 with h3;injection h3 with h3 h4;subst h3 h4;rw[HX.out] at hc3;exact hc3
       have hr2:Rd wr A' (I ys):=R2.out.below (by rw[<-HG.out];exact hbw);obtain⟨b',off',rfl,Z9,hcell'⟩:=hr2.i (k:=j) (by rw[E2.out];omega);clear hr1 hr2;have y0:ys.getD j 0<16777216:=aP (by omega) C2.out.lt j;have o0:out.getD (i+j) 0<16777216:=aP (by omega) hod.out (i+j);have AB:=hbk.cell (i:=i+j) (by rw[jo,ho.out];omega);rw[Lr] at AB;have HS:=zH (FC (2 ^ 24) i j xs ys out c (by omega) (by rw[ho.out];omega) hv.out);rw[HX.out] at HS;generalize ys.getD j 0=y at*;generalize out.getD (i+j) 0=o at*;have M:=Nat.mul_le_mul (show x<=16777215 by omega) (show y<=16777215 by omega);have M1:(0:Int)<=(x:Int)*y:=by rw[<-Int.natCast_mul];omega
       have M2:(x:Int)*y<=281474943156225:=by rw[<-Int.natCast_mul];omega
       have hfz:=hbk.frozen (i+j);have hq:(x*y+o+c) / 2 ^ 24<16777216:=by rw[Nat.div_lt_iff_lt_mul (by omega)];omega
       have hbk':=hbk.drewN 1;go_wp2_with fail;go_quiet (fail);go_wp2
       go_roundw
       case rel=>
        refine⟨j+1,(x*y+o+c) / 2 ^ 24,out.set (i+j) ((x*y+o+c) % 2 ^ 24),by omega,by go_num,?_,hq,by show _=_;rw[length_set,ho.out],?_,tN hod.out (Nat.mod_lt _ (by omega)) _,?_,by show _=_;rw[HX.out];exact HS.out,?_⟩
        ·simp[Int.add_comm]<;>omega
        ·rw[<-UH];have e:Value.int .i64 (((x*y+o+c) % 2 ^ 24:Nat):Int)=.int .i64 (((o:Int)+x*y+c) % 16777216):=by simp[Int.add_comm]
         rw[e];exact (hbk.drewN _).set _ _
        ·show ∀p,_->_;intro p hp;rw[getD_set_ne _ _ _ _ (by omega)];exact vS.out p hp
        ·exact (below_drewN hbw _).setCell (Nat.le_refl _) _
       case measure=>simp[intOf]<;>omega
      ·obtain rfl:j=len':=by omega
       have AB:=hbk.cell (i:=i+j) (by rw[jo,ho.out];omega);have hfz:=hbk.frozen (i+j);have HS:=zH (FD (2 ^ 24) i xs ys out c (by rw[ho.out,E2.out];omega) (vS.out _ (by rw[E2.out];omega)) (by rw[E2.out];exact hv.out));rw[E2.out] at HS;go_wp2
       go_roundw
       case rel=>
        refine⟨i+1,out.set (i+j) c,by omega,by go_num,by show _=_;rw[length_set,ho.out],?_,tN hod.out (by omega) _,?_,HS.out,hbw.setCell (Nat.le_refl _) _⟩
        ·rw[<-UH];exact hbk.set _ _
        ·show ∀p,_->_;intro p hp;rw[getD_set_ne _ _ _ _ (by omega)];exact vS.out p (by omega)
       case measure=>simp[intOf]<;>omega
    ·obtain rfl:i=len:=by omega
     have HK:=zH hbk;clear hbk;go_wp2_with fail;refine (pV _ _ _ _ _ ho.out (Nat.le_refl _) (by omega) HK.out.rd hod.out).mono ?_;rintro e w4 ⟨rfl,hb4⟩;go_wp2;go_ret;refine⟨?_,?_⟩
     ·rw[hv.out,take_of_length_le (by rw[E1.out];omega),V1.out,V2.out];rfl
     ·have h5:Below B w wr:=lM.trans (hbw.mono (by rw[HG.out];exact hB2));have h6:=h5.trans (hb4.mono (Nat.le_trans hBw h5.size));rw[<-HB.out];exact h6
end Go.Proofs.YtjpbmbgincdjaaaGreatDoor
