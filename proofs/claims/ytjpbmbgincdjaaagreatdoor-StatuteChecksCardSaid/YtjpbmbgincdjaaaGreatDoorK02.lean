/- Part: R1 R2 Trim Of Compare FC FD. -/
import Derived.Lib.IndexBytes
import Derived.Test.YtjpbmbgincdjaaaGreatDoorProg
import Derived.Test.YtjpbmbgincdjaaaGreatDoorK01
set_option linter.all false
set_option maxRecDepth 100000
set_option maxHeartbeats 0
namespace Go.Proofs.YtjpbmbgincdjaaaGreatDoor
open Go.RowKit List World Tryz
def I (xs:List Nat):List Value:=xs.map fun n:Nat=>.int .i64 (n:Int)
theorem jo (xs:List Nat):(I xs).length=xs.length:=by simp[I]
theorem Lr (xs:List Nat) (i:Nat) (h:i<(I xs).length):(I xs)[i]=.int .i64 (xs.getD i 0:Nat):=by
 simp only[I,getElem_map]
 rw[getD_eq_getElem?_getD,getElem?_eq_getElem (by simpa [I] using h)];rfl
theorem Xf (xs:List Nat) (n:Nat):(I xs).take n=I (xs.take n):=by simp[I,map_take]
theorem jJ (xs ys:List Nat):I (xs++ys)=I xs++I ys:=by simp[I]
theorem Rd.i {w:World} {A:Option Addr} {xs:List Nat} (h:Rd w A (I xs)) {k:Nat} (hk:k<xs.length):
  ∃b off,A=some ⟨b,off,none⟩/\b<w.heap.size/\w.cell? ⟨b,off+k,none⟩=some (.int .i64 (xs.getD k 0:Nat)):=by
 obtain⟨b,off,e,hb,hc⟩:=h.at_ (k:=k) (by rw[jo];exact hk);refine⟨b,off,e,hb,?_⟩;rw[hc k (by rw[jo];exact hk),Lr]
theorem gZ:(prog.info? 3).map (fun i=>(i.zero,i.size,i.bytes))=some (some (.int .i64 0),1,8):=by kernel_rfl
structure jq (w:World) (A:Option Addr) (len cap:Nat) (n:Nat):Prop where
 le:len<=cap
 max:cap<=maxLen
 digits:∃xs:List Nat,xs.length=len/\Rd w A (I xs)/\Canon (2 ^ 24) xs/\val (2 ^ 24) xs=n
theorem Ls (j:Nat):(2 ^ 24) ^ j=256 ^ (3*j):=by
 rw[show (2:Nat) ^ 24=256 ^ 3 from rfl,<-Nat.pow_mul]
theorem jq.gB {w:World} {A:Option Addr} {len cap n K:Nat} (h:jq w A len cap n) (hn:n<256 ^ K):3*len<=K+2:=by
 obtain⟨_,_,xs,e,_,c,v⟩:=h;by_cases h0:xs=[]
 ·subst h0;simp at e;omega
 ·have:=c.ge h0;rw[Ls,v] at this;have:=(Nat.pow_lt_pow_iff_right (a:=256) (by omega)).1 (Nat.lt_of_le_of_lt this hn);omega
theorem jq.below {w w':World} {A:Option Addr} {len cap n:Nat} (h:jq w A len cap n) (hb:Below w.heap.size w w'):jq w' A len cap n:=by
 obtain⟨l,m,xs,e,r,c,v⟩:=h;exact⟨l,m,xs,e,r.below hb,c,v⟩
theorem jq.zero {w:World} {A:Option Addr} {len cap n:Nat} (h:jq w A len cap n):len=0↔n=0:=by
 obtain⟨_,_,xs,e,_,c,v⟩:=h;rw[<-v,c.val_zero (by omega),<-e,length_eq_zero_iff]
theorem jq.kE {w:World} {A:Option Addr} {len cap:Nat} {xs:List Nat} (hlen:xs.length=len) (hl:len<=cap) (hm:cap<=maxLen) (hr:Rd w A (I xs)) (hd:∀x∈xs,x<2 ^ 24):
  jq w A (trimLen xs len) cap (val (2 ^ 24) xs):=by
 subst hlen;refine⟨Nat.le_trans (trimLen_le _ _) hl,hm,jH xs,mG xs,?_,sQ _ _ hd,qB _ _⟩;unfold jH;rw[<-Xf];exact hr.take _
theorem AA (A:Option Addr) (len cap:Nat) (xs:List Nat) (w:World) (hlen:xs.length=len) (hl:len<=cap) (hm:len<=maxLen) (hr:Rd w A (I xs)):
  Calls prog 218 #[.slice A len cap] w fun e w'=>e=.returned (.slice A (trimLen xs len) cap)/\w=w':=by
 unfold maxLen at hm;have HR:=zH hr;have HL:=zH hlen;clear hr hlen;go_enter func218,ntmps218;go_wp2
 go_loop [0] (fun v=>∃k:Nat,k<=len/\v=.slice A k cap/\Hid (trimLen xs k=trimLen xs len)) (fun v=>match v with|.slice _ k _=>k|_=>0)
 case atStart=>exact⟨len,by omega,rfl,rfl⟩
 case round=>
  obtain⟨k,hk,rfl,he⟩:=hrel;by_cases hk0:0<k
  ·obtain⟨k,rfl⟩:∃j,k=j+1:=⟨k-1,by omega⟩
   obtain⟨b,off,rfl,hb,hcell⟩:=HR.i (k:=k) (by rw[HL.out];omega);have HE:Hid (trimLen xs (k+1)=if xs.getD k 0=0 then trimLen xs k else k+1):=rfl;by_cases hz:xs.getD k 0=0
   ·have HZ:=zH hz;rw[hz] at hcell;clear hz;go_wp2
    go_round
    case rel=>exact⟨k,by omega,rfl,by rw[<-he.out,HE.out,if_pos HZ.out];rfl⟩
    case measure=>simp
   ·have HZ:=zH hz;have hz':((xs.getD k 0:Nat):Int)≠0:=by omega
    clear hz;generalize xs.getD k 0=x at*;go_wp2;go_ret;exact⟨by rw[<-he.out,HE.out,if_neg HZ.out];rfl,rfl⟩
  ·obtain rfl:k=0:=by omega
   go_wp2;go_ret;exact⟨by rw[<-he.out];rfl,rfl⟩
theorem DI (l:List UInt8) (k:Nat) (hk:k<=l.length) (h:∀i,i<k->l.getD i 0=0) (hs:k=l.length∨l.getD k 0≠0):l.drop k=oG l:=by
 unfold oG
 induction k generalizing l with
 |zero=>
  cases l with
  |nil=>rfl
  |cons c l=>
   have:c≠0:=by rcases hs with hs|hs;simp at hs;simpa using hs
   rw[dropWhile_cons_of_neg (by simpa using this)];rfl
 |succ k ih=>
  cases l with
  |nil=>simp at hk
  |cons c l=>
   have h0:c=0:=by simpa using h 0 (by omega)
   rw[dropWhile_cons_of_pos (by simpa using h0),drop_succ_cons];exact ih l (by simpa using hk) (fun i hi=>by simpa using h (i+1) (by omega)) (by simpa using hs)
theorem Jt (s:ByteArray) (k:Nat) (h:(s.extract k s.size).data.toList=oG s.data.toList):s.extract k s.size=aC (ak s):=by
 apply ByteArray.ext;apply Array.toList_inj.1;rw[h,Aw];rfl
theorem fO (s:ByteArray) (w:World) (hs:s.size<=1099511627776):
  Calls prog 102 #[.string s] w fun e w'=>e=.returned (.string (aC (ak s)))/\w=w':=by
 go_enter func102,ntmps102;go_wp2
 go_loop [3] (fun v=>∃k:Nat,k<=s.size/\v=.int .i64 k/\Hid (∀i,i<k->s.data.toList.getD i 0=0)) (fun v=>s.size-(intOf v).toNat)
 case atStart=>exact⟨0,by omega,rfl,fun i hi=>absurd hi (by omega)⟩
 case round=>
  obtain⟨k,hk,rfl,hz⟩:=hrel;by_cases hlt:k<s.size
  ·have he:s.data.toList.getD k 0=s[k]:=by rw[getD_lt (by simpa using hlt)];simp;rfl
   by_cases hc:s[k]=0
   ·have hc':(s[k].toNat:Int)=0:=by rw[hc];rfl
    have HE:=zH (he.trans hc);clear he hc;go_wp2
    go_round
    case rel=>
     refine⟨k+1,by omega,by go_num,?_⟩;intro i hi;rcases Nat.lt_or_ge i k with h|h
     ·exact hz i h
     ·obtain rfl:i=k:=by omega
      exact HE.out
    case measure=>simp[intOf]<;>omega
   ·have hc':(s[k].toNat:Int)≠0:=by
     intro h;exact hc (UInt8.toNat_inj.1 (by simp;omega))
    have HE:Hid (s.data.toList.getD k 0≠0):=by show _≠_;rw[he];exact hc
    clear he hc;go_wp2;go_ret;refine⟨?_,rfl⟩;rw[<-Jt s k (by rw[Lib.extract_to_end];exact DI _ _ (by simp;omega) hz.out (.inr HE.out))];rfl
  ·obtain rfl:k=s.size:=by omega
   go_wp2;go_ret;refine⟨?_,rfl⟩;have e:=Jt s s.size (by rw[Lib.extract_to_end];exact DI _ _ (by simp) hz (.inl (by simp)));rw[<-e,show s.extract s.size s.size=ByteArray.empty from by simp];rfl
theorem Ul (l:List UInt8) (e:Nat) (os:List Nat) (he:e<=l.length) (hlen:3*os.length+e=l.length) (hv:val (2 ^ 24) os=vb (l.drop e)) (h3:3<=e):
  val (2 ^ 24) (os++[vb ((l.drop (e-3)).take 3)])=vb (l.drop (e-3)):=by
 have e1:l.drop (e-3)=(l.drop (e-3)).take 3++l.drop e:=by
  have:=(take_append_drop 3 (l.drop (e-3))).symm;rwa[drop_drop,show e-3+3=e from by omega] at this
 rw[gy,hv,e1,oD,Ls,<-e1,length_drop,show l.length-e=3*os.length from by omega,Nat.mul_comm,Nat.add_comm]
theorem Um (l:List UInt8) (e:Nat) (os:List Nat) (he:e<=l.length) (hlen:3*os.length+e=l.length) (hv:val (2 ^ 24) os=vb (l.drop e)):
  val (2 ^ 24) (os++[vb (l.take e)])=vb l:=by
 have e1:vb l=vb (l.take e++l.drop e):=by rw[take_append_drop]
 rw[gy,hv,e1,oD,Ls,length_drop,show l.length-e=3*os.length from by omega,Nat.mul_comm,Nat.add_comm]
def x9 (w:World) (n:Nat) (e:Ending) (w':World):Prop:=
 ∃A len cap,e=.returned (.slice A len cap)/\jq w' A len cap n/\Below w.heap.size w w'
theorem aeY (c:UInt8) (l:List UInt8) (h:c≠0):0<vb (c::l):=by
 have:=FI c l h;have:0<256 ^ l.length:=Nat.pow_pos (by omega);omega
theorem DJ (L:List UInt8) (k:Nat) (hk:0<k) (hL:tV L) (hne:L≠[]):0<vb (L.take k):=by
 obtain⟨c,l,rfl⟩:=exists_cons_of_ne_nil hne;have:=hL hne;obtain⟨j,rfl⟩:∃j,k=j+1:=⟨k-1,by omega⟩
 rw[take_succ_cons];exact aeY c _ (by simpa using this)
theorem qH (s:ByteArray) (w:World) (hs:s.size<=1073741824):
  Calls prog 104 #[.string s] w (x9 w (ak s)):=by
 go_enter func104,ntmps104;go_wp2_with fail;refine (fO s _ (by omega)).mono ?_;rintro e w' ⟨rfl,rfl⟩;obtain⟨t,ht⟩:=zF (aC (ak s));have htv:ak t=ak s:=by rw[<-ht,aS]
 have htr:tV t.data.toList:=by rw[<-ht];exact qo _
 have hts:t.size<=s.size:=by
  have h1:(nb (ak s)).length=t.size:=by rw[<-ht];rfl
  have h2:=fE s;rcases Nat.eq_zero_or_pos t.size with h0|h0
  ·omega
  ·have h3:nb (ak s)≠[]:=by intro e;rw[e] at h1;simp at h1;omega
   obtain⟨c,l,hcl⟩:=exists_cons_of_ne_nil h3;have h4:=qo (ak s) h3;have h5:=FI c l (by simpa [hcl] using h4);rw[<-hcl,qO] at h5;have h6:=(Nat.pow_lt_pow_iff_right (a:=256) (by omega)).1 (Nat.lt_of_le_of_lt h5 h2);rw[hcl] at h1;simp at h1;omega
 have HT:=zH htv;have HR:=zH htr;rw[ht];clear ht htv htr;obtain⟨L,hL⟩:=zF t.data.toList;have DK:L.length=t.size:=by rw[<-hL];simp
 have HL:=zH hL;have wV:=zH DK;clear hL DK;obtain⟨B,hB⟩:=zE w.heap.size;have HB:=zH hB;have hBw:B<=w.heap.size:=by omega
 clear hB;go_wp2_with fail
 go_loopw [4,3] (fun ev ov wr=>∃(x:Int) (os:List Nat),x<=t.size/\-3<=x/\ev=.int .i64 x/\(0<x->3*(os.length:Int)+x=t.size)/\os.length<=t.size/\Hid (val (2 ^ 24) os=vb (L.drop x.toNat))/\Hid (x<=0->∀h:os≠[],os.getLast h≠0)/\
   Hid (∀x∈os,x<2 ^ 24)/\Hid (wr.ownsRow B 3 1 ov os.length (I os))/\Below B w wr/\B<=wr.heap.size) (fun e _ _=>(intOf e).toNat)
 case atStart=>
  refine⟨t.size,[],Int.le_refl _,by omega,rfl,by intro _;simp,by simp,?_,?_,by show ∀x∈_,_;simp,ownsRow_nil _ _ _ _,Below.refl _ _,hBw⟩
  ·show _=_;rw[drop_eq_nil_of_le (by rw[wV.out];omega)];rfl
  ·exact fun _ h=>absurd rfl h
 case round=>
  obtain⟨x,os,hx1,hx2,rfl,hlen,hol,hv,hlast,hlt,hown,hbw,hBs⟩:=hrel;by_cases hx0:0<x
  ·obtain⟨e,rfl⟩:=Int.eq_ofNat_of_zero_le (show 0<=x by omega)
   have hcase:(∃st:Nat,(e:Int)-3=st)∨e<3:=by
    rcases Nat.lt_or_ge e 3 with h|h
    ·exact .inr h
    ·exact .inl ⟨e-3,by omega⟩
   obtain⟨wo,rfl⟩:∃wo:World,wo=wr:=⟨_,rfl⟩
   have iY:=zH (And.intro hbw hBs);clear hbw hBs
   have yc:Hid (∀st j,st+j<t.size->vb ((L.drop st).take (j+1))=vb ((L.drop st).take j)*256+(L.getD (st+j) 0).toNat):=by
    intro st j hj;rw[take_succ_eq_append_getElem (by simp;rw[wV.out];omega),oD,getElem_drop,getD_lt (by rw[wV.out];omega)];simp[vb]
   have hbd:Hid (∀st j,vb ((L.drop st).take j)<256 ^ j):=by
    intro st j;have h1:=qN ((L.drop st).take j);have h2:=Nat.pow_le_pow_right (n:=256) (by omega) (length_take_le j (L.drop st));omega
   have hget:Hid (∀k (hk:k<t.size),(L.getD k 0).toNat=(t[k]'hk).toNat):=by
    intro k hk;have:L.getD k 0=t[k]'hk:=by rw[getD_lt (by rw[wV.out];exact hk)];simp[<-HL.out];rfl
    rw[this]
   rcases hcase with⟨st,hst⟩|he3
   ·go_wp2_with fail;have hT0:(0<e)=True:=eq_true (by omega);simp only[hT0,decide_true]
    clear hT0
    go_loop [6,5] (fun kv dv=>∃j:Nat,j<=3/\kv=.int .i64 ((st:Int)+j)/\dv=.int .i64 (vb ((L.drop st).take j):Nat)) (fun kv _=>(e-intOf kv).toNat)
    case atStart=>exact⟨0,by omega,by simp,by simp[vb]⟩
    case round=>
     obtain⟨j,hj,rfl,rfl⟩:=hrel;have hd:=hbd st j;by_cases hj3:j<3
     ·have hlt2:st+j<t.size:=by omega
      have HC:=zH (yc st j hlt2);have HG:=zH (hget (st+j) hlt2);have hcb:t[st+j].toNat<256:=t[st+j].toNat_lt;have hd2:vb ((L.drop st).take j)<16777216:=Nat.lt_of_lt_of_le hd (by have:=Nat.pow_le_pow_right (n:=256) (by omega) (show j<=3 by omega);omega);clear hd;generalize vb ((L.drop st).take j)=d at*;go_wp2
      go_round
      case rel=>
       refine⟨j+1,by omega,by go_num,?_⟩;rw[HC.out,HG.out];go_num
      case measure=>simp[intOf]<;>omega
     ·obtain rfl:j=3:=by omega
      have hd2:vb ((L.drop st).take 3)<16777216:=hd;clear hd;obtain⟨d,hdd⟩:=zF (vb ((L.drop st).take 3));have HD:=zH hdd;rw[hdd] at hd2⊢;clear hdd;go_wp2_with (at_builtin;go_must (refine dW wo #[.int .i64 (d:Int)] rfl _ _ 106 rfl B 3 (.int .i64 0) 1 8 1 underlying106 gZ rfl (by decide) u3 os.length (I os) rfl hown rfl ?_ ?_ ?_ ?_ ?_ ?_))
      any_goals first|rfl|(unfold maxLen;omega)|omega
      ·exact iY.2
      intro v' w' hown' hb';have HOWN:=zH hown';clear hown';go_wp2
      go_roundw
      case rel=>
       refine⟨(st:Int),os++[d],by omega,by omega,by first|rfl|(congr 1<;>omega),?_,by simp;omega,?_,?_,gK hlt (by omega),?_,iY.1.trans hb',Nat.le_trans iY.2 hb'.size⟩
       ·intro h;simp;omega
       ·show _=_;have h1:=Ul L e os (by rw[wV.out];omega) (by rw[wV.out];omega) hv (by omega);rw[show e-3=st from by omega,HD.out] at h1;rw[h1];simp
       ·show _->_;intro hx' hne;rw[getLast_append_right (by simp)];have h1:st=0:=by omega
        have h2:=DJ L 3 (by omega) (by rw[<-HL.out];exact HR.out) (by intro h;have:=wV.out;rw[h] at this;simp at this;omega);have h3:=HD.out;rw[h1,drop_zero] at h3;simp;omega
       ·show World.ownsRow _ _ _ _ _ _ _;rw[jJ,length_append];exact HOWN.out
      case measure=>simp[intOf]<;>omega
   ·go_wp2_with fail;have hT0:(0<e)=True:=eq_true (by omega);simp only[hT0,decide_true]
    clear hT0
    go_loop [6,5] (fun kv dv=>∃j:Nat,j<=e/\kv=.int .i64 j/\dv=.int .i64 (vb ((L.drop 0).take j):Nat)) (fun kv _=>(e-intOf kv).toNat)
    case atStart=>exact⟨0,by omega,rfl,by simp[vb]⟩
    case round=>
     obtain⟨j,hj,rfl,rfl⟩:=hrel;have hd:=hbd.out 0 j;by_cases hj3:j<e
     ·have hlt2:j<t.size:=by omega
      have HC:=zH (yc.out 0 j (by omega));have HG:=zH (hget.out j hlt2);have hcb:t[j].toNat<256:=t[j].toNat_lt;have hd2:vb ((L.drop 0).take j)<16777216:=Nat.lt_of_lt_of_le hd (by have:=Nat.pow_le_pow_right (n:=256) (by omega) (show j<=3 by omega);omega);clear hd;generalize vb ((L.drop 0).take j)=d at*;go_wp2
      go_round
      case rel=>
       refine⟨j+1,by omega,by go_num,?_⟩;rw[HC.out,Nat.zero_add,HG.out];go_num
      case measure=>simp[intOf]<;>omega
     ·obtain rfl:j=e:=by omega
      have hd2:vb ((L.drop 0).take j)<16777216:=Nat.lt_of_lt_of_le hd (by have:=Nat.pow_le_pow_right (n:=256) (by omega) (show j<=3 by omega);omega);clear hd;obtain⟨d,hdd⟩:=zF (vb ((L.drop 0).take j));have HD:=zH hdd;rw[hdd] at hd2⊢;clear hdd;go_wp2_with (at_builtin;refine dW wo #[.int .i64 (d:Int)] rfl _ _ 106 rfl B 3 (.int .i64 0) 1 8 1 underlying106 gZ rfl (by decide) u3 os.length (I os) rfl hown.out rfl ?_ ?_ ?_ ?_ ?_ ?_)
      any_goals first|rfl|(unfold maxLen;omega)|omega
      ·exact iY.out.2
      intro v' w' hown' hb';have HOWN:=zH hown';clear hown';go_wp2
      go_roundw
      case rel=>
       refine⟨((j:Int)-3),os++[d],by omega,by omega,by first|rfl|(congr 1<;>omega),?_,by simp;omega,?_,?_,gK hlt.out (by omega),?_,iY.out.1.trans hb',Nat.le_trans iY.out.2 hb'.size⟩
       ·intro h;simp;omega
       ·show _=_;have h1:=Um L j os (by rw[wV.out];omega) (by rw[wV.out];omega) hv.out;have h3:=HD.out;rw[drop_zero] at h3;rw[h3] at h1;rw[h1,show ((j:Int)-3).toNat=0 from by omega];rfl
       ·show _->_;intro hx' hne;rw[getLast_append_right (by simp)];have h2:=DJ L j (by omega) (by rw[<-HL.out];exact HR.out) (by intro h;have:=wV.out;rw[h] at this;simp at this;omega);have h3:=HD.out;rw[drop_zero] at h3;simp;omega
       ·show World.ownsRow _ _ _ _ _ _ _;rw[jJ,length_append];exact HOWN.out
      case measure=>simp[intOf]<;>omega
  ·have hz:Hid (val (2 ^ 24) os=vb L):=by
    have:=hv.out;rw[show x.toNat=0 from by omega] at this;exact this
   obtain⟨A,cap,rfl,h1,h2,h3,h4⟩:=dK hown.out;have H3:=zH h3;clear hown h3;go_wp2;go_ret;refine⟨A,os.length,cap,rfl,⟨h1,h2,os,rfl,H3.out,⟨hlt.out,hlast.out (by omega)⟩,?_⟩,by rw[<-HB.out];exact hbw⟩;rw[hz.out,<-HT.out,<-HL.out];rfl
theorem jK (A:Option Addr) (len cap:Nat) (xs:List Nat) (w:World) (hlen:xs.length=len) (hl:len<=cap) (hm:len<=maxLen) (hr:Rd w A (U xs)):
  Calls prog 227 #[.slice A len cap] w fun e w'=>e=.returned (.slice A (trimLen xs len) cap)/\w=w':=by
 unfold maxLen at hm;have HR:=zH hr;have HL:=zH hlen;clear hr hlen;go_enter func227,ntmps227;go_wp2
 go_loop [0] (fun v=>∃k:Nat,k<=len/\v=.slice A k cap/\Hid (trimLen xs k=trimLen xs len)) (fun v=>match v with|.slice _ k _=>k|_=>0)
 case atStart=>exact⟨len,by omega,rfl,rfl⟩
 case round=>
  obtain⟨k,hk,rfl,he⟩:=hrel;by_cases hk0:0<k
  ·obtain⟨k,rfl⟩:∃j,k=j+1:=⟨k-1,by omega⟩
   obtain⟨b,off,rfl,hb,hcell⟩:=HR.u (k:=k) (by rw[HL.out];omega);have HE:Hid (trimLen xs (k+1)=if xs.getD k 0=0 then trimLen xs k else k+1):=rfl;by_cases hz:xs.getD k 0=0
   ·have HZ:=zH hz;rw[hz] at hcell;clear hz;go_wp2
    go_round
    case rel=>exact⟨k,by omega,rfl,by rw[<-he.out,HE.out,if_pos HZ.out];rfl⟩
    case measure=>simp
   ·have HZ:=zH hz;have hz':((xs.getD k 0:Nat):Int)≠0:=by omega
    clear hz;generalize xs.getD k 0=x at*;go_wp2;go_ret;exact⟨by rw[<-he.out,HE.out,if_neg HZ.out];rfl,rfl⟩
  ·obtain rfl:k=0:=by omega
   go_wp2;go_ret;exact⟨by rw[<-he.out];rfl,rfl⟩
theorem oH:(prog.info? 231).map (fun i=>(i.zero,i.size,i.bytes))=some (some (.int .u32 0),1,4):=by kernel_rfl
structure fF (w:World) (A:Option Addr) (len cap:Nat) (n:Nat):Prop where
 le:len<=cap
 max:cap<=maxLen
 digits:∃xs:List Nat,xs.length=len/\Rd w A (U xs)/\Canon (2 ^ 32) xs/\val (2 ^ 32) xs=n
def vN (w:World) (n:Nat) (e:Ending) (w':World):Prop:=
 ∃A len cap,e=.returned (.slice A len cap)/\fF w' A len cap n/\Below w.heap.size w w'
theorem Z5 (s:ByteArray) (k:Nat) (h:k<s.size):
  vb (s.data.toList.drop (s.size-(k+1)))=(s[s.size-1-k]'(by omega)).toNat*256 ^ k+vb (s.data.toList.drop (s.size-k)):=by
 have:=adv s.data.toList k (by simpa using h);simp only[Array.length_toList] at this;rw[getD_lt (by simp;omega)] at this;exact this
theorem adE (m N k:Nat) (c:UInt8) (hN:N<256 ^ k) (hk:k / 4<m):
  (U (fM m N)).set (k / 4) (.int .u32 (bits .or .u32 (((fM m N).getD (k / 4) 0:Nat):Int) (IntKind.u32.wrap (IntKind.u32.wrap (c.toNat:Int)*2 ^ (8*((k:Int) % 4)).toNat))))=U (fM m (c.toNat*256 ^ k+N)):=by
 have hc:=c.toNat_lt;have hb:=FB m N k hN hk;rw[WU m N c.toNat k hN hc hk];generalize (fM m N).getD (k / 4) 0=x at*;have e0:(8*((k:Int) % 4)).toNat=8*(k % 4):=by omega
 have e1:(256:Nat) ^ (k % 4)=2 ^ (8*(k % 4)):=by rw[Nat.pow_mul]
 have h3:k % 4=0∨k % 4=1∨k % 4=2∨k % 4=3:=by omega
 have hlt:c.toNat*256 ^ (k % 4)<4294967296:=by rcases h3 with h|h|h|h<;>rw[h]<;>omega
 have hx:x<4294967296:=by
  refine Nat.lt_of_lt_of_le hb ?_;rcases h3 with h|h|h|h<;>rw[h]<;>decide
 have e2:IntKind.u32.wrap (IntKind.u32.wrap (c.toNat:Int)*2 ^ (8*((k:Int) % 4)).toNat)=((c.toNat*256 ^ (k % 4):Nat):Int):=by
  rw[e0,IntWalk.u32_in (c.toNat:Int) (by omega),show (2:Int) ^ (8*(k % 4))=((256 ^ (k % 4):Nat):Int) from by rw[e1];simp];rw[<-Int.natCast_mul,IntWalk.u32_in _ (by omega)]
 rw[e2,u32_or_nat _ _ hx hlt,e1,qC _ _ _ (by rw[<-e1];exact hb)];simp[U,map_set]
theorem aeZ (s:ByteArray) (w:World) (hs:s.size<=1099511627776):
  Calls prog 179 #[.string s] w (vN w (vb s.data.toList)):=by
 go_enter func179,ntmps179;go_wp2_with (at_make;refine dS _ rfl _ _ 228 rfl 231 (.int .u32 0) 4 underlying228 oH rfl _ _ _ _ ((s.size+3) / 4) rfl rfl ?_ ?_ (by omega) (by omega) ?_)
 ·omega
 ·omega
 intro w1 hblk hb1;obtain⟨G,HG⟩:∃G,Hid (G=w.heap.size):=⟨_,rfl⟩
 rw[<-HG.out] at hblk hb1⊢;go_wp2
 go_loopw [13] (fun i wr=>∃k:Nat,k<=s.size/\i=.int .i64 k/\aj wr G 231 (U (fM ((s.size+3) / 4) (vb (s.data.toList.drop (s.size-k)))))/\Below G w wr) (fun i _=>s.size-(intOf i).toNat)
 case atStart=>exact⟨0,by omega,rfl,by rw[show s.data.toList.drop (s.size-0)=[] from by simp,show vb []=0 from rfl,WT];simpa [U] using hblk,hb1⟩
 case round=>
  obtain⟨k,hk,rfl,hbk,hbw⟩:=hrel;by_cases hlt:k<s.size
  ·have hc:=hbk.cell (i:=k / 4) (by rw[fV,jw];omega);rw[uZ] at hc
   have HN:Hid (vb (s.data.toList.drop (s.size-k))<256 ^ k):=by
    have:=qN (s.data.toList.drop (s.size-k));rwa[length_drop,show s.data.toList.length-(s.size-k)=k from by simp;omega] at this
   obtain⟨x,HX⟩:=zF ((fM ((s.size+3) / 4) (vb (s.data.toList.drop (s.size-k)))).getD (k / 4) 0);rw[HX] at hc;have DL:=zH HX;clear HX;have hfz:=hbk.frozen (k / 4);clear hblk;go_wp2_with fail;have q1:IntKind.i64.wrap ((k:Int) / 4)=(k:Int) / 4:=IntWalk.i64_in _ (by omega);have q2:(0:Int)<=(k:Int) / 4:=by omega
   have q3:(k:Int) / 4<((s.size:Int)+3) / 4:=by omega
   have q4:((k:Int) / 4).toNat=k / 4:=by omega
   have r1:IntKind.i64.wrap ((s.size:Int)-1)=(s.size:Int)-1:=IntWalk.i64_in _ (by omega);have r2:IntKind.i64.wrap ((s.size:Int)-1-k)=(s.size:Int)-1-k:=IntWalk.i64_in _ (by omega);have r3:(0:Int)<=(s.size:Int)-1-k:=by omega
   have r4:(s.size:Int)-1-k<s.size:=by omega
   have r5:((s.size:Int)-1-k).toNat=s.size-1-k:=by omega
   have r6:(k:Int)<=(s.size:Int)-1:=by omega
   have m0:(k:Int).tmod 4=(k:Int) % 4:=Int.tmod_eq_emod_of_nonneg (by omega);have m1:IntKind.i64.wrap (8*((k:Int) % 4))=8*((k:Int) % 4):=IntWalk.i64_in _ (by omega);have m2:(0:Int)<=8*((k:Int) % 4):=by omega
   refine wp_region_still_tail 19 (by kernel_rfl) (by kernel_rfl) ?_;simp only[take_succ_cons,take_zero,drop_succ_cons,drop_zero]
   repeat still_step
   refine wpStill_nil ?_;go_wp2
   go_roundw
   case rel=>
    refine⟨k+1,by omega,by go_num,?_,?_⟩
    ·have e:=adE ((s.size+3) / 4) (vb (s.data.toList.drop (s.size-k))) k s[s.size-1-k] HN (by omega);rw[Z5 s k hlt,<-e,DL.out];exact (hbk.drewN 1).set (k / 4) _
    ·exact (below_drewN hbw 1).setCell (Nat.le_refl _) _
   case measure=>simp[intOf];omega
  ·obtain rfl:k=s.size:=by omega
   go_wp2_with fail;have hv:vb (s.data.toList.drop (s.size-s.size))=vb s.data.toList:=by simp
   rw[hv] at hbk;have hbk:=zH hbk;refine (jK _ _ _ (fM ((s.size+3) / 4) (vb s.data.toList)) _ (jw _ _) (Nat.le_refl _) (by unfold maxLen;omega) hbk.rd).mono ?_;rintro e w2 ⟨rfl,rfl⟩;go_wp2;go_ret;have HG':=HG.out;subst HG';refine⟨_,_,_,rfl,⟨Nat.le_trans (trimLen_le _ _) (Nat.le_refl _),by unfold maxLen;omega,jH (fM ((s.size+3) / 4) (vb s.data.toList)),?_,?_,?_,?_⟩,hbw⟩
   ·rw[mG,jw]
   ·unfold jH;rw[<-Fz];exact hbk.rd.take _
   ·exact sQ _ _ (Q5 _ _)
   ·rw[qB,LX];refine Nat.mod_eq_of_lt (Nat.lt_of_lt_of_le (qN _) ?_);rw[yP];exact Nat.pow_le_pow_right (by omega) (by simp;omega)
theorem yg (os:List Nat) (n k y:Nat) (hk:os.length=k) (h:k<n):
  (U (os++List.replicate (n-k) 0)).set k (.int .u32 (y:Int))=U ((os++[y])++List.replicate (n-(k+1)) 0):=by
 rw[<-LY os n k 0 y hk h];simp[U,map_set]
theorem fF.gB {w:World} {A:Option Addr} {len cap n K:Nat} (h:fF w A len cap n) (hn:n<256 ^ K):4*len<=K+3:=by
 obtain⟨_,_,xs,e,_,c,v⟩:=h;by_cases h0:xs=[]
 ·subst h0;simp at e;omega
 ·have:=c.ge h0;rw[yP,v] at this;have:=(Nat.pow_lt_pow_iff_right (a:=256) (by omega)).1 (Nat.lt_of_le_of_lt this hn);omega
theorem fF.below {w w':World} {A:Option Addr} {len cap n:Nat} (h:fF w A len cap n) (hb:Below w.heap.size w w'):fF w' A len cap n:=by
 obtain⟨l,m,xs,e,r,c,v⟩:=h;exact⟨l,m,xs,e,r.below hb,c,v⟩
theorem fF.zero {w:World} {A:Option Addr} {len cap n:Nat} (h:fF w A len cap n):len=0↔n=0:=by
 obtain⟨_,_,xs,e,_,c,v⟩:=h;rw[<-v,c.val_zero (by omega),<-e,length_eq_zero_iff]
theorem fF.kE {w:World} {A:Option Addr} {len cap:Nat} {xs:List Nat} (hlen:xs.length=len) (hl:len<=cap) (hm:cap<=maxLen) (hr:Rd w A (U xs)) (hd:∀x∈xs,x<2 ^ 32):
  fF w A (trimLen xs len) cap (val (2 ^ 32) xs):=by
 subst hlen;refine⟨Nat.le_trans (trimLen_le _ _) hl,hm,jH xs,mG xs,?_,sQ _ _ hd,qB _ _⟩;unfold jH;rw[<-Fz];exact hr.take _
theorem nN (A A':Option Addr) (len cap len' cap' n m:Nat) (w:World) (h1:fF w A len cap n) (h2:fF w A' len' cap' m):
  Calls prog 223 #[.slice A len cap,.slice A' len' cap'] w fun e w'=>e=.returned (.int .i64 (fD n m))/\Below w.heap.size w w':=by
 obtain⟨l1,m1,xs,e1,r1,c1,v1⟩:=h1;obtain⟨l2,m2,ys,e2,r2,c2,v2⟩:=h2;unfold maxLen at m1 m2;have E1:=zH e1;have E2:=zH e2;have V1:=zH v1;have V2:=zH v2;have C1:=zH c1;have C2:=zH c2;have R1:=zH r1;have R2:=zH r2;clear e1 e2 v1 v2 c1 c2 r1 r2;rcases Nat.lt_trichotomy len len' with hl|hl|hl
 ·go_enter func223,ntmps223;go_wp2;go_ret;refine⟨?_,Below.refl _ _⟩;rw[<-V1.out,<-V2.out,xZ (C1.out.vJ (by omega) C2.out (by rw[E1.out,E2.out];exact hl))];rfl
 ·subst hl;go_enter func223,ntmps223;go_wp2
  go_loopw [5] (fun i wr=>∃k:Nat,k<=len/\i=.int .i64 ((k:Int)-1)/\Hid (xs.drop k=ys.drop k)/\∃d,wr=w.drewN d) (fun i _=>(intOf i+1).toNat)
  case atStart=>exact⟨len,by omega,by go_num,by show _=_;rw[drop_eq_nil_of_le (by rw[E1.out];omega),drop_eq_nil_of_le (by rw[E2.out];omega)],0,rfl⟩
  case round=>
   obtain⟨k,hk,rfl,hd,d,rfl⟩:=hrel;by_cases hk0:0<k
   ·obtain⟨k,rfl⟩:∃j,k=j+1:=⟨k-1,by omega⟩
    obtain⟨b,off,rfl,hb,hc⟩:=R1.u (k:=k) (by rw[E1.out];omega);obtain⟨b',off',rfl,hb',hc'⟩:=R2.u (k:=k) (by rw[E2.out];omega);have D1:=zH (fun hlt=>qM (2 ^ 32) xs ys C1.lt k (by rw[E1.out];omega) (by rw[E2.out];omega) hd hlt);have D2:=zH (fun hlt=>qM (2 ^ 32) ys xs C2.lt k (by rw[E2.out];omega) (by rw[E1.out];omega) hd.symm hlt);have D3:=zH (fun he=>Aq xs ys k (by rw[E1.out];omega) (by rw[E2.out];omega) hd he);generalize xs.getD k 0=x at*;generalize ys.getD k 0=y at*;have p1:(0:Int)<=(k:Int)+1-1:=by omega
    rcases Nat.lt_trichotomy x y with hxy|hxy|hxy
    ·have HX:=zH (D1 hxy);go_wp2_with fail;go_quiet (fail);go_wp2;go_ret;exact⟨by rw[<-V1.out,<-V2.out,xZ HX.out];rfl,(by repeat (first|exact Below.refl _ _|exact aI _ _ _|refine below_drewN ?_ _))⟩
    ·have HX:=zH (D3 hxy);subst hxy;go_wp2_with fail;go_quiet (fail);go_wp2_with fail;go_quiet (fail);go_wp2
     go_roundw
     case rel=>exact⟨k,by omega,by first|rfl|go_num,HX,_,by first|rfl|(simp only[drewN_drewN];rfl)⟩
     case measure=>simp[intOf]<;>omega
    ·have HX:=zH (D2 hxy);go_wp2_with fail;go_quiet (fail);go_wp2_with fail;go_quiet (fail);go_wp2;go_ret;exact⟨by rw[<-V1.out,<-V2.out,CU HX.out];rfl,(by repeat (first|exact Below.refl _ _|exact aI _ _ _|refine below_drewN ?_ _))⟩
   ·obtain rfl:k=0:=by omega
    go_wp2;go_ret;refine⟨?_,aI _ _ _⟩;have:xs=ys:=by simpa using hd.out
    rw[<-V1.out,<-V2.out,this,Q7];rfl
 ·go_enter func223,ntmps223;go_wp2;go_ret;refine⟨?_,Below.refl _ _⟩;rw[<-V1.out,<-V2.out,CU (C2.out.vJ (by omega) C1.out (by rw[E1.out,E2.out];exact hl))];rfl
section
variable {ρ ρ':Nat->Value} {m m':Mm} {L L':Nat->Option Nat} {w w':World} {base:Nat} {iL:Nat->Prop}
theorem MB {e:TypeId} {q n:Nat} {v:Value} {us:List Value} (h:w.ownsRow base e q v n us) (hk:∀b,gJ v=some b->w'.heap[b]?=w.heap[b]?):w'.ownsRow base e q v n us:=by
 refine⟨h.1,?_⟩;rcases h.2 with h2|⟨g,cap,cur,rfl,hb,hh,h3⟩
 ·exact .inl h2
 ·exact .inr ⟨g,cap,cur,rfl,hb,(hk g rfl).trans hh,h3⟩
theorem OR.keep {j:Nat} {ob:Ob} (h:OR ρ m L w base iL j ob) (g:Ext ρ m L w ρ' m' L' w') (hj:ρ' j=ρ j) (hk:∀b,gJ (ρ j)=some b->w'.heap[b]?=w.heap[b]?/\L' b=L b):OR ρ' m' L' w' base iL j ob:=by
 cases ob with
 |blk cs=>
  obtain⟨b,e,us,h1,h2,h3,h4,h5,h6,h7⟩:=h;have hb:=hk b (by rw[h1];rfl);exact⟨b,e,us,hj.trans h1,h2,h3.of_block hb.1,h4,h5,fun i x u hx hu=>(h6 i x u hx hu).ext g,hb.2.trans h7⟩
 |row e q xs=>
  obtain⟨us,h1,h2,h3,h4,h5⟩:=h;refine⟨us,?_,h2.grow g.grow,h3,fun b hb=>?_,h5⟩
  ·rw[hj];exact MB h1 fun b hb=>(hk b hb).1
  ·rw[hj] at hb;exact (hk b hb).2.trans (h4 b hb)
 |aW v e q xs=>
  obtain⟨us,h1,h2,h3,h4,h5⟩:=h;refine⟨us,?_,h2.grow g.grow,h3,fun b hb=>?_,h5⟩
  ·rw[hj];exact MB h1 fun b hb=>(hk b hb).1
  ·rw[hj] at hb;exact (hk b hb).2.trans (h4 b hb)
theorem Ob.le_refl (ρ:Nat->Value) (j:Nat) (ob:Ob) (h:ρ' j=ρ j):Ob.le ρ ρ' j ob ob:=by
 cases ob with
 |row e q xs=>exact⟨xs,rfl,Nat.le_refl _,fun _=>h⟩
 |aW v e q xs=>exact⟨v,xs,rfl,Nat.le_refl _,fun _=>⟨Nat.le_refl _,fun _=>h⟩⟩
 |_=>exact⟨rfl,h⟩
theorem Ext.same (g:Grow L w L' w') (h:∀j,m' (.o j)=m (.o j)):Ext ρ m L w ρ m' L' w':=⟨g,fun j ob hj=>⟨ob,(h j).trans hj,Ob.le_refl ρ j ob rfl⟩⟩
theorem kF {base e q n b:Nat} {v:Value} {us:List Value} (h1:w.ownsRow base e q v n us) (hb:gJ v=some b):base<=b/\b<w.heap.size:=by
 refine h1.lt b ?_;cases hr:v with
 |slice a n c=>rw[hr] at hb;cases a<;>simp_all [gJ,Value.ownBlock]
 |pointer a=>
  rcases h1.2 with⟨h2,_⟩|⟨g,cap,cur,h2,_⟩<;>rw[hr] at h2<;>cases h2
 |_=>rw[hr] at hb;cases hb
theorem HS.own {j b:Nat} {ob:Ob} (h:HS ρ m L w base iL) (hj:m (.o j)=some (.o ob)) (hb:gJ (ρ j)=some b):(base<=b∨iL b)/\b<w.heap.size:=by
 have hO:=h.ob j ob hj;cases ob with
 |blk cs=>
  obtain⟨b',e,us,h1,h2,h3,_⟩:=hO;rw[h1] at hb;cases hb;exact⟨h2,h3.lt⟩
 |row e q xs=>
  obtain⟨us,h1,_⟩:=hO;exact⟨.inl (kF h1 hb).1,(kF h1 hb).2⟩
 |aW v e q xs=>
  obtain⟨us,h1,_⟩:=hO;exact⟨.inl (kF h1 hb).1,(kF h1 hb).2⟩
theorem HS.grown (h:HS ρ m L w base iL) (hb:Below w.heap.size w w') (hm:∀j,m' (.o j)=m (.o j)):HS ρ m' L w' base iL:=by
 refine⟨fun j ob hj=>?_,fun j j' ob ob' b h1 h2=>h.inj j j' ob ob' b (by rw[<-hm];exact h1) (by rw[<-hm];exact h2),fun b hB=>h.new b (Nat.le_trans hb.size hB),fun ob h9=>h.bo ob (by rw[<-hm];exact h9)⟩;rw[hm] at hj;exact (h.ob j ob hj).keep (Ext.same (Grow.below hb) hm) rfl fun b hv=>⟨hb.block b (h.own hj hv).2,rfl⟩
end
section
variable {Ld:bU} {X:Cx Ld} {N:Nat} {m m':Mm} {a:Act} {w w':World} {ρ:Nat->Value} {L:Nat->Option Nat}
theorem kJ.put {d:Nat} {x:bF} {u:Value} (h:kJ X N m a w ρ L) (hb:Below w.heap.size w w') (hd:d<N) (hu:SR ρ m L w' x u):kJ X N (upd m [(.s d,.s x)]) (a.put (some d) u) w' ρ L:=by
 have hm:∀j,upd m [(.s d,.s x)] (.o j)=m (.o j):=fun j=>rfl
 have hg:Ext ρ m L w' ρ (upd m [(.s d,.s x)]) L w':=Ext.same Grow.refl hm;refine⟨h.hs.grown hb hm,by simp[Act.put,h.sz],h.df,fun t y hy=>?_,h.bl.trans (.of (hb.mono h.lb)),h.ll,Nat.le_trans h.lb hb.size⟩;by_cases ht:t=d
 ·subst ht;have:upd m [(.s t,.s x)] (.s t)=some (.s x):=by simp[upd,get,Ky.eq_self]
  rw[this] at hy;cases hy;exact⟨u,by simp[Act.put,h.sz,hd],hu.ext hg⟩
 ·have:upd m [(.s d,.s x)] (.s t)=m (.s t):=by
   have:(Ky.s t).eq (.s d)=false:=by cases hh:(Ky.s t).eq (.s d) with|false=>rfl|true=>cases Ky.eq_iff.1 hh;exact absurd rfl ht
   simp[upd,get,this]
  rw[this] at hy;obtain⟨v,hv,hs⟩:=h.sl t y hy;exact⟨v,by simp[Act.put,Ne.symm ht,hv],(hs.ext (Ext.same (Grow.below hb) fun _=>rfl)).ext hg⟩
theorem kJ.below (h:kJ X N m a w ρ L) (hb:Below w.heap.size w w'):kJ X N m a w' ρ L:=
 ⟨h.hs.grown hb fun _=>rfl,h.sz,h.df,fun t x hx=>let ⟨u,hu,hs⟩:=h.sl t x hx;⟨u,hu,hs.ext (Ext.same (Grow.below hb) fun _=>rfl)⟩,h.bl.trans (.of (hb.mono h.lb)),h.ll,Nat.le_trans h.lb hb.size⟩
theorem RS.drew (h:RS X N m a w):RS X N m a w.drew:=let ⟨ρ,L,h⟩:=h;⟨ρ,L,h.below (Below.refl _ _).drew⟩
end
def vO:Value->Bool
 |.agg cs=>cs.toList.all Value.oneCell'
 |_=>true
def FV:Value->PV
 |.agg cs=>.ag (cs.toList.map .sc)
 |.tuple cs=>.tu (cs.toList.map .sc)
 |v=>.sc v
theorem Xg {L:Nat->Option Nat} {w:World} {v:Value} (h:vO v=true):RP L w (FV v) v:=by
 have key:∀(cs:Array Value) (i:Nat) p u,(cs.toList.map PV.sc)[i]?=some p->cs.toList[i]?=some u->RP L w p u:=by
  intro cs i p u hp hu;rw[getElem?_map,hu] at hp;cases hp;exact .sc u
 cases v with
 |agg cs=>exact .ag (us:=cs.toList) (by simp) (fun u hu=>all_eq_true.1 h u hu) (key cs)
 |tuple cs=>exact .tu (us:=cs.toList) (by simp) (key cs)
 |_=>exact .sc _
def ev (M:List (Ky × En)):Operand->Option bF
 |.tmp t=>match get (.s t) M with
  |some (.s x)=>some x
  |_=>none
 |.const v=>bif vO v then some (.v (FV v)) else none
 |.global g=>some (.v (.sc (.pointer (some ⟨g,0,none⟩))))
 |.func f=>some (.v (.sc (.func (.func f) #[] #[])))
def ok:Operand->List Ky
 |.tmp t=>[.s t]
 |_=>[]
section
variable {Ld:bU} {X:Cx Ld} {N:Nat} {m:Mm} {M:List (Ky × En)} {a:Act} {w:World} {ρ:Nat->Value} {L:Nat->Option Nat}
theorem bI {x:Operand} {sv:bF} (h:kJ X N m a w ρ L) (he:ev M x=some sv) (hk:∀k∈ok x,m k=get k M):SR ρ m L w sv (a.eval x):=by
 cases x with
 |tmp t=>
  have hm:=hk (.s t) (by simp[ok]);simp only[ev] at he;cases hg:get (.s t) M with
  |none=>rw[hg] at he;cases he
  |some e=>
   rw[hg] at he;cases e with
   |o ob=>cases he
   |s y=>
    cases he;obtain⟨u,hu,hs⟩:=h.sl t _ (hm.trans hg);show SR ρ m L w _ (a.tmps.getD t undef);rw[Array.getD_eq_getD_getElem?,hu];exact hs
 |const v=>
  simp only[ev] at he;cases hc:vO v
  ·rw[hc] at he;cases he
  ·rw[hc] at he;cases he;exact Xg hc
 |global g=>cases he;exact .sc _
 |func f=>cases he;exact .sc _
end
def gk (ops:Array Oper) (o:Oper):List Ky:=match o.guard with
 |none=>[]
 |some (j,_)=>match (ops[j]?).bind (·.dst) with
  |some d=>[.s d]
  |none=>[]
def Ac (ops:Array Oper) (M:List (Ky × En)) (o:Oper):Option Bool:=match o.guard with
 |none=>some true
 |some (j,b)=>match (ops[j]?).bind (·.dst) with
  |none=>none
  |some d=>match get (.s d) M with
   |some (.s (.v (.sc (.bool c))))=>some (c==b)
   |some (.s (.v (.sc (.tuple _))))=>some false
   |_=>none
section
variable {P:Program} {Ld:bU} {X:Cx Ld} {N:Nat} {m:Mm} {M:List (Ky × En)} {a:Act} {w:World} {ρ:Nat->Value} {L:Nat->Option Nat} {ops:Array Oper} {o:Oper} {t:Bool}
theorem RP.lS {v u:Value} (h:RP L w (.sc v) u):u=v:=by cases h;rfl
theorem Eo (h:kJ X N m a w ρ L) (hw:Ac ops M o=some t) (hk:∀k∈gk ops o,m k=get k M):Region.wanted o (yielded ops a.tmps)=t:=by
 unfold Ac at hw;unfold Region.wanted;cases hg:o.guard with
 |none=>rw[hg] at hw;cases hw;rfl
 |some jb=>
  obtain⟨j,b⟩:=jb;rw[hg] at hw;simp only at hw⊢;cases hd:(ops[j]?).bind (·.dst) with
  |none=>rw[hd] at hw;cases hw
  |some d=>
   rw[hd] at hw;simp only at hw;have hm:=hk (.s d) (by simp[gk,hg,hd]);split at hw
   ·rename_i c hc;cases hw;obtain⟨u,hu,hs⟩:=h.sl d _ (hm.trans hc);have:u=.bool c:=RP.lS hs;unfold yielded;rw[hd,Option.bind_some,hu,this];cases c<;>cases b<;>rfl
   ·rename_i c hc;cases hw;obtain⟨u,hu,hs⟩:=h.sl d _ (hm.trans hc);have:u=.tuple c:=RP.lS hs;unfold yielded;rw[hd,Option.bind_some,hu,this];cases b<;>rfl
   ·cases hw
inductive RG (P:Program) {Ld:bU} (X:Cx Ld) (N:Nat) (ops:Array Oper) (dr:Bool) (fin:List (Ky × En)->Prop):List Oper->List (List Ky × List Ky)->List (Ky × En)->Prop
 |done {acc M} (hc:dr=true->FQ ops (Md ops)=true/\FT (Md ops) acc=true) (h:fin M):RG P X N ops dr fin [] acc M
 |step {o rest acc M} (pre:List (Ky × Option En)) (post:List (Ky × En)) (hs:Uj P X N ops o pre post) (hp:∀kc∈pre,get kc.1 M=kc.2)
   (h:RG P X N ops dr fin rest (acc++[(pre.map (·.1),post.map (·.1))]) (post++M)):RG P X N ops dr fin (o::rest) acc M
 |same {rest acc M M'} (hm:∀k,get k M=get k M') (h:RG P X N ops dr fin rest acc M'):RG P X N ops dr fin rest acc M
theorem Ep (m0:Mm) (ps:Nat->List (Ky × En)):∀n,FM m0 ps (fun _=>true) (n+1)=FM (upd m0 (ps 0)) (fun k=>ps (k+1)) (fun _=>true) n
 |0=>rfl
 |n+1=>by rw[FM,Ep m0 ps n];rfl
variable {dr:Bool} {fin:List (Ky × En)->Prop} {rest:List Oper} {acc:List (List Ky × List Ky)}
theorem RG.out (h:RG P X N ops dr fin rest acc M):∃(st:List (List (Ky × Option En) × List (Ky × En))) (M':List (Ky × En)),st.length=rest.length/\
  (∀(i:Nat) o,rest[i]?=some o->Uj P X N ops o (st.getD i ([],[])).1 (st.getD i ([],[])).2)/\
  (∀i,i<rest.length->∀kc∈(st.getD i ([],[])).1,FM (mm M) (fun k=>(st.getD k ([],[])).2) (fun _=>true) i kc.1=kc.2)/\
  (dr=true->FQ ops (Md ops)=true/\FT (Md ops) (acc++st.map fun s=>(s.1.map (·.1),s.2.map (·.1)))=true)/\
  fin M'/\FM (mm M) (fun k=>(st.getD k ([],[])).2) (fun _=>true) rest.length=mm M':=by
 induction h with
 |done hc h=>exact⟨[],_,rfl,fun i o ho=>(by cases ho),fun i hi=>absurd hi (Nat.not_lt_zero _),fun hd=>by simpa using hc hd,h,rfl⟩
 |@same rest acc M M' hm _ ih=>
  have e:mm M=mm M':=funext hm;rw[e];exact ih
 |@step o rest acc M pre post hs hp _ ih=>
  obtain⟨st,M',h1,h2,h3,h4,h5,h6⟩:=ih;refine⟨(pre,post)::st,M',by simp[h1],fun i o' ho=>?_,fun i hi kc hkc=>?_,fun hd=>?_,h5,?_⟩
  ·cases i with
   |zero=>cases ho;exact hs
   |succ i=>exact h2 i o' ho
  ·cases i with
   |zero=>exact hp kc hkc
   |succ i=>
    rw[Ep];have:=h3 i (by simpa using hi) kc hkc;rw[<-LU] at this;exact this
  ·have:=h4 hd;rw[append_assoc] at this;exact this
  ·rw[length_cons,Ep];rw[<-LU] at h6;exact h6
theorem RG.imp {fin':List (Ky × En)->Prop} (h:RG P X N ops dr fin rest acc M) (hf:∀M,fin M->fin' M):RG P X N ops dr fin' rest acc M:=by
 induction h with
 |done hc h=>exact .done hc (hf _ h)
 |step pre post hs hp _ ih=>exact .step pre post hs hp ih
 |same hm _ ih=>exact .same hm ih
theorem RG.list {Q:Exit->Act->World->Prop} (h:RG P X N ops dr fin rest acc M) (hQ:∀M' a w,fin M'->RS X N (mm M') a w->Q .normal a w):∀a w,RS X N (mm M) a w->wpList P ops Q rest a w:=by
 induction h with
 |done _ h=>exact fun a w hR=>hQ _ a w h hR
 |@same rest acc M M' hm _ ih=>
  intro a w hR;exact ih a w (by rwa[show mm M=mm M' from funext hm] at hR)
 |@step o rest acc M pre post hs hp _ ih=>
  intro a w hR;refine wpList_step fun K hK=>?_
  exact hs _ a w K Q hR hp fun a' w' hR'=>hK _ _ (ih a' w' (by rwa[LU] at hR'))
end
inductive It where
 |c (c:Code)
 |b (id:Nat)
 |r (R:List (Ky × En)->Prop)
section
variable (P:Program) {Ld:bU} (X:Cx Ld) (N:Nat) (F:Exit->List (Ky × En)->Prop)
def WP (c:Code) (K:Exit->List (Ky × En)->Prop) (M:List (Ky × En)):Prop:=∀a w,RS X N (mm M) a w->c.wp P (fun e a' w'=>∃M',K e M'/\RS X N (mm M') a' w') a w
def AT:List It->Exit->List (Ky × En)->Prop
 |[],e,M=>F e M
 |.c c::r,e,M=>match e with
  |.normal=>WP P X N c (AT r) M
  |e=>AT r e M
 |.b id::r,e,M=>match e with
  |.exit i=>if i=id then AT r .normal M else AT r (.exit i) M
  |e=>AT r e M
 |.r R::rest,e,M=>match e with
  |.normal=>R M
  |e=>AT rest e M
structure At (r:List It) (e:Exit) (M:List (Ky × En)):Prop where
 out:AT P X N F r e M
structure GO (c:Code) (r:List It) (M:List (Ky × En)):Prop where
 out:WP P X N c (AT P X N F r) M
end
section
variable {P:Program} {Ld:bU} {X:Cx Ld} {N:Nat} {F:Exit->List (Ky × En)->Prop} {c x y:Code} {r:List It} {M M':List (Ky × En)} {e:Exit} {id:Nat}
theorem WP.mono {K K':Exit->List (Ky × En)->Prop} (h:WP P X N c K M) (hk:∀e M,K e M->K' e M):WP P X N c K' M:=
 fun a w hR=>Code.wp_mono (fun _ _ _ ⟨M',h1,h2⟩=>⟨M',hk _ _ h1,h2⟩) (h a w hR)
theorem Xh (h:GO P X N F x (.c y::r) M):GO P X N F (.seq x y) r M:=⟨fun a w hR=>
 wp_seq (Code.wp_mono (fun e a' w' ⟨M',h1,h2⟩=>by
  cases e with
  |normal=>exact h1 a' w' h2
  |_=>exact⟨M',h1,h2⟩) (h.out a w hR))⟩
theorem Z7 (h:GO P X N F x (.b id::r) M):GO P X N F (.block id x) r M:=⟨fun a w hR=>
 wp_block (Code.wp_mono (fun e a' w' ⟨M',h1,h2⟩=>by
  cases e with
  |exit i=>
   simp only[AT] at h1;simp only[Exit.inBlock]
   split<;>rename_i hi
   ·rw[if_pos hi] at h1;exact⟨M',h1,h2⟩
   ·rw[if_neg hi] at h1;exact⟨M',h1,h2⟩
  |_=>exact⟨M',h1,h2⟩) (h.out a w hR))⟩
theorem go_skip' (h:At P X N F r .normal M):GO P X N F .skip r M:=⟨fun _ _ hR=>wp_skip ⟨M,h.out,hR⟩⟩
theorem adF (h:At P X N F r (.exit id) M):GO P X N F (.exit id) r M:=⟨fun _ _ hR=>wp_exit ⟨M,h.out,hR⟩⟩
theorem go_ret' (h:At P X N F r .ret M):GO P X N F .ret r M:=⟨fun _ _ hR=>wp_ret ⟨M,h.out,hR⟩⟩
theorem CX {o:Operand} {t:Bool} (he:ev M o=some (.v (.sc (.bool t)))) (h1:t=true->GO P X N F x r M) (h2:t=false->GO P X N F y r M):GO P X N F (.cond o x y) r M:=⟨fun a w hR=>by
 obtain⟨ρ,L,hR'⟩:=hR;have hv:a.eval o=.bool t:=RP.lS (bI hR' he fun _ _=>rfl);exact wp_cond_split hv (fun ht=>(h1 ht).out a w ⟨ρ,L,hR'⟩) fun ht=>(h2 ht).out a w ⟨ρ,L,hR'⟩⟩
theorem at_next (h:GO P X N F c r M):At P X N F (.c c::r) .normal M:=⟨h.out⟩
theorem adG {e:Exit} (h:At P X N F r e M) (he:e≠.normal):At P X N F (.c c::r) e M:=⟨by cases e<;>first|exact absurd rfl he|exact h.out⟩
theorem ah3 (h:At P X N F r .normal M):At P X N F (.b id::r) .normal M:=⟨h.out⟩
theorem ah4 (h:At P X N F r .normal M):At P X N F (.b id::r) (.exit id) M:=⟨by simp only[AT,if_true];exact h.out⟩
theorem ah5 {i:Nat} (h:At P X N F r (.exit i) M) (hi:i≠id):At P X N F (.b id::r) (.exit i) M:=⟨by simp only[AT,if_neg hi];exact h.out⟩
theorem ah6 (h:At P X N F r .ret M):At P X N F (.b id::r) .ret M:=⟨h.out⟩
theorem Et {R:List (Ky × En)->Prop} (h:R M):At P X N F (.r R::r) .normal M:=⟨h⟩
theorem ah7 {R:List (Ky × En)->Prop} {e:Exit} (h:At P X N F r e M) (he:e≠.normal):At P X N F (.r R::r) e M:=⟨by cases e<;>first|exact absurd rfl he|exact h.out⟩
theorem MC {l:List Oper} {dr:Bool} (h:RG P X N l.toArray dr (At P X N F r .normal) l [] M) (hm:P.follows .mixedOrders=true):GO P X N F (.region id l.toArray dr) r M:=⟨fun a w hR=>by
 cases dr with
 |false=>exact wp_region_lit (h.list (fun M' a w h1 h2=>⟨M',h1.out,h2⟩) a w hR)
 |true=>
  obtain⟨st,M',h1,h2,h3,h4,h5,h6⟩:=h.out;have h4:=h4 rfl;refine wp_region_any hm ?_;refine adC (X:=X) (N:=N) (ks:=st.map fun s=>(s.1.map (·.1),s.2.map (·.1))) (m0:=mm M) (pr:=fun i=>(st.getD i ([],[])).1) (ps:=fun i=>(st.getD i ([],[])).2) (A:=Md l.toArray) ?_ ?_ h4.1 (by simpa using h4.2) ?_ ?_ ?_ _ _ a _ ?_ ?_ ?_ ?_
  ·intro i hi;have:i<st.length:=by rw[h1];simpa using hi
   simp[this]
  ·simp[h1]
  ·intro i o ho;exact h2 i o (by simpa using ho)
  ·intro i hi;exact h3 i (by simpa using hi)
  ·intro a' w' hR';rw[show l.toArray.size=l.length by simp,h6] at hR';exact⟨M',h5.out,hR'⟩
  ·simp
  ·have:∀n (l:Array Bool),cnt l n<=n:=fun n l=>by
    induction n with
    |zero=>exact Nat.le_refl _
    |succ n ih=>unfold cnt;cases l.getD n true<;>simp<;>omega
   exact this _ _
  ·intro j o ho hl;exfalso;have:j<l.toArray.size:=(Array.getElem?_eq_some_iff.1 ho).1;simp at this;simp[this] at hl
  ·have:FM (mm M) (fun i=>(st.getD i ([],[])).2) (fun i=>(Array.replicate l.toArray.size false).getD i true) l.toArray.size=mm M:=by
    have h0:∀n,n<=l.toArray.size->FM (mm M) (fun i=>(st.getD i ([],[])).2) (fun i=>(Array.replicate l.toArray.size false).getD i true) n=mm M:=by
     intro n
     induction n with
     |zero=>intro _;rfl
     |succ n ih=>
      intro hn;have hn':n<l.length:=Nat.lt_of_succ_le (by simpa using hn);have:(Array.replicate l.toArray.size false).getD n true=false:=by simp[hn']
      rw[FM,this,cond_false,ih (by omega)]
    exact h0 _ (Nat.le_refl _)
   rw[this];exact hR.drew⟩
def kM (M M':List (Ky × En)):Prop:=∀k e,get k M'=some e->get k M=some e
def SC.refs:SC->List Nat
 |.v _=>[]
 |.ow j _=>[j]
 |.ox j _ _=>[j]
def bF.refs:bF->List Nat
 |.sg cs=>cs.flatMap SC.refs
 |.pt j _=>[j]
 |.ow j _=>[j]
 |.fn _ js=>js
 |.ox j _ _=>[j]
 |.px j _ _ _ _=>[j]
 |_=>[]
def En.refs:En->List Nat
 |.s x=>x.refs
 |.o (.blk cs)=>cs.flatMap bF.refs
 |.o _=>[]
def shut (M:List (Ky × En)):Bool:=M.all fun ke=>ke.2.refs.all fun j=>(get (.o j) M).isSome
theorem kM.at (h:kM M M') {k:Ky} {e:En} (hk:get k M'=some e):get k M=some e:=h k e hk
theorem Xi {k:Ky} {e:En}:∀{l:List (Ky × En)},get k l=some e->(k,e)∈l
 |(k',e')::l,h=>by
  unfold get at h;cases hk:k.eq k'
  ·rw[hk] at h;exact mem_cons_of_mem _ (Xi h)
  ·rw[hk] at h;cases h;rw[Ky.eq_iff.1 hk];exact mem_cons_self
theorem xY.sub {ρ:Nat->Value} {j off:Nat} {u:Value} (h:xY ρ (mm M) j off u) (hs:kM M M') (hj:(get (.o j) M').isSome=true):xY ρ (mm M') j off u:=by
 obtain⟨⟨ob,h1,h2⟩,h3⟩:=h;obtain⟨e,he⟩:=Option.isSome_iff_exists.1 hj;have:some e=some (.o ob):=(hs.at he).symm.trans h1;cases this;exact⟨⟨ob,he,h2⟩,h3⟩
theorem SR.ae0 {ρ:Nat->Value} {L:Nat->Option Nat} {w:World} {x:bF} {u:Value} (h:SR ρ (mm M) L w x u) (hs:kM M M') (hj:∀j∈x.refs,(get (.o j) M').isSome=true) (hx:∀cs,x≠.sg cs):SR ρ (mm M') L w x u:=by
 cases x with
 |sg cs=>exact absurd rfl (hx cs)
 |v p=>exact h
 |pt j off=>exact xY.sub h hs (hj j (by simp[bF.refs]))
 |ow j n=>
  obtain⟨e,q,xs,h1,h2⟩:=h;obtain⟨e',he⟩:=Option.isSome_iff_exists.1 (hj j (by simp[bF.refs]));have:some e'=some (.o (.row e q xs)):=(hs.at he).symm.trans h1;cases this;exact⟨e,q,xs,he,h2⟩
 |ox j n k=>
  obtain⟨v,e,q,xs,h1,h2⟩:=h;obtain⟨e',he⟩:=Option.isSome_iff_exists.1 (hj j (by simp[bF.refs]));have:some e'=some (.o (.aW v e q xs)):=(hs.at he).symm.trans h1;cases this;exact⟨v,e,q,xs,he,h2⟩
 |px j i c n k=>
  obtain⟨v,e,q,xs,h1,h2⟩:=h;obtain⟨e',he⟩:=Option.isSome_iff_exists.1 (hj j (by simp[bF.refs]));have:some e'=some (.o (.aW v e q xs)):=(hs.at he).symm.trans h1;cases this;exact⟨v,e,q,xs,he,h2⟩
 |fn f js=>
  obtain⟨us,h1,h2,h3⟩:=h;exact⟨us,h1,h2,fun i j x hj' hx=>(h3 i j x hj' hx).sub hs (hj j (mem_of_getElem? hj'))⟩
 |ex R=>exact h
 |any=>trivial
theorem SC.Xj (c:SC):c.s.refs=c.refs:=by cases c<;>rfl
theorem SR.sub {ρ:Nat->Value} {L:Nat->Option Nat} {w:World} {x:bF} {u:Value} (h:SR ρ (mm M) L w x u) (hs:kM M M') (hj:∀j∈x.refs,(get (.o j) M').isSome=true):SR ρ (mm M') L w x u:=by
 by_cases hx:∃cs,x=.sg cs
 ·obtain⟨cs,rfl⟩:=hx;obtain⟨us,h1,h2,h3,h4⟩:=h;exact⟨us,h1,h2,h3,fun i c x hc hu=>SC.sr.2 ((SC.sr.1 (h4 i c x hc hu)).ae0 hs (fun j hj'=>hj j (mem_flatMap.2 ⟨c,mem_of_getElem? hc,by rwa[SC.Xj] at hj'⟩)) fun cs e=>by cases c<;>cases e)⟩
 ·exact h.ae0 hs hj fun cs e=>hx ⟨cs,e⟩
theorem RS.sub {a:Act} {w:World} (h:RS X N (mm M) a w) (hs:kM M M') (hc:shut M'=true):RS X N (mm M') a w:=by
 obtain⟨ρ,L,h⟩:=h
 have hr:∀{k e},get k M'=some e->∀j∈e.refs,(get (.o j) M').isSome=true:=fun hk j hj=>by
  have:=all_eq_true.1 hc _ (Xi hk);exact all_eq_true.1 this j hj
 refine⟨ρ,L,⟨fun j ob hj=>?_,fun j j' ob ob' b h1 h2=>h.hs.inj j j' ob ob' b (hs.at h1) (hs.at h2),h.hs.new,fun ob h9=>h.hs.bo ob (hs.at h9)⟩,h.sz,h.df,fun t x hx=>?_,h.bl,h.ll,h.lb⟩
 ·have hO:=h.hs.ob j ob (hs.at hj);cases ob with
  |blk cs=>
   obtain⟨b,e,us,h1,h2,h3,h4,h5,h6,h7⟩:=hO;exact⟨b,e,us,h1,h2,h3,h4,h5,fun i x u hx hu=>(h6 i x u hx hu).sub hs fun j' hj'=>hr hj j' (mem_flatMap.2 ⟨x,mem_of_getElem? hx,hj'⟩),h7⟩
  |row e q xs=>exact hO
  |aW v e q xs=>exact hO
 ·obtain⟨u,hu,hsr⟩:=h.sl t x (hs.at hx);exact⟨u,hu,hsr.sub hs (hr hx)⟩
theorem ae1 (M':List (Ky × En)) (hs:kM M M') (hc:shut M'=true) (h:GO P X N F c r M'):GO P X N F c r M:=⟨fun a w hR=>h.out a w (hR.sub hs hc)⟩
theorem go_loop {α:Type} (S:α->List (Ky × En)) (I:α->Prop) (μ:α->Nat) (b0:α) (h0:I b0) (hs:kM M (S b0)) (hc:∀b,shut (S b)=true)
  (round:∀b,I b->GO P X N F c (.r (fun M'=>∃b',I b'/\μ b'<μ b/\kM M' (S b'))::r) (S b)):GO P X N F (.loop c) r M:=by
 refine⟨fun a w hR bf k cs=>?_⟩
 have key:∀n b a w,μ b=n->I b->RS X N (mm (S b)) a w->∃e a' w',(∃M',AT P X N F r e M'/\RS X N (mm M') a' w')/\Arrives P (lone (bf.at a (.code c::.inLoop c::k)) cs w) bf k cs e a' w':=by
  intro n
  induction n using Nat.strongRecOn with
  |_ n ih=>
   intro b a w hn hI hR;obtain⟨e,a1,w1,⟨M1,hq,hR1⟩,harr⟩:=(round b hI).out a w hR bf (.inLoop c::k) cs;cases e with
   |normal=>
    obtain⟨b',hI',hlt,hs'⟩:=hq;obtain⟨e2,a2,w2,hq2,ah8⟩:=ih (μ b') (hn ▸ hlt) b' a1 w1 rfl hI' (hR1.sub hs' (hc b'));exact⟨e2,a2,w2,hq2,.of_steps (Steps.trans harr (.one step_inLoop)) ah8⟩
   |exit id=>exact⟨_,a1,w1,⟨M1,hq,hR1⟩,.pass (x:=.inLoop c) rfl (fun _ _=>.inl (by simp)) harr⟩
   |goto l=>exact⟨_,a1,w1,⟨M1,hq,hR1⟩,.pass (x:=.inLoop c) rfl (fun _ _=>.inl (by simp)) harr⟩
   |ret=>exact⟨_,a1,w1,⟨M1,hq,hR1⟩,.pass (x:=.inLoop c) rfl (fun _ _=>.inl (by simp)) harr⟩
   |panic ch=>exact⟨_,a1,w1,⟨M1,hq,hR1⟩,.pass (x:=.inLoop c) rfl (fun _ _=>.inl (by simp)) harr⟩
   |outgrown=>exact⟨_,a1,w1,⟨M1,hq,hR1⟩,.pass (x:=.inLoop c) rfl (fun _ _=>.inl (by simp)) harr⟩
 obtain⟨e,a',w',hq,harr⟩:=key _ b0 a w rfl h0 (hR.sub hs (hc b0));exact⟨e,a',w',hq,.of_steps (.one step_loop) harr⟩
end
section
variable {P:Program} {Ld:bU} {X:Cx Ld} {N:Nat} {ops:Array Oper} {dr:Bool} {fin:List (Ky × En)->Prop} {o:Oper} {rest:List Oper} {acc:List (List Ky × List Ky)} {M M':List (Ky × En)} {d:Nat} {x:bF} {K W:List Ky}
structure Yd (o:Oper) (P:Program) {Ld:bU} (X:Cx Ld) (N:Nat) (ops:Array Oper) (M:List (Ky × En)) (K:List Ky) (x:bF):Prop where
 h:∀(d:Nat),o.dst=some d->d<N->Ac ops M o=some true->∀dr fin rest acc,RG P X N ops dr fin rest (acc++[(gk ops o++K,[.s d])]) ((.s d,.s x)::M)->RG P X N ops dr fin (o::rest) acc M
def dst (o:Oper) (N:Nat):Bool:=match o.dst with
 |some d=>Nat.blt d N
 |none=>true
structure Ru (o:Oper) (P:Program) {Ld:bU} (X:Cx Ld) (N:Nat) (ops:Array Oper) (M:List (Ky × En)) (K W:List Ky) (M':List (Ky × En)):Prop where
 h:dst o N=true->Ac ops M o=some true->∀dr fin rest acc,RG P X N ops dr fin rest (acc++[(gk ops o++K,W)]) M'->RG P X N ops dr fin (o::rest) acc M
end
end Go.Proofs.YtjpbmbgincdjaaaGreatDoor
set_option linter.unusedVariables false
namespace Go.Proofs.YtjpbmbgincdjaaaGreatDoor
open Go.RowKit List
section
variable {P:Program} {Ld:bU} {X:Cx Ld} {N:Nat} {ops:Array Oper} {dr:Bool} {fin:List (Ky × En)->Prop} {o:Oper} {rest:List Oper} {acc:List (List Ky × List Ky)} {M:List (Ky × En)} {d:Nat} {ty:TypeId} {pos:String} {aO:Array Edge} {g:Option (Nat × Bool)}
theorem og (ks:List Ky) (post:List (Ky × En)) (h:∀m a w ρ L K Q,kJ X N m a w ρ L->(∀k∈ks,m k=get k M)->(∀a' w',RS X N (upd m post) a' w'->K a' w')->o.wp P a w K Q)
  (hw:Ac ops M o=some true) (next:RG P X N ops dr fin rest (acc++[(gk ops o++ks,post.map (·.1))]) (post++M)):RG P X N ops dr fin (o::rest) acc M:=by
 refine .step ((gk ops o++ks).map fun k=>(k,get k M)) post (fun m a w K Q hR hp hK=>?_) (fun kc hkc=>?_) (by rw[map_map];simpa [Function.comp_def] using next)
 ·obtain⟨ρ,L,hR⟩:=hR;have hk:∀k∈gk ops o++ks,m k=get k M:=fun k hk=>hp (k,get k M) (mem_map.2 ⟨k,hk,rfl⟩)
  rw[Eo hR hw fun k h=>hk k (mem_append_left _ h),if_pos rfl];exact h m a w ρ L K Q hR (fun k h=>hk k (mem_append_right _ h)) hK
 ·obtain⟨k,_,rfl⟩:=mem_map.1 hkc;rfl
theorem ah9 (hd:o.dst=some d) (hN:d<N) (hw:Ac ops M o=some false) (next:RG P X N ops dr fin rest (acc++[(gk ops o,[.s d])]) ((.s d,.s (.v (.sc undef)))::M)):RG P X N ops dr fin (o::rest) acc M:=by
 refine .step ((gk ops o).map fun k=>(k,get k M)) [(.s d,.s (.v (.sc undef)))] (fun m a w K Q hR hp hK=>?_) (fun kc hkc=>?_) (by rw[map_map];simpa [Function.comp_def] using next)
 ·obtain⟨ρ,L,hR⟩:=hR;rw[Eo hR hw fun k h=>hp (k,get k M) (mem_map.2 ⟨k,h,rfl⟩),if_neg (by simp),hd];exact hK _ _ ⟨ρ,L,hR.put (Below.refl _ _) hN (.sc _)⟩
 ·obtain⟨k,_,rfl⟩:=mem_map.1 hkc;rfl
theorem ae2 (hd:o.dst=none) (hw:Ac ops M o=some false) (next:RG P X N ops dr fin rest (acc++[(gk ops o,[])]) M):RG P X N ops dr fin (o::rest) acc M:=by
 refine .step ((gk ops o).map fun k=>(k,get k M)) [] (fun m a w K Q hR hp hK=>?_) (fun kc hkc=>?_) (by rw[map_map];simpa [Function.comp_def] using next)
 ·obtain⟨ρ,L,hR⟩:=hR;rw[Eo hR hw fun k h=>hp (k,get k M) (mem_map.2 ⟨k,h,rfl⟩),if_neg (by simp),hd];exact hK _ _ ⟨ρ,L,hR⟩
 ·obtain⟨k,_,rfl⟩:=mem_map.1 hkc;rfl
theorem dL (ks:List Ky) (x:bF) (h:∀m a w ρ L,kJ X N m a w ρ L->(∀k∈ks,m k=get k M)->∃u w',(execOp a.eval o).run P w=.ok (.value u) w'/\Below w.heap.size w w'/\SR ρ m L w' x u):Yd o P X N ops M ks x:=
 ⟨fun d hd hN hw _ _ _ _ next=>
 og ks [(.s d,.s x)] (fun m a w ρ L K Q hR hk hK=>by
  obtain⟨u,w',hr,hb,hs⟩:=h m a w ρ L hR hk;unfold Oper.wp;rw[hr,Oper.upon_value,hd];exact hK _ _ ⟨ρ,L,hR.put hb hN hs⟩) hw next⟩
variable {x y z:Operand} {sx sy:bF} {vx vy v:Value}
theorem evs {m:Mm} {a:Act} {w:World} {ρ:Nat->Value} {L:Nat->Option Nat} (h:kJ X N m a w ρ L) (he:ev M x=some (.v (.sc vx))) (hk:∀k∈ok x,m k=get k M):a.eval x=vx:=RP.lS (bI h he hk)
theorem acf {op:Op} (hop:(op=.move x∨op=.assign x)∨False) (hx:ev M x=some sx):Yd ⟨some d,op,ty,pos,aO,g⟩ P X N ops M (ok x) sx:=
 dL (ok x) sx (fun m a w ρ L hR hk=>⟨a.eval x,w,(by rcases hop with (h|h)|h;subst h;rfl;subst h;rfl;exact h.elim),Below.refl _ _,bI hR hx hk⟩)
theorem CY (x y:Operand) (hx:ev M x=some (.v (.sc vx))) (hy:ev M y=some (.v (.sc vy))) (hv:∀(e:Operand->Value) w,e x=vx->e y=vy->(execOp e o).run P w=.ok (.value v) w):Yd o P X N ops M (ok x++ok y) (.v (.sc v)):=
 dL (ok x++ok y) (.v (.sc v)) (fun m a w ρ L hR hk=>⟨v,w,hv a.eval w (evs hR hx fun k h=>hk k (mem_append_left _ h)) (evs hR hy fun k h=>hk k (mem_append_right _ h)),Below.refl _ _,.sc _⟩)
theorem Lu (x:Operand) (hx:ev M x=some (.v (.sc vx))) (hv:∀(e:Operand->Value) w,e x=vx->(execOp e o).run P w=.ok (.value v) w):Yd o P X N ops M (ok x) (.v (.sc v)):=
 dL (ok x) (.v (.sc v)) (fun m a w ρ L hR hk=>⟨v,w,hv a.eval w (evs hR hx hk),Below.refl _ _,.sc _⟩)
inductive qI:List PV->List Value->Prop
 |nil:qI [] []
 |cons {u l us} (h:qI l us):qI (.sc u::l) (u::us)
theorem qI.eq {L:Nat->Option Nat} {w:World}:∀{l:List PV} {us vs:List Value},qI l us->l.length=vs.length->(∀(i:Nat) p u,l[i]?=some p->vs[i]?=some u->RP L w p u)->vs=us
 |_,_,[],.nil,_,_=>rfl
 |_,_,v::vs,.cons h,hl,hp=>by
  have h0:=RP.lS (hp 0 _ v rfl rfl);have ih:=qI.eq h (by simpa using hl) fun i p u h1 h2=>hp (i+1) p u h1 h2
  rw[h0,ih]
theorem RP.vP {L:Nat->Option Nat} {w:World} {l:List PV} {u:Value} (h:RP L w (.ag l) u):∃us:List Value,u=.agg us.toArray/\l.length=us.length/\(∀u∈us,u.oneCell'=true)/\∀(i:Nat) p u,l[i]?=some p->us[i]?=some u->RP L w p u:=by
 cases h with
 |ag hl h1 h=>exact⟨_,rfl,hl,h1,h⟩
theorem RP.MF {L:Nat->Option Nat} {w:World} {l:List PV} {u:Value} (h:RP L w (.tu l) u):∃us:List Value,u=.tuple us.toArray/\l.length=us.length/\∀(i:Nat) p u,l[i]?=some p->us[i]?=some u->RP L w p u:=by
 cases h with
 |tu hl h=>exact⟨_,rfl,hl,h⟩
theorem eva {m:Mm} {a:Act} {w:World} {ρ:Nat->Value} {L:Nat->Option Nat} {l:List PV} {us:List Value} (h:kJ X N m a w ρ L) (he:ev M x=some (.v (.ag l))) (hs:qI l us) (hk:∀k∈ok x,m k=get k M):a.eval x=.agg us.toArray:=by
 obtain⟨vs,h1,h2,_,h3⟩:=RP.vP (bI h he hk);rw[h1,hs.eq h2 h3]
theorem aia (x y:Operand) {l l':List PV} {us us':List Value} (hx:ev M x=some (.v (.ag l))) (hy:ev M y=some (.v (.ag l'))) (hs:qI l us) (hs':qI l' us') (hv:∀(e:Operand->Value) w,e x=.agg us.toArray->e y=.agg us'.toArray->(execOp e o).run P w=.ok (.value v) w):Yd o P X N ops M (ok x++ok y) (.v (.sc v)):=
 dL (ok x++ok y) (.v (.sc v)) (fun m a w ρ L hR hk=>⟨v,w,hv a.eval w (eva hR hx hs fun k h=>hk k (mem_append_left _ h)) (eva hR hy hs' fun k h=>hk k (mem_append_right _ h)),Below.refl _ _,.sc _⟩)
theorem aib {t:Bool} (hx:ev M x=some (.v (.sc (.bool t)))) (hy:ev M (bif t then y else z)=some sx):Yd ⟨some d,.pick x y z,ty,pos,aO,g⟩ P X N ops M (ok x++ok (bif t then y else z)) sx:=
 dL (ok x++ok (bif t then y else z)) sx (fun m a w ρ L hR hk=>⟨a.eval (bif t then y else z),w,(by
  have h1:=evs hR hx fun k h=>hk k (mem_append_left _ h)
  cases t<;>simp[execOp,h1,asBool]),Below.refl _ _,bI hR hy fun k h=>hk k (mem_append_right _ h)⟩)
theorem RP.at {L:Nat->Option Nat} {w:World} {l:List PV} {us:List Value} {i:Nat} {p:PV} (hl:l.length=us.length) (h:∀(i:Nat) p u,l[i]?=some p->us[i]?=some u->RP L w p u) (hp:l[i]?=some p):∃u,us[i]?=some u/\RP L w p u:=by
 have hi:=(List.getElem?_eq_some_iff.1 hp).1;exact⟨us[i]'(by omega),getElem?_eq_getElem (by omega),h i p _ hp (getElem?_eq_getElem (by omega))⟩
theorem aic {i:Nat} {l:List PV} {p:PV} (hx:ev M x=some (.v (.tu l))) (hp:l[i]?=some p):Yd ⟨some d,.extract x i,ty,pos,aO,g⟩ P X N ops M (ok x) (.v p):=
 dL (ok x) (.v p) (fun m a w ρ L hR hk=>by
  obtain⟨us,h1,h2,h3⟩:=RP.MF (bI hR hx hk);obtain⟨u,hu,hr⟩:=RP.at h2 h3 hp;exact⟨u,w,(by simp[execOp,h1,Instr.extract,hu]),Below.refl _ _,hr⟩)
theorem RP.qP {L:Nat->Option Nat} {w:World} {q:Nat} {xs:List PV} {u:Value} (h:RP L w (.sl q xs) u):∃A c us,u=.slice A xs.length c/\xs.length<=c/\c<=maxLen/\(xs.flatMap PV.cs).length=us.length/\(∀u∈us,u.oneCell'=true)/\(∀(i:Nat) p u,(xs.flatMap PV.cs)[i]?=some p->us[i]?=some u->RP L w p u)/\Lays L w A us/\∀x∈xs,x.cs.length=q:=by
 cases h with
 |sl hq hc hm hl h1 h hA=>exact⟨_,_,_,rfl,hc,hm,hl,h1,h,hA,hq⟩
theorem ae3 {q:Nat} {xs:List PV} (x:Operand) (hx:ev M x=some (.v (.sl q xs))) (hv:∀(e:Operand->Value) A n c w,e x=.slice A n c->(execOp e o).run P w=.ok (.value (.int .i64 n)) w):Yd o P X N ops M (ok x) (.v (.sc (.int .i64 xs.length))):=
 dL (ok x) _ (fun m a w ρ L hR hk=>by
  obtain⟨A,c,us,h1,_⟩:=RP.qP (bI hR hx hk);exact⟨.int .i64 xs.length,w,hv _ _ _ _ _ h1,Below.refl _ _,.sc _⟩)
theorem adH {j n:Nat} {e q:Nat} {xs:List PV} (x:Operand) (hx:ev M x=some (.ow j n)) (ho:get (.o j) M=some (.o (.row e q xs))) (hn:n=xs.length) (hv:∀(e:Operand->Value) A n c w,e x=.slice A n c->(execOp e o).run P w=.ok (.value (.int .i64 n)) w):Yd o P X N ops M (ok x++[.o j]) (.v (.sc (.int .i64 xs.length))):=
 dL (ok x++[.o j]) _ (fun m a w ρ L hR hk=>by
  obtain⟨e',q',xs',h1,h2,h3⟩:=bI hR hx fun k h=>hk k (mem_append_left _ h)
  have hm:m (.o j)=some (.o (.row e q xs)):=(hk (.o j) (by simp)).trans ho;rw[hm] at h1;cases h1;obtain⟨us,h4,_⟩:=hR.hs.ob j _ hm;obtain⟨A,c,h5,_⟩:=dK h4;exact⟨.int .i64 xs.length,w,hv _ A _ c _ ((h3 hn).trans h5),Below.refl _ _,.sc _⟩)
theorem Xk {m:Mm} {a:Act} {w:World} {ρ:Nat->Value} {L:Nat->Option Nat} {j off:Nat} (h:kJ X N m a w ρ L) (he:ev M x=some (.pt j off)) (hk:∀k∈ok x,m k=get k M):∃b,ρ j=.pointer (some ⟨b,0,none⟩)/\a.eval x=.pointer (some ⟨b,off,none⟩):=(bI h he hk).2
theorem ach {j off k off':Nat} (x:Operand) (hx:ev M x=some (.pt j off)) (hv:∀(e:Operand->Value) b off w,e x=.pointer (some ⟨b,off,none⟩)->(execOp e o).run P w=.ok (.value (.pointer (some ⟨b,off+k,none⟩))) w) (hk:off+k=off'):Yd o P X N ops M (ok x) (.pt j off'):=
 dL (ok x) _ (fun m a w ρ L hR hk'=>by
  obtain⟨h1,b,h2,h3⟩:=bI hR hx hk';exact⟨_,w,hv _ _ _ _ h3,Below.refl _ _,h1,b,h2,by rw[hk]⟩)
theorem RP.tY {L:Nat->Option Nat} {w:World} {p:PV} {u:Value} (h:RP L w (.pr p) u):∃us b off,u=.pointer (some ⟨b,off,none⟩)/\b<w.heap.size/\p.cs.length=us.length/\(∀u∈us,u.oneCell'=true)/\(∀(i:Nat) q u,p.cs[i]?=some q->us[i]?=some u->RP L w q u)/\Lays L w (some ⟨b,off,none⟩) us:=by
 cases h with
 |pr hl h1 h hb hA=>exact⟨_,_,_,rfl,hb,hl,h1,h,hA⟩
theorem Lays.part {L:Nat->Option Nat} {w:World} {b off:Nat} {us:List Value} (h:Lays L w (some ⟨b,off,none⟩) us) (k n:Nat):Lays L w (some ⟨b,off+k,none⟩) ((us.drop k).take n):=by
 rcases h with rfl|⟨b',off',e,hb,h⟩
 ·exact .inl (by simp)
 ·cases e;refine .inr ⟨b,off+k,rfl,hb,fun i hi=>?_⟩;rw[length_take,length_drop] at hi;have:=h (k+i) (by omega);rw[Nat.add_assoc,getElem_take,getElem_drop];exact this
theorem aie {k:Nat} {p q:PV} {l:List PV} (x:Operand) (hx:ev M x=some (.v (.pr p))) (hv:∀(e:Operand->Value) b off w,e x=.pointer (some ⟨b,off,none⟩)->(execOp e o).run P w=.ok (.value (.pointer (some ⟨b,off+k,none⟩))) w) (hl:p.cs=l) (hq:(l.drop k).take q.cs.length=q.cs):Yd o P X N ops M (ok x) (.v (.pr q)):=
 dL (ok x) _ (fun m a w ρ L hR hk'=>by
  obtain⟨us,b,off,h1,h2,h3,h4,h5,h6⟩:=RP.tY (bI hR hx hk');subst hl
  have hlen:q.cs.length=((us.drop k).take q.cs.length).length:=by
   have:=congrArg List.length hq;rw[length_take,length_drop] at this⊢;omega
  refine⟨_,w,hv _ _ _ _ h1,Below.refl _ _,.pr hlen (fun u hu=>h4 u (mem_of_mem_drop (mem_of_mem_take hu))) (fun i p' u hp hu=>?_) h2 (h6.part k _)⟩;rw[<-hq] at hp
  have hi:i<q.cs.length:=by
   have:=(List.getElem?_eq_some_iff.1 hp).1;rw[length_take] at this;omega
  rw[getElem?_take_of_lt hi,getElem?_drop] at hp hu;exact h5 (k+i) p' u hp hu)
theorem aif {j off:Nat} {cs:List bF} {sv:bF} {t:TypeId} (x:Operand) (hx:ev M x=some (.pt j off)) (ho:get (.o j) M=some (.o (.blk cs))) (hc:cs[off]?=some sv) (hA:∀w,(isAgg t).run P w=.ok false w) (hop:o.op=.load t x):Yd o P X N ops M (ok x++[.o j]) sv:=
 dL (ok x++[.o j]) _ (fun m a w ρ L hR hk=>by
  obtain⟨b,h1,h2⟩:=Xk hR hx fun k h=>hk k (mem_append_left _ h)
  have hm:m (.o j)=some (.o (.blk cs)):=(hk (.o j) (by simp)).trans ho;obtain⟨b',e,us,k1,k2,k3,k4,k5,k6,k7⟩:=hR.hs.ob j _ hm;rw[h1] at k1;cases k1;have hi:off<us.length:=by rw[<-k4];exact (List.getElem?_eq_some_iff.1 hc).1
  refine⟨us[off],w,?_,Below.refl _ _,k6 off sv _ hc (getElem?_eq_getElem hi)⟩;simp[execOp,hop,h2,Instr.loadAt,Instr.sureAddr,loadVar,hA,k3.cell hi,Result.andThen])
inductive oh (M:List (Ky × En)):bF->PV->Prop
 |v (p:PV):oh M (.v p) p
 |ow {j n e q:Nat} {xs:List PV} (h:get (.o j) M=some (.o (.row e q xs))) (hn:n=xs.length):oh M (.ow j n) (.sl q xs)
 |nil (q:Nat):oh M (.v (.sc (.slice none 0 0))) (.sl q [])
 |fn (f:Nat):oh M (.fn f []) (.sc (.func (.func f) #[] #[]))
inductive pJ (M:List (Ky × En)):List bF->List PV->Prop
 |nil:pJ M [] []
 |cons {x p l ps} (h:oh M x p) (hs:pJ M l ps):pJ M (x::l) (p::ps)
theorem Z8 {L:Nat->Option Nat} {w:World} {base e q n:Nat} {v:Value} {us:List Value} (h:w.ownsRow base e q v n us) (hL:∀b,gJ v=some b->L b=some us.length):∃A c,v=.slice A n c/\n<=c/\c<=maxLen/\Lays L w A us:=by
 obtain⟨A,c,h1,h2,h3,h4,h5⟩:=dK h;refine⟨A,c,h1,h2,h3,?_⟩;rcases h4 with h4|⟨b,off,hA,hb,h4⟩
 ·exact .inl h4
 ·refine .inr ⟨b,off,hA,hb,fun i hi=>⟨h4 i hi,fun f hf=>?_⟩⟩;subst h1 hA;rw[hL b rfl] at hf;cases hf;rcases h.2 with⟨h6,_⟩|⟨g,cap,cur,h6,_⟩
  ·cases h6
  ·cases h6;omega
theorem oh.real {m:Mm} {ρ:Nat->Value} {L:Nat->Option Nat} {w:World} {base:Nat} {iL:Nat->Prop} {sv:bF} {p:PV} {u:Value} (hd:oh M sv p) (h:HS ρ m L w base iL) (hs:SR ρ m L w sv u) (hk:∀j∈sv.refs,m (.o j)=get (.o j) M):RP L w p u:=by
 cases hd with
 |v p=>exact hs
 |@ow j n e q xs hg hn=>
  obtain⟨e',q',xs',h1,h2,h3⟩:=hs;have hm:m (.o j)=some (.o (.row e q xs)):=(hk j (by simp[bF.refs])).trans hg;rw[hm] at h1;cases h1;obtain⟨us,h4,h5,h6,h7,h8⟩:=h.ob j _ hm;rw[h3 hn];obtain⟨A,c,e1,e2,e3,e4⟩:=Z8 h4 h7;rw[e1];exact .sl h8 e2 e3 h5.1 h6 h5.2 e4
 |nil q=>
  rw[RP.lS hs];exact .sl (us:=[]) (fun x hx=>by cases hx) (Nat.le_refl _) (by unfold maxLen;omega) rfl (fun u hu=>by cases hu) (fun i p u hp=>by cases hp) (.inl rfl)
 |fn f=>
  obtain⟨us,h1,h2,_⟩:=hs;have:us=[]:=eq_nil_of_length_eq_zero (by simpa using h2.symm);subst this;rw[h1];exact .sc _
theorem ae4 {j off n:Nat} {cs:List bF} {ps:List PV} {t:TypeId} (x:Operand) (hx:ev M x=some (.pt j off)) (ho:get (.o j) M=some (.o (.blk cs))) (hA:∀w,(isAgg t).run P w=.ok true w) (hn:∀w,(Go.sizeOf t).run P w=.ok n w) (hps:pJ M ((cs.drop off).take n) ps) (hpl:ps.length=n) (hop:o.op=.load t x):Yd o P X N ops M (ok x++.o j::(((cs.drop off).take n).flatMap bF.refs).map .o) (.v (.ag ps)):=
 dL (ok x++.o j::(((cs.drop off).take n).flatMap bF.refs).map .o) _ (fun m a w ρ L hR hk=>by
  obtain⟨b,h1,h2⟩:=Xk hR hx fun k h=>hk k (mem_append_left _ h)
  have hm:m (.o j)=some (.o (.blk cs)):=(hk (.o j) (by simp)).trans ho;obtain⟨b',e,us,k1,k2,k3,k4,k5,k6,k7⟩:=hR.hs.ob j _ hm;rw[h1] at k1;cases k1
  have key:∀(l:List bF) (qs:List PV),pJ M l qs->l.length=qs.length/\∀(i:Nat) q,qs[i]?=some q->∃sv,l[i]?=some sv/\oh M sv q:=by
   intro l qs hl
   induction hl with
   |nil=>exact⟨rfl,fun i q hq=>by simp at hq⟩
   |cons h _ ih=>exact⟨by simp[ih.1],fun i q hq=>by cases i with
     |zero=>cases hq;exact⟨_,rfl,h⟩
     |succ i=>exact ih.2 i q hq⟩
  have hkk:=key _ _ hps
  have hlen:((us.drop off).take n).length=n:=by
   have h:=hkk.1;rw[hpl,length_take,length_drop,k4] at h;rw[length_take,length_drop];exact h
  refine⟨.agg ((us.drop off).take n).toArray,w,?_,Below.refl _ _,.ag (by rw[hpl,hlen]) (fun u hu=>k5 u (mem_of_mem_drop (mem_of_mem_take hu))) fun i q u hq hu=>?_⟩
  ·have hld:=run_loadCells_list (P:=P) w ⟨b,off,none⟩ ((us.drop off).take n) (fun i v hv=>by
    have hi:i<n:=by have:=(List.getElem?_eq_some_iff.1 hv).1;omega
    rw[getElem?_take_of_lt hi,getElem?_drop] at hv;have hi2:=(List.getElem?_eq_some_iff.1 hv)
    rw[show Addr.add ⟨b,off,none⟩ i=⟨b,off+i,none⟩ from by unfold Addr.add;split<;>simp_all,k3.cell hi2.1,hi2.2])
   rw[hlen] at hld;simp[execOp,hop,h2,Instr.loadAt,Instr.sureAddr,loadVar,hA,hn,hld,Result.andThen]
  ·obtain⟨sv,hsv,hdr⟩:=hkk.2 i q hq;have hi:i<n:=by have:=(List.getElem?_eq_some_iff.1 hu).1;omega
   have hsm:=mem_of_getElem? hsv;rw[getElem?_take_of_lt hi,getElem?_drop] at hsv hu;exact hdr.real hR.hs (k6 _ sv u hsv hu) fun j' hj'=>hk (.o j') (mem_append_right _ (mem_cons_of_mem _ (mem_map.2 ⟨j',mem_flatMap.2 ⟨sv,hsm,hj'⟩,rfl⟩))))
theorem ae5 {l:List PV} {t:TypeId} (x:Operand) (hx:ev M x=some (.v (.pr (.ag l)))) (hA:∀w,(isAgg t).run P w=.ok true w) (hn:∀w,(Go.sizeOf t).run P w=.ok l.length w) (hop:o.op=.load t x):Yd o P X N ops M (ok x) (.v (.ag l)):=
 dL (ok x) _ (fun m a w ρ L hR hk=>by
  obtain⟨us,b,off,h1,h2,h3,h4,h5,h6⟩:=RP.tY (bI hR hx hk);have h3:l.length=us.length:=h3
  have hld:=run_loadCells_list (P:=P) w ⟨b,off,none⟩ us (fun i v hv=>by
   have hi2:=List.getElem?_eq_some_iff.1 hv;rcases h6 with h6|⟨b',off',e,hb,h6⟩
   ·subst h6;simp at hv
   ·cases e;rw[show Addr.add ⟨b,off,none⟩ i=⟨b,off+i,none⟩ from by unfold Addr.add;split<;>simp_all,(h6 i hi2.1).1,hi2.2])
  refine⟨.agg us.toArray,w,?_,Below.refl _ _,.ag h3 h4 h5⟩;rw[<-h3] at hld;simp[execOp,hop,h1,Instr.loadAt,Instr.sureAddr,loadVar,hA,hn,hld,Result.andThen])
end
end Go.Proofs.YtjpbmbgincdjaaaGreatDoor
