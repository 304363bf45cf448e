/- A part of the proof: R1 R2 Trim Of Compare. -/
import Derived.Lib.IndexBytes
import Derived.Test.YtimokmplkpbmdaaGreatDoorProg
import Derived.Test.YtimokmplkpbmdaaGreatDoorQ01
set_option linter.all false
set_option maxRecDepth 100000
set_option maxHeartbeats 0
namespace Go.Proofs.YtimokmplkpbmdaaGreatDoor
open Go.RowKit
def I (xs:List Nat):List Value:=xs.map fun n:Nat=>.int .i64 (n:Int)
theorem iY (xs:List Nat):(I xs).length=xs.length:=by simp[I]
theorem KT (xs:List Nat) (i:Nat) (h:i<(I xs).length):(I xs)[i]=.int .i64 (xs.getD i 0:Nat):=by
 simp only[I,List.getElem_map]
 rw[List.getD_eq_getElem?_getD,List.getElem?_eq_getElem (by simpa [I] using h)];rfl
theorem VD (xs:List Nat) (n:Nat):(I xs).take n=I (xs.take n):=by simp[I,List.map_take]
theorem jJ (xs ys:List Nat):I (xs++ys)=I xs++I ys:=by simp[I]
theorem Rd.i {w:World} {A:Option Addr} {xs:List Nat} (h:Rd w A (I xs)) {k:Nat} (hk:k<xs.length):
  ∃b off,A=some ⟨b,off,none⟩/\b<w.heap.size/\w.cell? ⟨b,off+k,none⟩=some (.int .i64 (xs.getD k 0:Nat)):=by
 obtain⟨b,off,e,hb,hc⟩:=h.at_ (k:=k) (by rw[iY];exact hk);refine⟨b,off,e,hb,?_⟩;rw[hc k (by rw[iY];exact hk),KT]
theorem gQ:(Tryz.prog.info? 3).map (fun i=>(i.zero,i.size,i.bytes))=some (some (.int .i64 0),1,8):=by kernel_rfl
structure iZ (w:World) (A:Option Addr) (len cap:Nat) (n:Nat):Prop where
 le:len<=cap
 max:cap<=maxLen
 digits:∃xs:List Nat,xs.length=len/\Rd w A (I xs)/\Canon (2 ^ 24) xs/\val (2 ^ 24) xs=n
theorem KU (j:Nat):(2 ^ 24) ^ j=256 ^ (3*j):=by
 rw[show (2:Nat) ^ 24=256 ^ 3 from rfl,<-Nat.pow_mul]
theorem iZ.ig {w:World} {A:Option Addr} {len cap n K:Nat} (h:iZ w A len cap n) (hn:n<256 ^ K):3*len<=K+2:=by
 obtain⟨_,_,xs,e,_,c,v⟩:=h;by_cases h0:xs=[]
 ·subst h0;simp at e;omega
 ·have:=c.ge h0;rw[KU,v] at this;have:=(Nat.pow_lt_pow_iff_right (a:=256) (by omega)).1 (Nat.lt_of_le_of_lt this hn);omega
theorem iZ.below {w w':World} {A:Option Addr} {len cap n:Nat} (h:iZ w A len cap n) (hb:Below w.heap.size w w'):iZ w' A len cap n:=by
 obtain⟨l,m,xs,e,r,c,v⟩:=h;exact⟨l,m,xs,e,r.below hb,c,v⟩
theorem iZ.zero {w:World} {A:Option Addr} {len cap n:Nat} (h:iZ w A len cap n):len=0↔n=0:=by
 obtain⟨_,_,xs,e,_,c,v⟩:=h;rw[<-v,c.val_zero (by omega),<-e,List.length_eq_zero_iff]
theorem iZ.kE {w:World} {A:Option Addr} {len cap:Nat} {xs:List Nat} (hlen:xs.length=len) (hl:len<=cap) (hm:cap<=maxLen) (hr:Rd w A (I xs)) (hd:∀x∈xs,x<2 ^ 24):
  iZ w A (trimLen xs len) cap (val (2 ^ 24) xs):=by
 subst hlen;refine⟨Nat.le_trans (trimLen_le _ _) hl,hm,jE xs,lW xs,?_,tN _ _ hd,qA _ _⟩;unfold jE;rw[<-VD];exact hr.take _
theorem BD (A:Option Addr) (len cap:Nat) (xs:List Nat) (w:World) (hlen:xs.length=len) (hl:len<=cap) (hm:len<=maxLen) (hr:Rd w A (I xs)):
  Calls Tryz.prog 220 #[.slice A len cap] w fun e w'=>e=.returned (.slice A (trimLen xs len) cap)/\w=w':=by
 unfold maxLen at hm;have HR:=zH hr;have HL:=zH hlen;clear hr hlen;go_enter Tryz.func220,Tryz.ntmps220;go_wp2
 go_loop [0] (fun v=>∃k:Nat,k<=len/\v=.slice A k cap/\Hid (trimLen xs k=trimLen xs len)) (fun v=>match v with|.slice _ k _=>k|_=>0)
 case atStart=>exact⟨len,by omega,rfl,rfl⟩
 case round=>
  obtain⟨k,hk,rfl,he⟩:=hrel;by_cases hk0:0<k
  ·obtain⟨k,rfl⟩:∃j,k=j+1:=⟨k-1,by omega⟩
   obtain⟨b,off,rfl,hb,hcell⟩:=HR.out.i (k:=k) (by rw[HL.out];omega);have HE:Hid (trimLen xs (k+1)=if xs.getD k 0=0 then trimLen xs k else k+1):=rfl;by_cases hz:xs.getD k 0=0
   ·have HZ:=zH hz;rw[hz] at hcell;clear hz;go_wp2
    go_round
    case rel=>exact⟨k,by omega,rfl,by rw[<-he.out,HE.out,if_pos HZ.out];rfl⟩
    case measure=>simp
   ·have HZ:=zH hz;have hz':((xs.getD k 0:Nat):Int)≠0:=by omega
    clear hz;generalize xs.getD k 0=x at*;go_wp2;go_ret;exact⟨by rw[<-he.out,HE.out,if_neg HZ.out];rfl,rfl⟩
  ·obtain rfl:k=0:=by omega
   go_wp2;go_ret;exact⟨by rw[<-he.out];rfl,rfl⟩
theorem Eb (l:List UInt8) (k:Nat) (hk:k<=l.length) (h:∀i,i<k->l.getD i 0=0) (hs:k=l.length∨l.getD k 0≠0):l.drop k=og l:=by
 unfold og
 induction k generalizing l with
 |zero=>
  cases l with
  |nil=>rfl
  |cons c l=>
   have:c≠0:=by rcases hs with hs|hs;simp at hs;simpa using hs
   rw[List.dropWhile_cons_of_neg (by simpa using this)];rfl
 |succ k ih=>
  cases l with
  |nil=>simp at hk
  |cons c l=>
   have h0:c=0:=by simpa using h 0 (by omega)
   rw[List.dropWhile_cons_of_pos (by simpa using h0),List.drop_succ_cons];exact ih l (by simpa using hk) (fun i hi=>by simpa using h (i+1) (by omega)) (by simpa using hs)
theorem Jr (s:ByteArray) (k:Nat) (h:(s.extract k s.size).data.toList=og s.data.toList):s.extract k s.size=aC (ay s):=by
 apply ByteArray.ext;apply Array.toList_inj.1;rw[h,Bz];rfl
theorem fZ (s:ByteArray) (w:World) (hs:s.size<=1099511627776):
  Calls Tryz.prog 97 #[.string s] w fun e w'=>e=.returned (.string (aC (ay s)))/\w=w':=by
 go_enter Tryz.func97,Tryz.ntmps97;go_wp2
 go_loop [3] (fun v=>∃k:Nat,k<=s.size/\v=.int .i64 k/\Hid (∀i,i<k->s.data.toList.getD i 0=0)) (fun v=>s.size-(intOf v).toNat)
 case atStart=>exact⟨0,by omega,rfl,fun i hi=>absurd hi (by omega)⟩
 case round=>
  obtain⟨k,hk,rfl,hz⟩:=hrel;by_cases hlt:k<s.size
  ·have he:s.data.toList.getD k 0=s[k]:=by rw[getD_lt (by simpa using hlt)];simp;rfl
   by_cases hc:s[k]=0
   ·have hc':(s[k].toNat:Int)=0:=by rw[hc];rfl
    have HE:=zH (he.trans hc);clear he hc;go_wp2
    go_round
    case rel=>
     refine⟨k+1,by omega,by go_num,?_⟩;intro i hi;rcases Nat.lt_or_ge i k with h|h
     ·exact hz.out i h
     ·obtain rfl:i=k:=by omega
      exact HE.out
    case measure=>simp[intOf]<;>omega
   ·have hc':(s[k].toNat:Int)≠0:=by
     intro h;exact hc (UInt8.toNat_inj.1 (by simp;omega))
    have HE:Hid (s.data.toList.getD k 0≠0):=by show _≠_;rw[he];exact hc
    clear he hc;go_wp2;go_ret;refine⟨?_,rfl⟩;rw[<-Jr s k (by rw[Lib.extract_to_end];exact Eb _ _ (by simp;omega) hz.out (.inr HE.out))];rfl
  ·obtain rfl:k=s.size:=by omega
   go_wp2;go_ret;refine⟨?_,rfl⟩;have e:=Jr s s.size (by rw[Lib.extract_to_end];exact Eb _ _ (by simp) hz.out (.inl (by simp)));rw[<-e,show s.extract s.size s.size=ByteArray.empty from by simp];rfl
theorem RS (l:List UInt8) (e:Nat) (os:List Nat) (he:e<=l.length) (hlen:3*os.length+e=l.length) (hv:val (2 ^ 24) os=vb (l.drop e)) (h3:3<=e):
  val (2 ^ 24) (os++[vb ((l.drop (e-3)).take 3)])=vb (l.drop (e-3)):=by
 have e1:l.drop (e-3)=(l.drop (e-3)).take 3++l.drop e:=by
  have:=(List.take_append_drop 3 (l.drop (e-3))).symm;rwa[List.drop_drop,show e-3+3=e from by omega] at this
 rw[fQ,hv,e1,nZ,KU,<-e1,List.length_drop,show l.length-e=3*os.length from by omega,Nat.mul_comm,Nat.add_comm]
theorem RU (l:List UInt8) (e:Nat) (os:List Nat) (he:e<=l.length) (hlen:3*os.length+e=l.length) (hv:val (2 ^ 24) os=vb (l.drop e)):
  val (2 ^ 24) (os++[vb (l.take e)])=vb l:=by
 have e1:vb l=vb (l.take e++l.drop e):=by rw[List.take_append_drop]
 rw[fQ,hv,e1,nZ,KU,List.length_drop,show l.length-e=3*os.length from by omega,Nat.mul_comm,Nat.add_comm]
def yM (w:World) (n:Nat) (e:Ending) (w':World):Prop:=
 ∃A len cap,e=.returned (.slice A len cap)/\iZ w' A len cap n/\Below w.heap.size w w'
theorem adr (c:UInt8) (l:List UInt8) (h:c≠0):0<vb (c::l):=by
 have:=F6 c l h;have:0<256 ^ l.length:=Nat.pow_pos (by omega);omega
theorem Ec (L:List UInt8) (k:Nat) (hk:0<k) (hL:uD L) (hne:L≠[]):0<vb (L.take k):=by
 obtain⟨c,l,rfl⟩:=List.exists_cons_of_ne_nil hne;have:=hL hne;obtain⟨j,rfl⟩:∃j,k=j+1:=⟨k-1,by omega⟩
 rw[List.take_succ_cons];exact adr c _ (by simpa using this)
theorem vZ (s:ByteArray) (w:World) (hs:s.size<=1073741824):
  Calls Tryz.prog 99 #[.string s] w (yM w (ay s)):=by
 go_enter Tryz.func99,Tryz.ntmps99;go_wp2_with fail;refine (fZ s _ (by omega)).mono ?_;rintro e w' ⟨rfl,rfl⟩;obtain⟨t,ht⟩:=zF (aC (ay s));have htv:ay t=ay s:=by rw[<-ht,bJ]
 have htr:uD t.data.toList:=by rw[<-ht];exact sD _
 have hts:t.size<=s.size:=by
  have h1:(nb (ay s)).length=t.size:=by rw[<-ht];rfl
  have h2:=fF s;rcases Nat.eq_zero_or_pos t.size with h0|h0
  ·omega
  ·have h3:nb (ay s)≠[]:=by intro e;rw[e] at h1;simp at h1;omega
   obtain⟨c,l,hcl⟩:=List.exists_cons_of_ne_nil h3;have h4:=sD (ay s) h3;have h5:=F6 c l (by simpa [hcl] using h4);rw[<-hcl,tX] at h5;have h6:=(Nat.pow_lt_pow_iff_right (a:=256) (by omega)).1 (Nat.lt_of_le_of_lt h5 h2);rw[hcl] at h1;simp at h1;omega
 have HT:=zH htv;have HR:=zH htr;rw[ht];clear ht htv htr;obtain⟨L,hL⟩:=zF t.data.toList;have Ed:L.length=t.size:=by rw[<-hL];simp
 have HL:=zH hL;have qQ:=zH Ed;clear hL Ed;obtain⟨B,hB⟩:=zE w.heap.size;have HB:=zH hB;have hBw:B<=w.heap.size:=by omega
 clear hB;go_wp2_with fail
 go_loopw [4,3] (fun ev ov wr=>∃(x:Int) (os:List Nat),x<=t.size/\-3<=x/\ev=.int .i64 x/\(0<x->3*(os.length:Int)+x=t.size)/\os.length<=t.size/\Hid (val (2 ^ 24) os=vb (L.drop x.toNat))/\Hid (x<=0->∀h:os≠[],os.getLast h≠0)/\
   Hid (∀x∈os,x<2 ^ 24)/\Hid (wr.ownsRow B 3 1 ov os.length (I os))/\Below B w wr/\B<=wr.heap.size) (fun e _ _=>(intOf e).toNat)
 case atStart=>
  refine⟨t.size,[],Int.le_refl _,by omega,rfl,by intro _;simp,by simp,?_,?_,by show ∀x∈_,_;simp,World.ownsRow_nil _ _ _ _,Below.refl _ _,hBw⟩
  ·show _=_;rw[List.drop_eq_nil_of_le (by rw[qQ.out];omega)];rfl
  ·exact fun _ h=>absurd rfl h
 case round=>
  obtain⟨x,os,hx1,hx2,rfl,hlen,hol,hv,hlast,hlt,hown,hbw,hBs⟩:=hrel;by_cases hx0:0<x
  ·obtain⟨e,rfl⟩:=Int.eq_ofNat_of_zero_le (show 0<=x by omega)
   have hcase:(∃st:Nat,(e:Int)-3=st)∨e<3:=by
    rcases Nat.lt_or_ge e 3 with h|h
    ·exact .inr h
    ·exact .inl ⟨e-3,by omega⟩
   obtain⟨wo,rfl⟩:∃wo:World,wo=wr:=⟨_,rfl⟩
   have bC:=zH (And.intro hbw hBs);clear hbw hBs
   have yN:Hid (∀st j,st+j<t.size->vb ((L.drop st).take (j+1))=vb ((L.drop st).take j)*256+(L.getD (st+j) 0).toNat):=by
    intro st j hj;rw[List.take_succ_eq_append_getElem (by simp;rw[qQ.out];omega),nZ,List.getElem_drop,getD_lt (by rw[qQ.out];omega)];simp[vb]
   have hbd:Hid (∀st j,vb ((L.drop st).take j)<256 ^ j):=by
    intro st j;have h1:=tV ((L.drop st).take j);have h2:=Nat.pow_le_pow_right (n:=256) (by omega) (List.length_take_le j (L.drop st));omega
   have hget:Hid (∀k (hk:k<t.size),(L.getD k 0).toNat=(t[k]'hk).toNat):=by
    intro k hk;have:L.getD k 0=t[k]'hk:=by rw[getD_lt (by rw[qQ.out];exact hk)];simp[<-HL.out];rfl
    rw[this]
   rcases hcase with⟨st,hst⟩|he3
   ·go_wp2_with fail;have hT0:(0<e)=True:=eq_true (by omega);simp only[hT0,decide_true]
    clear hT0
    go_loop [6,5] (fun kv dv=>∃j:Nat,j<=3/\kv=.int .i64 ((st:Int)+j)/\dv=.int .i64 (vb ((L.drop st).take j):Nat)) (fun kv _=>(e-intOf kv).toNat)
    case atStart=>exact⟨0,by omega,by simp,by simp[vb]⟩
    case round=>
     obtain⟨j,hj,rfl,rfl⟩:=hrel;have hd:=hbd.out st j;by_cases hj3:j<3
     ·have hlt2:st+j<t.size:=by omega
      have HC:=zH (yN.out st j hlt2);have HG:=zH (hget.out (st+j) hlt2);have hcb:t[st+j].toNat<256:=t[st+j].toNat_lt;have hd2:vb ((L.drop st).take j)<16777216:=Nat.lt_of_lt_of_le hd (by have:=Nat.pow_le_pow_right (n:=256) (by omega) (show j<=3 by omega);omega);clear hd;generalize vb ((L.drop st).take j)=d at*;go_wp2
      go_round
      case rel=>
       refine⟨j+1,by omega,by go_num,?_⟩;rw[HC.out,HG.out];go_num
      case measure=>simp[intOf]<;>omega
     ·obtain rfl:j=3:=by omega
      have hd2:vb ((L.drop st).take 3)<16777216:=hd;clear hd;obtain⟨d,hdd⟩:=zF (vb ((L.drop st).take 3));have HD:=zH hdd;rw[hdd] at hd2⊢;clear hdd;go_wp2_with (at_builtin;go_must (refine bP wo #[.int .i64 (d:Int)] rfl _ _ 108 rfl B 3 (.int .i64 0) 1 8 1 Tryz.underlying108 gQ rfl (by decide) u3 os.length (I os) rfl hown.out rfl ?_ ?_ ?_ ?_ ?_ ?_))
      any_goals first|rfl|(unfold maxLen;omega)|omega
      ·exact bC.out.2
      intro v' w' hown' hb';have HOWN:=zH hown';clear hown';go_wp2
      go_roundw
      case rel=>
       refine⟨(st:Int),os++[d],by omega,by omega,by first|rfl|(congr 1<;>omega),?_,by simp;omega,?_,?_,fV hlt.out (by omega),?_,bC.out.1.trans hb',Nat.le_trans bC.out.2 hb'.size⟩
       ·intro h;simp;omega
       ·show _=_;have h1:=RS L e os (by rw[qQ.out];omega) (by rw[qQ.out];omega) hv.out (by omega);rw[show e-3=st from by omega,HD.out] at h1;rw[h1];simp
       ·show _->_;intro hx' hne;rw[List.getLast_append_right (by simp)];have h1:st=0:=by omega
        have h2:=Ec L 3 (by omega) (by rw[<-HL.out];exact HR.out) (by intro h;have:=qQ.out;rw[h] at this;simp at this;omega);have h3:=HD.out;rw[h1,List.drop_zero] at h3;simp;omega
       ·show World.ownsRow _ _ _ _ _ _ _;rw[jJ,List.length_append];exact HOWN.out
      case measure=>simp[intOf]<;>omega
   ·go_wp2_with fail;have hT0:(0<e)=True:=eq_true (by omega);simp only[hT0,decide_true]
    clear hT0
    go_loop [6,5] (fun kv dv=>∃j:Nat,j<=e/\kv=.int .i64 j/\dv=.int .i64 (vb ((L.drop 0).take j):Nat)) (fun kv _=>(e-intOf kv).toNat)
    case atStart=>exact⟨0,by omega,rfl,by simp[vb]⟩
    case round=>
     obtain⟨j,hj,rfl,rfl⟩:=hrel;have hd:=hbd.out 0 j;by_cases hj3:j<e
     ·have hlt2:j<t.size:=by omega
      have HC:=zH (yN.out 0 j (by omega));have HG:=zH (hget.out j hlt2);have hcb:t[j].toNat<256:=t[j].toNat_lt;have hd2:vb ((L.drop 0).take j)<16777216:=Nat.lt_of_lt_of_le hd (by have:=Nat.pow_le_pow_right (n:=256) (by omega) (show j<=3 by omega);omega);clear hd;generalize vb ((L.drop 0).take j)=d at*;go_wp2
      go_round
      case rel=>
       refine⟨j+1,by omega,by go_num,?_⟩;rw[HC.out,Nat.zero_add,HG.out];go_num
      case measure=>simp[intOf]<;>omega
     ·obtain rfl:j=e:=by omega
      have hd2:vb ((L.drop 0).take j)<16777216:=Nat.lt_of_lt_of_le hd (by have:=Nat.pow_le_pow_right (n:=256) (by omega) (show j<=3 by omega);omega);clear hd;obtain⟨d,hdd⟩:=zF (vb ((L.drop 0).take j));have HD:=zH hdd;rw[hdd] at hd2⊢;clear hdd;go_wp2_with (at_builtin;refine bP wo #[.int .i64 (d:Int)] rfl _ _ 108 rfl B 3 (.int .i64 0) 1 8 1 Tryz.underlying108 gQ rfl (by decide) u3 os.length (I os) rfl hown.out rfl ?_ ?_ ?_ ?_ ?_ ?_)
      any_goals first|rfl|(unfold maxLen;omega)|omega
      ·exact bC.out.2
      intro v' w' hown' hb';have HOWN:=zH hown';clear hown';go_wp2
      go_roundw
      case rel=>
       refine⟨((j:Int)-3),os++[d],by omega,by omega,by first|rfl|(congr 1<;>omega),?_,by simp;omega,?_,?_,fV hlt.out (by omega),?_,bC.out.1.trans hb',Nat.le_trans bC.out.2 hb'.size⟩
       ·intro h;simp;omega
       ·show _=_;have h1:=RU L j os (by rw[qQ.out];omega) (by rw[qQ.out];omega) hv.out;have h3:=HD.out;rw[List.drop_zero] at h3;rw[h3] at h1;rw[h1,show ((j:Int)-3).toNat=0 from by omega];rfl
       ·show _->_;intro hx' hne;rw[List.getLast_append_right (by simp)];have h2:=Ec L j (by omega) (by rw[<-HL.out];exact HR.out) (by intro h;have:=qQ.out;rw[h] at this;simp at this;omega);have h3:=HD.out;rw[List.drop_zero] at h3;simp;omega
       ·show World.ownsRow _ _ _ _ _ _ _;rw[jJ,List.length_append];exact HOWN.out
      case measure=>simp[intOf]<;>omega
  ·have hz:Hid (val (2 ^ 24) os=vb L):=by
    have:=hv.out;rw[show x.toNat=0 from by omega] at this;exact this
   obtain⟨A,cap,rfl,h1,h2,h3,h4⟩:=bY hown.out;have H3:=zH h3;clear hown h3;go_wp2;go_ret;refine⟨A,os.length,cap,rfl,⟨h1,h2,os,rfl,H3.out,⟨hlt.out,hlast.out (by omega)⟩,?_⟩,by rw[<-HB.out];exact hbw⟩;rw[hz.out,<-HT.out,<-HL.out];rfl
theorem jK (A:Option Addr) (len cap:Nat) (xs:List Nat) (w:World) (hlen:xs.length=len) (hl:len<=cap) (hm:len<=maxLen) (hr:Rd w A (U xs)):
  Calls Tryz.prog 188 #[.slice A len cap] w fun e w'=>e=.returned (.slice A (trimLen xs len) cap)/\w=w':=by
 unfold maxLen at hm;have HR:=zH hr;have HL:=zH hlen;clear hr hlen;go_enter Tryz.func188,Tryz.ntmps188;go_wp2
 go_loop [0] (fun v=>∃k:Nat,k<=len/\v=.slice A k cap/\Hid (trimLen xs k=trimLen xs len)) (fun v=>match v with|.slice _ k _=>k|_=>0)
 case atStart=>exact⟨len,by omega,rfl,rfl⟩
 case round=>
  obtain⟨k,hk,rfl,he⟩:=hrel;by_cases hk0:0<k
  ·obtain⟨k,rfl⟩:∃j,k=j+1:=⟨k-1,by omega⟩
   obtain⟨b,off,rfl,hb,hcell⟩:=HR.out.u (k:=k) (by rw[HL.out];omega);have HE:Hid (trimLen xs (k+1)=if xs.getD k 0=0 then trimLen xs k else k+1):=rfl;by_cases hz:xs.getD k 0=0
   ·have HZ:=zH hz;rw[hz] at hcell;clear hz;go_wp2
    go_round
    case rel=>exact⟨k,by omega,rfl,by rw[<-he.out,HE.out,if_pos HZ.out];rfl⟩
    case measure=>simp
   ·have HZ:=zH hz;have hz':((xs.getD k 0:Nat):Int)≠0:=by omega
    clear hz;generalize xs.getD k 0=x at*;go_wp2;go_ret;exact⟨by rw[<-he.out,HE.out,if_neg HZ.out];rfl,rfl⟩
  ·obtain rfl:k=0:=by omega
   go_wp2;go_ret;exact⟨by rw[<-he.out];rfl,rfl⟩
theorem oq:(Tryz.prog.info? 218).map (fun i=>(i.zero,i.size,i.bytes))=some (some (.int .u32 0),1,4):=by kernel_rfl
structure eu (w:World) (A:Option Addr) (len cap:Nat) (n:Nat):Prop where
 le:len<=cap
 max:cap<=maxLen
 digits:∃xs:List Nat,xs.length=len/\Rd w A (U xs)/\Canon (2 ^ 32) xs/\val (2 ^ 32) xs=n
def wE (w:World) (n:Nat) (e:Ending) (w':World):Prop:=
 ∃A len cap,e=.returned (.slice A len cap)/\eu w' A len cap n/\Below w.heap.size w w'
theorem YR (s:ByteArray) (k:Nat) (h:k<s.size):
  vb (s.data.toList.drop (s.size-(k+1)))=(s[s.size-1-k]'(by omega)).toNat*256 ^ k+vb (s.data.toList.drop (s.size-k)):=by
 have:=ace s.data.toList k (by simpa using h);simp only[Array.length_toList] at this;rw[getD_lt (by simp;omega)] at this;exact this
theorem aco (m N k:Nat) (c:UInt8) (hN:N<256 ^ k) (hk:k / 4<m):
  (U (eY m N)).set (k / 4) (.int .u32 (bits .or .u32 (((eY m N).getD (k / 4) 0:Nat):Int) (IntKind.u32.wrap (IntKind.u32.wrap (c.toNat:Int)*2 ^ (8*((k:Int) % 4)).toNat))))=U (eY m (c.toNat*256 ^ k+N)):=by
 have hc:=c.toNat_lt;have hb:=FW m N k hN hk;rw[Vr m N c.toNat k hN hc hk];generalize (eY m N).getD (k / 4) 0=x at*;have e0:(8*((k:Int) % 4)).toNat=8*(k % 4):=by omega
 have e1:(256:Nat) ^ (k % 4)=2 ^ (8*(k % 4)):=by rw[Nat.pow_mul]
 have h3:k % 4=0∨k % 4=1∨k % 4=2∨k % 4=3:=by omega
 have hlt:c.toNat*256 ^ (k % 4)<4294967296:=by rcases h3 with h|h|h|h<;>rw[h]<;>omega
 have hx:x<4294967296:=by
  refine Nat.lt_of_lt_of_le hb ?_;rcases h3 with h|h|h|h<;>rw[h]<;>decide
 have e2:IntKind.u32.wrap (IntKind.u32.wrap (c.toNat:Int)*2 ^ (8*((k:Int) % 4)).toNat)=((c.toNat*256 ^ (k % 4):Nat):Int):=by
  rw[e0,IntWalk.u32_in (c.toNat:Int) (by omega),show (2:Int) ^ (8*(k % 4))=((256 ^ (k % 4):Nat):Int) from by rw[e1];simp];rw[<-Int.natCast_mul,IntWalk.u32_in _ (by omega)]
 rw[e2,u32_or_nat _ _ hx hlt,e1,qB _ _ _ (by rw[<-e1];exact hb)];simp[U,List.map_set]
theorem ads (s:ByteArray) (w:World) (hs:s.size<=1099511627776):
  Calls Tryz.prog 156 #[.string s] w (wE w (vb s.data.toList)):=by
 go_enter Tryz.func156,Tryz.ntmps156;go_wp2_with (at_make;refine dO _ rfl _ _ 215 rfl 218 (.int .u32 0) 4 Tryz.underlying215 oq rfl _ _ _ _ ((s.size+3) / 4) rfl rfl ?_ ?_ (by omega) (by omega) ?_)
 ·omega
 ·omega
 intro w1 hblk hb1;obtain⟨G,HG⟩:∃G,Hid (G=w.heap.size):=⟨_,rfl⟩
 rw[<-HG.out] at hblk hb1⊢;go_wp2
 go_loopw [13] (fun i wr=>∃k:Nat,k<=s.size/\i=.int .i64 k/\aj wr G 218 (U (eY ((s.size+3) / 4) (vb (s.data.toList.drop (s.size-k)))))/\Below G w wr) (fun i _=>s.size-(intOf i).toNat)
 case atStart=>exact⟨0,by omega,rfl,by rw[show s.data.toList.drop (s.size-0)=[] from by simp,show vb []=0 from rfl,Vq];simpa [U] using hblk,hb1⟩
 case round=>
  obtain⟨k,hk,rfl,hbk,hbw⟩:=hrel;by_cases hlt:k<s.size
  ·have hc:=hbk.cell (i:=k / 4) (by rw[fJ,ji];omega);rw[vI] at hc
   have HN:Hid (vb (s.data.toList.drop (s.size-k))<256 ^ k):=by
    have:=tV (s.data.toList.drop (s.size-k));rwa[List.length_drop,show s.data.toList.length-(s.size-k)=k from by simp;omega] at this
   obtain⟨x,HX⟩:=zF ((eY ((s.size+3) / 4) (vb (s.data.toList.drop (s.size-k)))).getD (k / 4) 0);rw[HX] at hc;have Ee:=zH HX;clear HX;have hfz:=hbk.frozen (k / 4);clear hblk;go_wp2_with fail;have q1:IntKind.i64.wrap ((k:Int) / 4)=(k:Int) / 4:=IntWalk.i64_in _ (by omega);have q2:(0:Int)<=(k:Int) / 4:=by omega
   have q3:(k:Int) / 4<((s.size:Int)+3) / 4:=by omega
   have q4:((k:Int) / 4).toNat=k / 4:=by omega
   have r1:IntKind.i64.wrap ((s.size:Int)-1)=(s.size:Int)-1:=IntWalk.i64_in _ (by omega);have r2:IntKind.i64.wrap ((s.size:Int)-1-k)=(s.size:Int)-1-k:=IntWalk.i64_in _ (by omega);have r3:(0:Int)<=(s.size:Int)-1-k:=by omega
   have r4:(s.size:Int)-1-k<s.size:=by omega
   have r5:((s.size:Int)-1-k).toNat=s.size-1-k:=by omega
   have r6:(k:Int)<=(s.size:Int)-1:=by omega
   have m0:(k:Int).tmod 4=(k:Int) % 4:=Int.tmod_eq_emod_of_nonneg (by omega);have m1:IntKind.i64.wrap (8*((k:Int) % 4))=8*((k:Int) % 4):=IntWalk.i64_in _ (by omega);have m2:(0:Int)<=8*((k:Int) % 4):=by omega
   refine wp_region_still_tail 19 (by kernel_rfl) (by kernel_rfl) ?_;simp only[List.take_succ_cons,List.take_zero,List.drop_succ_cons,List.drop_zero]
   repeat still_step
   refine wpStill_nil ?_;go_wp2
   go_roundw
   case rel=>
    refine⟨k+1,by omega,by go_num,?_,?_⟩
    ·have e:=aco ((s.size+3) / 4) (vb (s.data.toList.drop (s.size-k))) k s[s.size-1-k] HN.out (by omega);rw[YR s k hlt,<-e,Ee.out];exact (hbk.drewN 1).set (k / 4) _
    ·exact (below_drewN hbw 1).setCell (Nat.le_refl _) _
   case measure=>simp[intOf];omega
  ·obtain rfl:k=s.size:=by omega
   go_wp2_with fail;have hv:vb (s.data.toList.drop (s.size-s.size))=vb s.data.toList:=by simp
   rw[hv] at hbk;have hbk:=zH hbk;refine (jK _ _ _ (eY ((s.size+3) / 4) (vb s.data.toList)) _ (ji _ _) (Nat.le_refl _) (by unfold maxLen;omega) hbk.out.rd).mono ?_;rintro e w2 ⟨rfl,rfl⟩;go_wp2;go_ret;have HG':=HG.out;subst HG';refine⟨_,_,_,rfl,⟨Nat.le_trans (trimLen_le _ _) (Nat.le_refl _),by unfold maxLen;omega,jE (eY ((s.size+3) / 4) (vb s.data.toList)),?_,?_,?_,?_⟩,hbw⟩
   ·rw[lW,ji]
   ·unfold jE;rw[<-FV];exact hbk.out.rd.take _
   ·exact tN _ _ (Qi _ _)
   ·rw[qA,Lj];refine Nat.mod_eq_of_lt (Nat.lt_of_lt_of_le (tV _) ?_);rw[zL];exact Nat.pow_le_pow_right (by omega) (by simp;omega)
theorem yO (os:List Nat) (n k y:Nat) (hk:os.length=k) (h:k<n):
  (U (os++List.replicate (n-k) 0)).set k (.int .u32 (y:Int))=U ((os++[y])++List.replicate (n-(k+1)) 0):=by
 rw[<-Ll os n k 0 y hk h];simp[U,List.map_set]
theorem eu.ig {w:World} {A:Option Addr} {len cap n K:Nat} (h:eu w A len cap n) (hn:n<256 ^ K):4*len<=K+3:=by
 obtain⟨_,_,xs,e,_,c,v⟩:=h;by_cases h0:xs=[]
 ·subst h0;simp at e;omega
 ·have:=c.ge h0;rw[zL,v] at this;have:=(Nat.pow_lt_pow_iff_right (a:=256) (by omega)).1 (Nat.lt_of_le_of_lt this hn);omega
theorem eu.below {w w':World} {A:Option Addr} {len cap n:Nat} (h:eu w A len cap n) (hb:Below w.heap.size w w'):eu w' A len cap n:=by
 obtain⟨l,m,xs,e,r,c,v⟩:=h;exact⟨l,m,xs,e,r.below hb,c,v⟩
theorem eu.zero {w:World} {A:Option Addr} {len cap n:Nat} (h:eu w A len cap n):len=0↔n=0:=by
 obtain⟨_,_,xs,e,_,c,v⟩:=h;rw[<-v,c.val_zero (by omega),<-e,List.length_eq_zero_iff]
theorem eu.kE {w:World} {A:Option Addr} {len cap:Nat} {xs:List Nat} (hlen:xs.length=len) (hl:len<=cap) (hm:cap<=maxLen) (hr:Rd w A (U xs)) (hd:∀x∈xs,x<2 ^ 32):
  eu w A (trimLen xs len) cap (val (2 ^ 32) xs):=by
 subst hlen;refine⟨Nat.le_trans (trimLen_le _ _) hl,hm,jE xs,lW xs,?_,tN _ _ hd,qA _ _⟩;unfold jE;rw[<-FV];exact hr.take _
theorem nI (A A':Option Addr) (len cap len' cap' n m:Nat) (w:World) (h1:eu w A len cap n) (h2:eu w A' len' cap' m):
  Calls Tryz.prog 184 #[.slice A len cap,.slice A' len' cap'] w fun e w'=>e=.returned (.int .i64 (iE n m))/\Below w.heap.size w w':=by
 obtain⟨l1,m1,xs,e1,r1,c1,v1⟩:=h1;obtain⟨l2,m2,ys,e2,r2,c2,v2⟩:=h2;unfold maxLen at m1 m2;have E1:=zH e1;have E2:=zH e2;have V1:=zH v1;have V2:=zH v2;have C1:=zH c1;have C2:=zH c2;have R1:=zH r1;have R2:=zH r2;clear e1 e2 v1 v2 c1 c2 r1 r2;rcases Nat.lt_trichotomy len len' with hl|hl|hl
 ·go_enter Tryz.func184,Tryz.ntmps184;go_wp2;go_ret;refine⟨?_,Below.refl _ _⟩;rw[<-V1.out,<-V2.out,yL (C1.out.wB (by omega) C2.out (by rw[E1.out,E2.out];exact hl))];rfl
 ·subst hl;go_enter Tryz.func184,Tryz.ntmps184;go_wp2
  go_loopw [5] (fun i wr=>∃k:Nat,k<=len/\i=.int .i64 ((k:Int)-1)/\Hid (xs.drop k=ys.drop k)/\∃d,wr=w.drewN d) (fun i _=>(intOf i+1).toNat)
  case atStart=>exact⟨len,by omega,by go_num,by show _=_;rw[List.drop_eq_nil_of_le (by rw[E1.out];omega),List.drop_eq_nil_of_le (by rw[E2.out];omega)],0,rfl⟩
  case round=>
   obtain⟨k,hk,rfl,hd,d,rfl⟩:=hrel;by_cases hk0:0<k
   ·obtain⟨k,rfl⟩:∃j,k=j+1:=⟨k-1,by omega⟩
    obtain⟨b,off,rfl,hb,hc⟩:=R1.out.u (k:=k) (by rw[E1.out];omega);obtain⟨b',off',rfl,hb',hc'⟩:=R2.out.u (k:=k) (by rw[E2.out];omega);have D1:=zH (fun hlt=>qP (2 ^ 32) xs ys C1.out.lt k (by rw[E1.out];omega) (by rw[E2.out];omega) hd.out hlt);have D2:=zH (fun hlt=>qP (2 ^ 32) ys xs C2.out.lt k (by rw[E2.out];omega) (by rw[E1.out];omega) hd.out.symm hlt);have D3:=zH (fun he=>Bq xs ys k (by rw[E1.out];omega) (by rw[E2.out];omega) hd.out he);generalize xs.getD k 0=x at*;generalize ys.getD k 0=y at*;have p1:(0:Int)<=(k:Int)+1-1:=by omega
    rcases Nat.lt_trichotomy x y with hxy|hxy|hxy
    ·have HX:=zH (D1.out hxy);go_wp2_with fail;go_quiet (fail);go_wp2;go_ret;exact⟨by rw[<-V1.out,<-V2.out,yL HX.out];rfl,(by repeat (first|exact Below.refl _ _|exact ak _ _ _|refine below_drewN ?_ _))⟩
    ·have HX:=zH (D3.out hxy);subst hxy;go_wp2_with fail;go_quiet (fail);go_wp2_with fail;go_quiet (fail);go_wp2
     go_roundw
     case rel=>exact⟨k,by omega,by first|rfl|go_num,HX.out,_,by first|rfl|(simp only[World.drewN_drewN];rfl)⟩
     case measure=>simp[intOf]<;>omega
    ·have HX:=zH (D2.out hxy);go_wp2_with fail;go_quiet (fail);go_wp2_with fail;go_quiet (fail);go_wp2;go_ret;exact⟨by rw[<-V1.out,<-V2.out,Dz HX.out];rfl,(by repeat (first|exact Below.refl _ _|exact ak _ _ _|refine below_drewN ?_ _))⟩
   ·obtain rfl:k=0:=by omega
    go_wp2;go_ret;refine⟨?_,ak _ _ _⟩;have:xs=ys:=by simpa using hd.out
    rw[<-V1.out,<-V2.out,this,Qj];rfl
 ·go_enter Tryz.func184,Tryz.ntmps184;go_wp2;go_ret;refine⟨?_,Below.refl _ _⟩;rw[<-V1.out,<-V2.out,Dz (C2.out.wB (by omega) C1.out (by rw[E1.out,E2.out];exact hl))];rfl
end Go.Proofs.YtimokmplkpbmdaaGreatDoor
