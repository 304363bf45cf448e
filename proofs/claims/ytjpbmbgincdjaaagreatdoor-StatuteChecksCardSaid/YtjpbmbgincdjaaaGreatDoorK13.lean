/- Part: Parse. -/
import Derived.Test.YtjpbmbgincdjaaaGreatDoorK12
set_option linter.all false
set_option maxRecDepth 100000
set_option maxHeartbeats 0
namespace Go.Proofs.YtjpbmbgincdjaaaGreatDoor
open Go.RowKit List Tryz
def rW (l:List UInt8):Bool:= !l.isEmpty&& !(decide (1<l.length)&&l.head?==some 48)&&l.all jS
def pY (x:Nat):Bool:=decide (x<48)||decide (57<x)
theorem UR (x:Nat) (w:World) (hx:x<=1114111):
  Calls prog 285 #[.int .i32 (x:Int)] w fun e w'=>e=.returned (.bool (pY x))/\w=w':=by
 have e:(decide ((x:Int)<48)||decide (57<(x:Int)))=pY x:=by
  unfold pY;rw[Bool.eq_iff_iff];simp only[Bool.or_eq_true,decide_eq_true_eq]
  omega
 rw[<-e];clear e;go_enter func285,ntmps285;go_wp2
 all_goals (go_ret;exact⟨rfl,rfl⟩)
theorem UU (s:ByteArray) (f pos:Nat) (hf:s.size<=pos+f):decide (0<=Lib.idxFuncFrom pY true s f pos)= !((s.data.toList.drop pos).all jS):=by
 induction f generalizing pos with
 |zero=>rw[drop_eq_nil_of_le (by simpa using hf)];rfl
 |succ f ih=>
  unfold Lib.idxFuncFrom;split
  ·next h=>
   rw[drop_eq_getElem_cons (by simpa using h),all_cons];have hb:s.data.toList[pos]'(by simpa using h)=s[pos]:=by simp;rfl
   rw[hb];rcases Nat.lt_or_ge (s[pos]).toNat 128 with ha|ha
   ·rw[decode_ascii s pos h ha];by_cases hd:jS s[pos]=true
    ·have:pY (s[pos]).toNat=false:=by simp only[jS,Bool.and_eq_true,decide_eq_true_eq] at hd;simp[pY]<;>omega
     rw[if_neg (by simp[this]),hd,ih _ (by omega)];rfl
    ·have hd':jS s[pos]=false:=by simpa using hd
     have:pY (s[pos]).toNat=true:=by simp only[jS,Bool.and_eq_false_iff,decide_eq_false_iff_not] at hd';simp[pY]<;>omega
     rw[if_pos this,hd'];simp<;>omega
   ·obtain⟨h1,h2⟩:=decode_high s pos h ha;have:pY (Utf8.decode s pos).1=true:=by simp[pY]<;>omega
    have hd':jS s[pos]=false:=by simp[jS]<;>omega
    rw[if_pos this,hd'];simp<;>omega
  ·next h=>rw[drop_eq_nil_of_le (by simpa using h)];rfl
theorem Gl (s:ByteArray):decide (0<=Lib.idxFunc pY true s)= !(s.data.toList.all jS):=by
 have:=UU s s.size 0 (by omega);rw[drop_zero] at this;exact this
theorem Ae (s:ByteArray) (w:World):
  Calls prog 284 #[.string s,.func (.func 285) #[] #[]] w fun e w'=>e=.returned (.bool !(s.data.toList.all jS))/\Below w.heap.size w w':=by
 rw[<-Gl];exact Tryz.strings_ContainsFunc_grows 285 #[] (enters_of func285 (by kernel_rfl) rfl) pY s w (fun W x hx _=>(UR x W hx).mono fun e w' ⟨h1,h2⟩=>⟨h1,h2 ▸ Below.refl _ _⟩)
def fZ (l:List UInt8):ByteArray × Bool:=if rW l then (aC (fU l),true) else (aC 0,false)
def yT (s:ByteArray) (w:World) (e:Ending) (w':World):Prop:=
 e=.returned (.tuple #[.string (fZ s.data.toList).1,.bool (fZ s.data.toList).2])/\Below w.heap.size w w'
theorem Qs (s:ByteArray) (w:World) (h:rW s.data.toList=false):
  Calls prog 245 #[.string s] w (yT s w):=by
 have HE:Hid (fZ s.data.toList=(aC 0,false)):=by show _=_;unfold fZ;rw[h];rfl
 by_cases h0:s.data.toList=[]
 ·have hs:s=⟨#[]⟩:=by
   obtain⟨⟨l⟩⟩:=s;simp at h0;rw[h0]
  subst hs;go_enter func245,ntmps245;go_wp2;go_ret2;exact⟨by rw[HE.out];rfl,Below.refl _ _⟩
 ·obtain⟨⟨l⟩⟩:=s;obtain⟨c,l,rfl⟩:=exists_cons_of_ne_nil h0;by_cases h1:0<l.length/\c=48
  ·obtain⟨h1,rfl⟩:=h1;clear h h0;go_enter func245,ntmps245;go_wp2;go_ret2;exact⟨by rw[HE.out];rfl,Below.refl _ _⟩
  ·have hall:(c::l).all jS=false:=by
    simp only[rW,Bool.and_eq_false_iff] at h;rcases h with (h|h)|h
    ·simp at h
    ·exfalso;simp at h;exact h1 ⟨h.1,h.2⟩
    ·exact h
   have HC:=zH (fun W=>Ae ⟨⟨c::l⟩⟩ W);simp only[hall] at HC;by_cases h2:0<l.length
   ·have hc:((((⟨⟨c::l⟩⟩:ByteArray)[0]'(by show 0<(c::l).length;simp)).toNat:Int)==48)=false:=by
     show ((c.toNat:Int)==48)=false;rw[beq_eq_false_iff_ne];intro e;exact h1 ⟨h2,UInt8.toNat_inj.1 (by simp;omega)⟩
    clear h h0 h1;go_enter func245,ntmps245;go_wp2_with fail;refine (HC.out _).mono ?_;rintro e w1 ⟨rfl,hb1⟩;go_wp2;go_ret2;exact⟨by rw[HE.out];rfl,hb1⟩
   ·obtain rfl:l=[]:=eq_nil_of_length_eq_zero (by omega);clear h h0 h1;go_enter func245,ntmps245;go_wp2_with fail;refine (HC.out _).mono ?_;rintro e w1 ⟨rfl,hb1⟩;go_wp2;go_ret2;exact⟨by rw[HE.out];rfl,hb1⟩
theorem yU (s:ByteArray) (h:0<s.size):s.toList.isEmpty=false:=by
 rw[ByteArray.toList_eq];obtain⟨⟨l⟩⟩:=s;cases l with
 |nil=>exact absurd h (by show ¬0<0;omega)
 |cons c l=>rfl
theorem fF.word {w:World} (r:Nat) (hr:r<4294967296) (hr0:0<r) {b:Nat} (hB:aj w b 231 [.int .u32 (r:Int)]):fF w (some ⟨b,0,none⟩) 1 1 r:=by
 refine⟨Nat.le_refl _,by unfold maxLen;omega,[r],rfl,hB.rd,⟨?_,?_⟩,by simp[val]⟩
 ·intro x hx;obtain rfl:x=r:=by simpa using hx
  exact hr
 ·intro h;simpa using (show r≠0 by omega)
theorem UW (g:Nat) (hg:0<g):∃n:Nat,((g:Int) % 9=0/\n=9∨¬((g:Int) % 9=0)/\(n:Int)=(g:Int) % 9)/\0<n/\n<=9/\n<=g/\(g-n) % 9=0/\(g % 9=0->n=9):=by
 by_cases h:g % 9=0
 ·exact⟨9,.inl ⟨by omega,rfl⟩,by omega,by omega,by omega,by omega,fun _=>rfl⟩
 ·exact⟨g % 9,.inr ⟨by omega,by omega⟩,by omega,by omega,by omega,by omega,fun h'=>absurd h' h⟩
theorem Qu (s:ByteArray) (w:World) (h:rW s.data.toList=true) (hs:s.size<=1048576):
  Calls prog 245 #[.string s] w (yT s w):=by
 have HE:Hid (fZ s.data.toList=(aC (fU s.data.toList),true)):=by show _=_;unfold fZ;rw[h];rfl
 obtain⟨L,hL⟩:=zF s.data.toList;have hsz:s.size=L.length:=by rw[<-hL];simp
 rw[hL] at HE h;have HS:=zH hL;simp only[rW,Bool.and_eq_true,Bool.not_eq_true',isEmpty_eq_false_iff] at h;obtain⟨⟨h0,h1⟩,hall⟩:=h;have yV:=zH hall;have hpos:0<s.size:=by rw[hsz];exact length_pos_iff.2 h0
 have he1:=yU s hpos;have HC:=zH (fun W=>Ae s W);rw[hL] at HC;simp only[hall,Bool.not_true] at HC;have HP:Hid (∀W,Below w.heap.size w W->Calls prog 245 #[.string s] w (yT s w)->True):=fun _ _ _=>trivial
 clear HP
 have hb:∀(hi:0<s.size),(1:Int)<s.size->(((s[0]'hi).toNat:Int)==48)=false:=by
  intro hi h2;rw[beq_eq_false_iff_ne];intro e;have e2:s[0]'hi=48:=UInt8.toNat_inj.1 (by simp;omega)
  have e3:L.head?=some 48:=by
   rw[<-hL,head?_eq_getElem?,getElem?_eq_getElem (by simpa using hi)];congr 1
  simp[e3] at h1;omega
 have HSZ:=zH hsz;clear hL h0 h1 hall hsz;have hcase:(1<s.size)∨s.size=1:=by omega
 rcases hcase with h2|h2
 case' inl=>have hb':=hb hpos (by omega)
 case' inr=>have h2':(s.size:Int)=1:=by omega
 all_goals
  clear hb;go_enter func245,ntmps245;go_wp2_with fail;refine (HC.out _).mono ?_;rintro e w1 ⟨rfl,hb1⟩;go_wp2_with fail;clear HC he1
  go_loopg [0,4] s.size (fun g sv lv wr=>∃(st:ByteArray) (A:Option Addr) (len cap p:Nat),sv=.string st/\lv=.slice A len cap/\Hid (st.data.toList=L.drop p)/\st.size=g/\p+g=s.size/\Hid (fF wr A len cap (fU (L.take p)))/\Hid (p=0∨g % 9=0)/\Below w.heap.size w wr)
  case atStart=>exact⟨s,none,0,0,0,rfl,rfl,by show _=_;rw[HS.out];rfl,rfl,by omega,Ri _,.inl rfl,hb1⟩
  case round=>
   obtain⟨st,A,len,cap,p,rfl,rfl,hst,hg,hpg,HX,hp9,hbw⟩:=hrel;have hlen:=HX.out.gB (rV L p yV.out);by_cases hg0:0<gk
   ·have hne:=yU st (by omega);obtain⟨n,hn,hn0,hn9,hng,hnm,afv⟩:=UW gk hg0;have yc:(st.extract 0 n).data.toList=(L.drop p).take n:=by rw[Lib.extract_data,hst.out];simp
    have hrest:(st.extract n st.size).data.toList=L.drop (p+n):=by rw[Lib.extract_to_end,hst.out,drop_drop]
    have hcd:((L.drop p).take n).all jS=true:=by
     have:=yV.out;rw[all_eq_true] at this⊢;exact fun x hx=>this x (mem_of_mem_drop (mem_of_mem_take hx))
    have Gm:((L.drop p).take n).length=n:=by rw[length_take_of_le (by simp;have:=HSZ.out;omega)]
    have hV:=AV _ hcd;rw[Gm] at hV;have hV2:10 ^ n<=10 ^ 9:=Nat.pow_le_pow_right (by omega) hn9;have hat:=Qr _ (by intro e;rw[e] at Gm;simp at Gm;omega) hcd;have hch:=zH (MX L p n (by have:=HSZ.out;omega) (by rcases hp9.out with h|h;exact .inl h;exact .inr (afv h)));obtain⟨V,hVV⟩:=zF (fU ((L.drop p).take n));rw[hVV,<-yc] at hat
    have hcs:(st.extract 0 n).size<=18:=by
     have:(st.extract 0 n).size=n:=by rw[<-Gm,<-yc];simp
     omega
    have hrs:(st.extract n st.size).size=gk-n:=by
     have:(st.extract n st.size).size=(L.drop (p+n)).length:=by rw[<-hrest];simp
     rw[this];simp;have:=HSZ.out;omega
    have HAT:=zH hat;have acw:=zH hrest;have MZ:=zH hrs;have HCS:=zH hcs;have afx:Hid (p+n=0∨(gk-n) % 9=0):=.inr hnm;rw[hVV] at hV hch;have hV4:V<1000000000:=by omega
    clear yc hrest hcd Gm hV hV2 hat hcs hrs hVV hnm afv h2;have HGE:=zH hg;have hgi:(st.size:Int)=gk:=by omega
    clear hg;rcases hn with⟨hn1,rfl⟩|⟨hn1,hn2⟩
    ·try (exfalso;omega)
     all_goals
      go_wp2_with fail;refine (Tryz.strconv_Atoi _ V HCS.out HAT.out _).mono ?_;rintro e w2 ⟨rfl,tt,rfl⟩;have hb2:Below wr.heap.size wr (Lib.bytesWorld wr 5 tt):=Lib.bytesWorld_below _ _ _;obtain⟨w2,hw2⟩:=zF (Lib.bytesWorld wr 5 tt);rw[hw2] at hb2⊢;clear hw2;have hB:=aj.new w2 231 #[.int .u32 1000000000];have hba:Below w2.heap.size w2 (w2.alloc (.cells #[.int .u32 1000000000] 231)):=(Below.refl _ _).alloc (Nat.le_refl _) _;have mJ:=fF.word (w:=w2.alloc (.cells #[.int .u32 1000000000] 231)) 1000000000 (by omega) (by omega) hB;have kQ:=zH mJ;have DL:=zH ((HX.out.below hb2).below hba);clear hB mJ;go_wp2_with fail;refine (xI _ _ _ _ _ _ _ _ _ DL.out kQ.out (by omega) (by omega)).mono ?_;rintro e w3 ⟨A3,l3,c3,rfl,h3,hb3⟩
      have hl3:=h3.gB (K:=p+9) (by
       rw[Nat.pow_add];exact Nat.mul_lt_mul_of_lt_of_le (rV L p yV.out) (by decide) (by decide))
      have H3:=zH h3;have hbw3:=ah (ah (ah hbw hb2) hba) hb3;clear h3 hb2 hba hb3 DL kQ;have hB:=aj.new w3 231 #[.int .u32 (V:Int)];have hrd:Rd (w3.alloc (.cells #[.int .u32 (V:Int)] 231)) (some ⟨w3.heap.size,0,none⟩) (U [V]):=hB.rd;have hba:Below w3.heap.size w3 (w3.alloc (.cells #[.int .u32 (V:Int)] 231)):=(Below.refl _ _).alloc (Nat.le_refl _) _
      have XB:∀x∈[V],x<2 ^ 32:=by
       intro x hx;obtain rfl:x=V:=by simpa using hx
       omega
      have hL4:=fF.kE (len:=1) (cap:=1) rfl (Nat.le_refl _) (by unfold maxLen;omega) hrd XB;have HR:=zH hrd;have XC:=zH hL4;have H3':=zH (H3.out.below hba);have htl:trimLen [V] 1<=1:=trimLen_le _ _;clear hB hrd hL4 H3 XB;go_wp2_with fail;refine (jK _ 1 1 [V] _ rfl (by omega) (by unfold maxLen;omega) HR.out).mono ?_;rintro e w4 ⟨rfl,rfl⟩;generalize trimLen [V] 1=T at*;go_wp2_with fail;refine (sum_any _ _ _ _ _ _ _ _ _ H3'.out XC.out (by omega) (by omega)).mono ?_;rintro e w5 ⟨A5,l5,c5,rfl,h5,hb5⟩;have H5:=zH h5;have yQ:=ah (ah hbw3 hba) hb5;clear h5 hbw3 hba hb5 XC HR;go_wp2_with fail
      go_roundg (st.size-9)
      case measure=>omega
      case rel=>
       refine⟨st.extract 9 st.size,A5,l5,c5,p+9,rfl,rfl,acw.out,?_,by omega,?_,?_,yQ⟩
       ·rw[MZ.out,HGE.out]
       ·show fF _ _ _ _ _;rw[hch.out];have:=H5.out;simpa [val] using this
       ·rw[HGE.out];exact afx
    ·have hn3:=hn2.symm;clear hn2
     all_goals
      go_wp2_with fail;refine (Tryz.strconv_Atoi _ V HCS.out HAT.out _).mono ?_;rintro e w2 ⟨rfl,tt,rfl⟩;have hb2:Below wr.heap.size wr (Lib.bytesWorld wr 5 tt):=Lib.bytesWorld_below _ _ _;obtain⟨w2,hw2⟩:=zF (Lib.bytesWorld wr 5 tt);rw[hw2] at hb2⊢;clear hw2;have hB:=aj.new w2 231 #[.int .u32 1000000000];have hba:Below w2.heap.size w2 (w2.alloc (.cells #[.int .u32 1000000000] 231)):=(Below.refl _ _).alloc (Nat.le_refl _) _;have mJ:=fF.word (w:=w2.alloc (.cells #[.int .u32 1000000000] 231)) 1000000000 (by omega) (by omega) hB;have kQ:=zH mJ;have DL:=zH ((HX.out.below hb2).below hba);clear hB mJ;go_wp2_with fail;refine (xI _ _ _ _ _ _ _ _ _ DL.out kQ.out (by omega) (by omega)).mono ?_;rintro e w3 ⟨A3,l3,c3,rfl,h3,hb3⟩
      have hl3:=h3.gB (K:=p+9) (by
       rw[Nat.pow_add];exact Nat.mul_lt_mul_of_lt_of_le (rV L p yV.out) (by decide) (by decide))
      have H3:=zH h3;have hbw3:=ah (ah (ah hbw hb2) hba) hb3;clear h3 hb2 hba hb3 DL kQ;have hB:=aj.new w3 231 #[.int .u32 (V:Int)];have hrd:Rd (w3.alloc (.cells #[.int .u32 (V:Int)] 231)) (some ⟨w3.heap.size,0,none⟩) (U [V]):=hB.rd;have hba:Below w3.heap.size w3 (w3.alloc (.cells #[.int .u32 (V:Int)] 231)):=(Below.refl _ _).alloc (Nat.le_refl _) _
      have XB:∀x∈[V],x<2 ^ 32:=by
       intro x hx;obtain rfl:x=V:=by simpa using hx
       omega
      have hL4:=fF.kE (len:=1) (cap:=1) rfl (Nat.le_refl _) (by unfold maxLen;omega) hrd XB;have HR:=zH hrd;have XC:=zH hL4;have H3':=zH (H3.out.below hba);have htl:trimLen [V] 1<=1:=trimLen_le _ _;clear hB hrd hL4 H3 XB;go_wp2_with fail;refine (jK _ 1 1 [V] _ rfl (by omega) (by unfold maxLen;omega) HR.out).mono ?_;rintro e w4 ⟨rfl,rfl⟩;generalize trimLen [V] 1=T at*;go_wp2_with fail;refine (sum_any _ _ _ _ _ _ _ _ _ H3'.out XC.out (by omega) (by omega)).mono ?_;rintro e w5 ⟨A5,l5,c5,rfl,h5,hb5⟩;have H5:=zH h5;have yQ:=ah (ah hbw3 hba) hb5;clear h5 hbw3 hba hb5 XC HR;go_wp2_with fail
      go_roundg (st.size-n)
      case measure=>omega
      case rel=>
       refine⟨st.extract n st.size,A5,l5,c5,p+n,rfl,rfl,acw.out,?_,by omega,?_,?_,yQ⟩
       ·rw[MZ.out,HGE.out]
       ·show fF _ _ _ _ _;rw[hch.out];have:=H5.out;simpa [val] using this
       ·rw[HGE.out];exact afx
   ·obtain rfl:gk=0:=by omega
    have aky:st=⟨#[]⟩:=by
     obtain⟨⟨l⟩⟩:=st;have:l.length=0:=hg;rw[eq_nil_of_length_eq_zero this]
    subst aky;clear hg;go_wp2_with fail;refine (ny _ _ _ _ _ HX.out (by omega)).mono ?_;rintro e w2 ⟨rfl,hb2⟩;go_wp2;go_ret2;refine⟨?_,ah hbw hb2⟩;rw[HS.out,HE.out];have:L.take p=L:=take_of_length_le (by have:=HSZ.out;omega);rw[this];rfl
theorem AX (s:ByteArray) (w:World) (hs:s.size<=1048576):Calls prog 245 #[.string s] w (yT s w):=by
 cases h:rW s.data.toList
 ·exact Qs s w h
 ·exact Qu s w h hs
end Go.Proofs.YtjpbmbgincdjaaaGreatDoor
