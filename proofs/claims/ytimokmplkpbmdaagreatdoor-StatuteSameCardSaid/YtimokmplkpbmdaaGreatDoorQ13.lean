/- A part of the proof: Parse. -/
import Derived.Test.YtimokmplkpbmdaaGreatDoorQ12
set_option linter.all false
set_option maxRecDepth 100000
set_option maxHeartbeats 0
namespace Go.Proofs.YtimokmplkpbmdaaGreatDoor
open Go.RowKit
def oO (l:List UInt8):Bool:= !l.isEmpty&& !(decide (1<l.length)&&l.head?==some 48)&&l.all fM
def pX (x:Nat):Bool:=decide (x<48)||decide (57<x)
theorem Ti (x:Nat) (w:World) (hx:x<=1114111):
  Calls Tryz.prog 254 #[.int .i32 (x:Int)] w fun e w'=>e=.returned (.bool (pX x))/\w=w':=by
 have e:(decide ((x:Int)<48)||decide (57<(x:Int)))=pX x:=by
  unfold pX;rw[Bool.eq_iff_iff];simp only[Bool.or_eq_true,decide_eq_true_eq]
  omega
 rw[<-e];clear e;go_enter Tryz.func254,Tryz.ntmps254;go_wp2
 all_goals (go_ret;exact⟨rfl,rfl⟩)
theorem Tj (s:ByteArray) (f pos:Nat) (hf:s.size<=pos+f):decide (0<=Lib.idxFuncFrom pX true s f pos)= !((s.data.toList.drop pos).all fM):=by
 induction f generalizing pos with
 |zero=>rw[List.drop_eq_nil_of_le (by simpa using hf)];rfl
 |succ f ih=>
  unfold Lib.idxFuncFrom;split
  ·next h=>
   rw[List.drop_eq_getElem_cons (by simpa using h),List.all_cons];have hb:s.data.toList[pos]'(by simpa using h)=s[pos]:=by simp;rfl
   rw[hb];rcases Nat.lt_or_ge (s[pos]).toNat 128 with ha|ha
   ·rw[decode_ascii s pos h ha];by_cases hd:fM s[pos]=true
    ·have:pX (s[pos]).toNat=false:=by simp only[fM,Bool.and_eq_true,decide_eq_true_eq] at hd;simp[pX]<;>omega
     rw[if_neg (by simp[this]),hd,ih _ (by omega)];rfl
    ·have hd':fM s[pos]=false:=by simpa using hd
     have:pX (s[pos]).toNat=true:=by simp only[fM,Bool.and_eq_false_iff,decide_eq_false_iff_not] at hd';simp[pX]<;>omega
     rw[if_pos this,hd'];simp<;>omega
   ·obtain⟨h1,h2⟩:=decode_high s pos h ha;have:pX (Utf8.decode s pos).1=true:=by simp[pX]<;>omega
    have hd':fM s[pos]=false:=by simp[fM]<;>omega
    rw[if_pos this,hd'];simp<;>omega
  ·next h=>rw[List.drop_eq_nil_of_le (by simpa using h)];rfl
theorem Gv (s:ByteArray):decide (0<=Lib.idxFunc pX true s)= !(s.data.toList.all fM):=by
 have:=Tj s s.size 0 (by omega);rw[List.drop_zero] at this;exact this
theorem AZ (s:ByteArray) (w:World):
  Calls Tryz.prog 253 #[.string s,.func (.func 254) #[] #[]] w fun e w'=>e=.returned (.bool !(s.data.toList.all fM))/\Below w.heap.size w w':=by
 rw[<-Gv];exact Tryz.strings_ContainsFunc_grows 254 #[] (enters_of Tryz.func254 (by kernel_rfl) rfl) pX s w (fun W x hx _=>(Ti x W hx).mono fun e w' ⟨h1,h2⟩=>⟨h1,h2 ▸ Below.refl _ _⟩)
def eF (l:List UInt8):ByteArray × Bool:=if oO l then (aC (dY l),true) else (aC 0,false)
def zQ (s:ByteArray) (w:World) (e:Ending) (w':World):Prop:=
 e=.returned (.tuple #[.string (eF s.data.toList).1,.bool (eF s.data.toList).2])/\Below w.heap.size w w'
theorem O7 (s:ByteArray) (w:World) (h:oO s.data.toList=false):
  Calls Tryz.prog 212 #[.string s] w (zQ s w):=by
 have HE:Hid (eF s.data.toList=(aC 0,false)):=by show _=_;unfold eF;rw[h];rfl
 by_cases h0:s.data.toList=[]
 ·have hs:s=⟨#[]⟩:=by
   obtain⟨⟨l⟩⟩:=s;simp at h0;rw[h0]
  subst hs;go_enter Tryz.func212,Tryz.ntmps212;go_wp2;go_ret2;exact⟨by rw[HE.out];rfl,Below.refl _ _⟩
 ·obtain⟨⟨l⟩⟩:=s;obtain⟨c,l,rfl⟩:=List.exists_cons_of_ne_nil h0;by_cases h1:0<l.length/\c=48
  ·obtain⟨h1,rfl⟩:=h1;clear h h0;go_enter Tryz.func212,Tryz.ntmps212;go_wp2;go_ret2;exact⟨by rw[HE.out];rfl,Below.refl _ _⟩
  ·have hall:(c::l).all fM=false:=by
    simp only[oO,Bool.and_eq_false_iff] at h;rcases h with (h|h)|h
    ·simp at h
    ·exfalso;simp at h;exact h1 ⟨h.1,h.2⟩
    ·exact h
   have HC:=zH (fun W=>AZ ⟨⟨c::l⟩⟩ W);simp only[hall] at HC;by_cases h2:0<l.length
   ·have hc:((((⟨⟨c::l⟩⟩:ByteArray)[0]'(by show 0<(c::l).length;simp)).toNat:Int)==48)=false:=by
     show ((c.toNat:Int)==48)=false;rw[beq_eq_false_iff_ne];intro e;exact h1 ⟨h2,UInt8.toNat_inj.1 (by simp;omega)⟩
    clear h h0 h1;go_enter Tryz.func212,Tryz.ntmps212;go_wp2_with fail;refine (HC.out _).mono ?_;rintro e w1 ⟨rfl,hb1⟩;go_wp2;go_ret2;exact⟨by rw[HE.out];rfl,hb1⟩
   ·obtain rfl:l=[]:=List.eq_nil_of_length_eq_zero (by omega);clear h h0 h1;go_enter Tryz.func212,Tryz.ntmps212;go_wp2_with fail;refine (HC.out _).mono ?_;rintro e w1 ⟨rfl,hb1⟩;go_wp2;go_ret2;exact⟨by rw[HE.out];rfl,hb1⟩
theorem zS (s:ByteArray) (h:0<s.size):s.toList.isEmpty=false:=by
 rw[ByteArray.toList_eq];obtain⟨⟨l⟩⟩:=s;cases l with
 |nil=>exact absurd h (by show ¬0<0;omega)
 |cons c l=>rfl
theorem eu.word {w:World} (r:Nat) (hr:r<4294967296) (hr0:0<r) {b:Nat} (hB:aj w b 218 [.int .u32 (r:Int)]):eu w (some ⟨b,0,none⟩) 1 1 r:=by
 refine⟨Nat.le_refl _,by unfold maxLen;omega,[r],rfl,hB.rd,⟨?_,?_⟩,by simp[val]⟩
 ·intro x hx;obtain rfl:x=r:=by simpa using hx
  exact hr
 ·intro h;simpa using (show r≠0 by omega)
theorem Tn (g:Nat) (hg:0<g):∃n:Nat,((g:Int) % 9=0/\n=9∨¬((g:Int) % 9=0)/\(n:Int)=(g:Int) % 9)/\0<n/\n<=9/\n<=g/\(g-n) % 9=0/\(g % 9=0->n=9):=by
 by_cases h:g % 9=0
 ·exact⟨9,.inl ⟨by omega,rfl⟩,by omega,by omega,by omega,by omega,fun _=>rfl⟩
 ·exact⟨g % 9,.inr ⟨by omega,by omega⟩,by omega,by omega,by omega,by omega,fun h'=>absurd h' h⟩
theorem O8 (s:ByteArray) (w:World) (h:oO s.data.toList=true) (hs:s.size<=1048576):
  Calls Tryz.prog 212 #[.string s] w (zQ s w):=by
 have HE:Hid (eF s.data.toList=(aC (dY s.data.toList),true)):=by show _=_;unfold eF;rw[h];rfl
 obtain⟨L,hL⟩:=zF s.data.toList;have hsz:s.size=L.length:=by rw[<-hL];simp
 rw[hL] at HE h;have HS:=zH hL;simp only[oO,Bool.and_eq_true,Bool.not_eq_true',List.isEmpty_eq_false_iff] at h;obtain⟨⟨h0,h1⟩,hall⟩:=h;have zT:=zH hall;have hpos:0<s.size:=by rw[hsz];exact List.length_pos_iff.2 h0
 have he1:=zS s hpos;have HC:=zH (fun W=>AZ s W);rw[hL] at HC;simp only[hall,Bool.not_true] at HC;have HP:Hid (∀W,Below w.heap.size w W->Calls Tryz.prog 212 #[.string s] w (zQ s w)->True):=fun _ _ _=>trivial
 clear HP
 have hb:∀(hi:0<s.size),(1:Int)<s.size->(((s[0]'hi).toNat:Int)==48)=false:=by
  intro hi h2;rw[beq_eq_false_iff_ne];intro e;have e2:s[0]'hi=48:=UInt8.toNat_inj.1 (by simp;omega)
  have e3:L.head?=some 48:=by
   rw[<-hL,List.head?_eq_getElem?,List.getElem?_eq_getElem (by simpa using hi)];congr 1
  simp[e3] at h1;omega
 have BN:=zH hsz;clear hL h0 h1 hall hsz;have hcase:(1<s.size)∨s.size=1:=by omega
 rcases hcase with h2|h2
 case' inl=>have hb':=hb hpos (by omega)
 case' inr=>have h2':(s.size:Int)=1:=by omega
 all_goals
  clear hb;go_enter Tryz.func212,Tryz.ntmps212;go_wp2_with fail;refine (HC.out _).mono ?_;rintro e w1 ⟨rfl,hb1⟩;go_wp2_with fail;clear HC he1
  go_loopg [0,4] s.size (fun g sv lv wr=>∃(st:ByteArray) (A:Option Addr) (len cap p:Nat),sv=.string st/\lv=.slice A len cap/\Hid (st.data.toList=L.drop p)/\st.size=g/\p+g=s.size/\Hid (eu wr A len cap (dY (L.take p)))/\Hid (p=0∨g % 9=0)/\Below w.heap.size w wr)
  case atStart=>exact⟨s,none,0,0,0,rfl,rfl,by show _=_;rw[HS.out];rfl,rfl,by omega,Qm _,.inl rfl,hb1⟩
  case round=>
   obtain⟨st,A,len,cap,p,rfl,rfl,hst,hg,hpg,HX,hp9,hbw⟩:=hrel;have hlen:=HX.out.ig (sG L p zT.out);by_cases hg0:0<gk
   ·have hne:=zS st (by omega);obtain⟨n,hn,hn0,hn9,Gw,hnm,adT⟩:=Tn gk hg0;have yN:(st.extract 0 n).data.toList=(L.drop p).take n:=by rw[Lib.extract_data,hst.out];simp
    have hrest:(st.extract n st.size).data.toList=L.drop (p+n):=by rw[Lib.extract_to_end,hst.out,List.drop_drop]
    have hcd:((L.drop p).take n).all fM=true:=by
     have:=zT.out;rw[List.all_eq_true] at this⊢;exact fun x hx=>this x (List.mem_of_mem_drop (List.mem_of_mem_take hx))
    have Gx:((L.drop p).take n).length=n:=by rw[List.length_take_of_le (by simp;have:=BN.out;omega)]
    have hV:=BM _ hcd;rw[Gx] at hV;have hV2:10 ^ n<=10 ^ 9:=Nat.pow_le_pow_right (by omega) hn9;have hat:=O6 _ (by intro e;rw[e] at Gx;simp at Gx;omega) hcd;have hch:=zH (LW L p n (by have:=BN.out;omega) (by rcases hp9.out with h|h;exact .inl h;exact .inr (adT h)));obtain⟨V,hVV⟩:=zF (dY ((L.drop p).take n));rw[hVV,<-yN] at hat
    have hcs:(st.extract 0 n).size<=18:=by
     have:(st.extract 0 n).size=n:=by rw[<-Gx,<-yN];simp
     omega
    have hrs:(st.extract n st.size).size=gk-n:=by
     have:(st.extract n st.size).size=(L.drop (p+n)).length:=by rw[<-hrest];simp
     rw[this];simp;have:=BN.out;omega
    have HAT:=zH hat;have abo:=zH hrest;have LX:=zH hrs;have HCS:=zH hcs;have adV:Hid (p+n=0∨(gk-n) % 9=0):=.inr hnm;rw[hVV] at hV hch;have hV4:V<1000000000:=by omega
    clear yN hrest hcd Gx hV hV2 hat hcs hrs hVV hnm adT h2;have HGE:=zH hg;have hgi:(st.size:Int)=gk:=by omega
    clear hg;rcases hn with⟨hn1,rfl⟩|⟨hn1,hn2⟩
    ·try (exfalso;omega)
     all_goals
      go_wp2_with fail;refine (Tryz.strconv_Atoi _ V HCS.out HAT.out _).mono ?_;rintro e w2 ⟨rfl,tt,rfl⟩;have hb2:Below wr.heap.size wr (Lib.bytesWorld wr 5 tt):=Lib.bytesWorld_below _ _ _;obtain⟨w2,hw2⟩:=zF (Lib.bytesWorld wr 5 tt);rw[hw2] at hb2⊢;clear hw2;have hB:=aj.new w2 218 #[.int .u32 1000000000];have hba:Below w2.heap.size w2 (w2.alloc (.cells #[.int .u32 1000000000] 218)):=(Below.refl _ _).alloc (Nat.le_refl _) _;have lX:=eu.word (w:=w2.alloc (.cells #[.int .u32 1000000000] 218)) 1000000000 (by omega) (by omega) hB;have eG:=zH lX;have Ee:=zH ((HX.out.below hb2).below hba);clear hB lX;go_wp2_with fail;refine (yB _ _ _ _ _ _ _ _ _ Ee.out eG.out (by omega) (by omega)).mono ?_;rintro e w3 ⟨A3,l3,c3,rfl,h3,hb3⟩
      have hl3:=h3.ig (K:=p+9) (by
       rw[Nat.pow_add];exact Nat.mul_lt_mul_of_lt_of_le (sG L p zT.out) (by decide) (by decide))
      have H3:=zH h3;have hbw3:=ah (ah (ah hbw hb2) hba) hb3;clear h3 hb2 hba hb3 Ee eG;have hB:=aj.new w3 218 #[.int .u32 (V:Int)];have hrd:Rd (w3.alloc (.cells #[.int .u32 (V:Int)] 218)) (some ⟨w3.heap.size,0,none⟩) (U [V]):=hB.rd;have hba:Below w3.heap.size w3 (w3.alloc (.cells #[.int .u32 (V:Int)] 218)):=(Below.refl _ _).alloc (Nat.le_refl _) _
      have VT:∀x∈[V],x<2 ^ 32:=by
       intro x hx;obtain rfl:x=V:=by simpa using hx
       omega
      have hL4:=eu.kE (len:=1) (cap:=1) rfl (Nat.le_refl _) (by unfold maxLen;omega) hrd VT;have HR:=zH hrd;have VU:=zH hL4;have H3':=zH (H3.out.below hba);have htl:trimLen [V] 1<=1:=trimLen_le _ _;clear hB hrd hL4 H3 VT;go_wp2_with fail;refine (jK _ 1 1 [V] _ rfl (by omega) (by unfold maxLen;omega) HR.out).mono ?_;rintro e w4 ⟨rfl,rfl⟩;generalize trimLen [V] 1=T at*;go_wp2_with fail;refine (sum_any _ _ _ _ _ _ _ _ _ H3'.out VU.out (by omega) (by omega)).mono ?_;rintro e w5 ⟨A5,l5,c5,rfl,h5,hb5⟩;have H5:=zH h5;have zM:=ah (ah hbw3 hba) hb5;clear h5 hbw3 hba hb5 VU HR;go_wp2_with fail
      go_roundg (st.size-9)
      case measure=>omega
      case rel=>
       refine⟨st.extract 9 st.size,A5,l5,c5,p+9,rfl,rfl,abo.out,?_,by omega,?_,?_,zM⟩
       ·rw[LX.out,HGE.out]
       ·show eu _ _ _ _ _;rw[hch.out];have:=H5.out;simpa [val] using this
       ·rw[HGE.out];exact adV
    ·have hn3:=hn2.symm;clear hn2
     all_goals
      go_wp2_with fail;refine (Tryz.strconv_Atoi _ V HCS.out HAT.out _).mono ?_;rintro e w2 ⟨rfl,tt,rfl⟩;have hb2:Below wr.heap.size wr (Lib.bytesWorld wr 5 tt):=Lib.bytesWorld_below _ _ _;obtain⟨w2,hw2⟩:=zF (Lib.bytesWorld wr 5 tt);rw[hw2] at hb2⊢;clear hw2;have hB:=aj.new w2 218 #[.int .u32 1000000000];have hba:Below w2.heap.size w2 (w2.alloc (.cells #[.int .u32 1000000000] 218)):=(Below.refl _ _).alloc (Nat.le_refl _) _;have lX:=eu.word (w:=w2.alloc (.cells #[.int .u32 1000000000] 218)) 1000000000 (by omega) (by omega) hB;have eG:=zH lX;have Ee:=zH ((HX.out.below hb2).below hba);clear hB lX;go_wp2_with fail;refine (yB _ _ _ _ _ _ _ _ _ Ee.out eG.out (by omega) (by omega)).mono ?_;rintro e w3 ⟨A3,l3,c3,rfl,h3,hb3⟩
      have hl3:=h3.ig (K:=p+9) (by
       rw[Nat.pow_add];exact Nat.mul_lt_mul_of_lt_of_le (sG L p zT.out) (by decide) (by decide))
      have H3:=zH h3;have hbw3:=ah (ah (ah hbw hb2) hba) hb3;clear h3 hb2 hba hb3 Ee eG;have hB:=aj.new w3 218 #[.int .u32 (V:Int)];have hrd:Rd (w3.alloc (.cells #[.int .u32 (V:Int)] 218)) (some ⟨w3.heap.size,0,none⟩) (U [V]):=hB.rd;have hba:Below w3.heap.size w3 (w3.alloc (.cells #[.int .u32 (V:Int)] 218)):=(Below.refl _ _).alloc (Nat.le_refl _) _
      have VT:∀x∈[V],x<2 ^ 32:=by
       intro x hx;obtain rfl:x=V:=by simpa using hx
       omega
      have hL4:=eu.kE (len:=1) (cap:=1) rfl (Nat.le_refl _) (by unfold maxLen;omega) hrd VT;have HR:=zH hrd;have VU:=zH hL4;have H3':=zH (H3.out.below hba);have htl:trimLen [V] 1<=1:=trimLen_le _ _;clear hB hrd hL4 H3 VT;go_wp2_with fail;refine (jK _ 1 1 [V] _ rfl (by omega) (by unfold maxLen;omega) HR.out).mono ?_;rintro e w4 ⟨rfl,rfl⟩;generalize trimLen [V] 1=T at*;go_wp2_with fail;refine (sum_any _ _ _ _ _ _ _ _ _ H3'.out VU.out (by omega) (by omega)).mono ?_;rintro e w5 ⟨A5,l5,c5,rfl,h5,hb5⟩;have H5:=zH h5;have zM:=ah (ah hbw3 hba) hb5;clear h5 hbw3 hba hb5 VU HR;go_wp2_with fail
      go_roundg (st.size-n)
      case measure=>omega
      case rel=>
       refine⟨st.extract n st.size,A5,l5,c5,p+n,rfl,rfl,abo.out,?_,by omega,?_,?_,zM⟩
       ·rw[LX.out,HGE.out]
       ·show eu _ _ _ _ _;rw[hch.out];have:=H5.out;simpa [val] using this
       ·rw[HGE.out];exact adV
   ·obtain rfl:gk=0:=by omega
    have ahS:st=⟨#[]⟩:=by
     obtain⟨⟨l⟩⟩:=st;have:l.length=0:=hg;rw[List.eq_nil_of_length_eq_zero this]
    subst ahS;clear hg;go_wp2_with fail;refine (mJ _ _ _ _ _ HX.out (by omega)).mono ?_;rintro e w2 ⟨rfl,hb2⟩;go_wp2;go_ret2;refine⟨?_,ah hbw hb2⟩;rw[HS.out,HE.out];have:L.take p=L:=List.take_of_length_le (by have:=BN.out;omega);rw[this];rfl
theorem BO (s:ByteArray) (w:World) (hs:s.size<=1048576):Calls Tryz.prog 212 #[.string s] w (zQ s w):=by
 cases h:oO s.data.toList
 ·exact O7 s w h
 ·exact O8 s w h hs
end Go.Proofs.YtimokmplkpbmdaaGreatDoor
