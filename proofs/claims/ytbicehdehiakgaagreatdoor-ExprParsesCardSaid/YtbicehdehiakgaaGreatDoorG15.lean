/- A part of the proof: R11 R12 Q1. -/
import Derived.Deep.LoopGhost
import Derived.Deep.RegionHeld3
import Derived.Test.YtbicehdehiakgaaGreatDoorG10
import Derived.Test.YtbicehdehiakgaaGreatDoorG13
import Derived.Test.YtbicehdehiakgaaGreatDoorG14
set_option linter.unusedVariables false
set_option linter.unusedSimpArgs false
namespace Go.Proofs.YtbicehdehiakgaaGreatDoor
open Go.RowKit
theorem rQuo_any (a b:ByteArray) (w:World) (ha:a.size≤1073741824) (hb:b.size≤1073741824):
  Calls Tryz.prog 106 #[.string a,.string b] w (RetQuo (vbs a) (vbs b) w):=by
 rcases Nat.eq_zero_or_pos (vbs b) with h0|h0
 ·exact rQuo_zero a b w hb h0
 ·by_cases hs:vbs a<256 ^ 7∧vbs b<256 ^ 7
  ·exact rQuo_small a b w ha hb h0 hs.1 hs.2
  ·exact rQuo_long a b w ha hb h0 hs
theorem rQuo_nb (n m K:Nat) (w:World) (hK:K≤1073741824) (hn:n<256 ^ K) (hm:m<256 ^ K) (h0:0<m):
  Calls Tryz.prog 106 #[.string (nbs n),.string (nbs m)] w fun e w'=>
   e=.returned (.tuple #[.string (nbs (n / m)),.string (nbs (n % m)),.bool true])∧Below w.heap.size w w':=by
 refine (rQuo_any (nbs n) (nbs m) w (Nat.le_trans (nbs_size_le _ _ hn) hK) (Nat.le_trans (nbs_size_le _ _ hm) hK)).mono ?_;rintro e w' ⟨rfl,hb⟩;rw[vbs_nbs,vbs_nbs];have p0:¬(m=0):=by omega
 rw[if_neg p0,if_neg p0,show (m !=0)=true from by simp[p0]];exact⟨rfl,hb⟩
theorem nbs_len_pos (n:Nat):0<(nbs n).size↔0<n:=by
 constructor
 ·intro h;rcases Nat.eq_zero_or_pos n with h0|h0
  ·subst h0;exact absurd h (by decide)
  ·exact h0
 ·intro h;have:=nb_ne _ (show n≠0 by omega);exact List.length_pos_iff.2 this
set_option maxHeartbeats 800000 in
theorem rGcd_any (a b:ByteArray) (w:World) (ha:a.size≤1073741824) (hb:b.size≤1073741824):
  Calls Tryz.prog 105 #[.string a,.string b] w fun e w'=>e=.returned (.string (nbs (Nat.gcd (vbs a) (vbs b))))∧Below w.heap.size w w':=by
 have hK:∃K,K≤1073741824∧vbs a<256 ^ K∧vbs b<256 ^ K:=⟨max a.size b.size,by omega,vbs_le a _ (Nat.le_max_left _ _),vbs_le b _ (Nat.le_max_right _ _)⟩
 obtain⟨K,hK0,hK1,hK2⟩:=hK;have HK1:=Lib.hid hK1;have HK2:=Lib.hid hK2;clear hK1 hK2;go_enter Tryz.func105,Tryz.ntmps105;go_wp2_with fail;refine (rCanon_any a _ (by omega)).mono ?_;rintro e w' ⟨rfl,rfl⟩;go_wp2_with fail;refine (rCanon_any b _ (by omega)).mono ?_;rintro e w' ⟨rfl,rfl⟩;go_wp2_with fail
 go_loopg [0,1] (vbs b) (fun g xv yv wr=>∃n:Nat,xv=.string (nbs n)∧yv=.string (nbs g)∧Hid (Nat.gcd n g=Nat.gcd (vbs a) (vbs b))∧Hid (n<256 ^ K)∧Hid (g<256 ^ K)∧Below w.heap.size w wr)
 case atStart=>exact⟨vbs a,rfl,rfl,rfl,HK1,HK2,Below.refl _ _⟩
 case round=>
  obtain⟨n,rfl,rfl,hg,hn,hm,hbw⟩:=hrel;have hz:=nbs_len_pos gk;by_cases h0:0<gk
  ·have hp:=hz.2 h0;clear hz;go_wp2_with fail;refine (rQuo_nb n gk K _ hK0 hn.out hm.out h0).mono ?_;rintro e w3 ⟨rfl,hb3⟩;go_wp2_with fail
   go_roundg (n % gk)
   case measure=>exact Nat.mod_lt _ h0
   case rel=>
    refine⟨gk,rfl,rfl,?_,hm,Nat.lt_of_lt_of_le (Nat.mod_lt _ h0) (Nat.le_of_lt hm.out),bstep hbw hb3⟩;show _=_;rw[←hg.out,Nat.gcd_comm n gk,Nat.gcd_rec gk n,Nat.gcd_comm]
  ·obtain rfl:gk=0:=by omega
   have hp:¬0<(nbs 0).size:=by decide
   clear hz;go_wp2;go_ret;have:=hg.out;rw[Nat.gcd_zero_right] at this;exact⟨by rw[this];rfl,hbw⟩
def decD (n:Nat):List UInt8:=if n=0 then [] else Lib.decDigits n
theorem decD_step (n:Nat) (h:0<n):decD n=decD (n / 10)++[UInt8.ofNat (48+n % 10)]:=by
 unfold decD;rw[if_neg (by omega)];by_cases h1:n<10
 ·rw[if_pos (by omega),dec_small n h1,show n % 10=n from by omega];rfl
 ·rw[if_neg (by omega),dec_big n h1]
theorem dec_len_le (n K:Nat) (hK:0<K) (h:n<256 ^ K):(Lib.decDigits n).length≤3*K:=by
 refine dec_len (3*K) n (by omega) (Nat.lt_of_lt_of_le h ?_);rw[Nat.pow_mul];exact Nat.pow_le_pow_left (by omega) K
set_option maxRecDepth 100000 in
set_option maxHeartbeats 1600000 in
theorem rText_any (a:ByteArray) (w:World) (ha:a.size≤1048576):
  Calls Tryz.prog 82 #[.string a] w fun e w'=>e=.returned (.string (decS (vbs a)))∧Below w.heap.size w w':=by
 have hlt:=vbs_lt a;have HC:=Lib.hid (rCanon_any a w (by omega));rcases Nat.eq_zero_or_pos (vbs a) with h0|h0
 ·have hs0:(nbs 0).size=0:=rfl;rw[h0] at HC⊢;clear hlt;go_enter Tryz.func82,Tryz.ntmps82;go_wp2_with fail;refine HC.out.mono ?_;rintro e w' ⟨rfl,rfl⟩;go_wp2;go_ret;exact⟨by unfold decS;rw[dec_small 0 (by omega)];rfl,Below.refl _ _⟩
 ·have hp:=(nbs_len_pos _).2 h0
  have hsz:0<a.size:=by
   have:=nbs_size_le _ _ hlt;omega
  have HL:=Lib.hid (dec_len_le _ _ hsz hlt);have HK:=Lib.hid hlt;obtain⟨K,hKe⟩:∃K,a.size=K:=⟨_,rfl⟩
  rw[hKe] at HK HL;have hK0:K≤1048576:=by omega
  clear hlt;generalize vbs a=n at*;go_enter Tryz.func82,Tryz.ntmps82;go_wp2_with fail;refine HC.out.mono ?_;rintro e w' ⟨rfl,rfl⟩;go_wp2_with fail;have hT:(((nbs n).size:Int)==0)=false:=by simpa using (show ¬((nbs n).size:Int)=0 by omega)
  simp only[hT]
  go_loopg [0,3] n (fun g xv ov wr=>∃o:ByteArray,xv=.string (nbs g)∧ov=.string o∧Hid (decD g++o.data.toList=Lib.decDigits n)∧Hid (g<256 ^ K)∧Below w.heap.size w wr)
  case atStart=>exact⟨⟨#[]⟩,rfl,rfl,by show _=_;unfold decD;rw[if_neg (by omega)];simp,HK,Below.refl _ _⟩
  case round=>
   obtain⟨o,rfl,rfl,ho,hg,hbw⟩:=hrel;by_cases hg0:0<gk
   ·have hp':=(nbs_len_pos _).2 hg0
    have hos:o.size≤3145728:=by
     have h1:=congrArg List.length ho.out;rw[List.length_append] at h1;have h2:=HL.out;have:o.data.toList.length=o.size:=rfl;omega
    have hst:=decD_step gk hg0;have HST:=Lib.hid hst;clear hst
    have hten:(10:Nat)<256 ^ (K+1):=by
     have:=Nat.pow_le_pow_right (show 0<256 by omega) (show 1≤K+1 by omega);omega
    have HTEN:=Lib.hid hten;clear hten;go_wp2_with fail;refine (rOf_any 10 _ (by omega) (by omega)).mono ?_;rintro e w1 ⟨rfl,hb1⟩;rw[show ((10:Int).toNat)=10 from rfl];go_wp2_with fail;refine (rQuo_nb gk 10 (K+1) _ (by omega) (Nat.lt_of_lt_of_le hg.out (Nat.pow_le_pow_right (by omega) (by omega))) HTEN.out (by omega)).mono ?_;rintro e w2 ⟨rfl,hb2⟩;go_wp2_with fail;refine (rInt_any _ _ (Nat.le_trans (nbs_size_le (gk % 10) 1 (by omega)) (by omega))).mono ?_;rintro e w3 ⟨rfl,rfl⟩;rw[vbs_nbs,show decide (gk % 10<9223372036854775808)=true from decide_eq_true (by omega)];have hb12:=bstep hbw (bstep hb1 hb2);obtain⟨q,hq⟩:∃q,Hid (gk / 10=q):=⟨_,rfl⟩
    obtain⟨d,hd⟩:∃d,Hid (gk % 10=d):=⟨_,rfl⟩
    have hd10:d<10:=by rw[←hd.out];omega
    rw[hq.out,hd.out] at HST⊢;have hqlt:q<gk:=by rw[←hq.out];omega
    rw[if_pos rfl];clear hb1 hb2 hbw;have hown:=World.ownsRow_lit (base:=w2.heap.size) (e:=5) (size:=1) w2 #[.int .u8 (48+(d:Int))] 1 (Nat.le_refl _) (by unfold maxLen;omega) rfl
    have hu8:(#[Value.int .u8 (48+(d:Int))]:Array Value).toList=U8 [UInt8.ofNat (48+d)]:=by
     show [Value.int .u8 (48+(d:Int))]=[Value.int .u8 ((UInt8.ofNat (48+d)).toNat:Int)]
     rw[UInt8.toNat_ofNat',Nat.mod_eq_of_lt (by omega)];simp
    rw[hu8] at hown;obtain⟨A,cap,hA,hconv⟩:=conv_own 89 9 Tryz.underlying89 Tryz.underlying9 hown;rw[←hA] at hconv;have hba:Below w2.heap.size w2 (w2.alloc (.cells #[.int .u8 (48+(d:Int))] 5)):=(Below.refl _ _).alloc (Nat.le_refl _) _;have hb13:=bstep hb12 hba;clear hown hu8 hA hba hb12;go_wp2
    go_roundg q
    case measure=>exact hqlt
    case rel=>
     refine⟨_,rfl,rfl,?_,?_,hb13⟩
     ·show _=_;rw[←ho.out,HST.out];simp
     ·exact Nat.lt_trans hqlt hg.out
   ·obtain rfl:gk=0:=by omega
    have hp':¬0<(nbs 0).size:=by decide
    go_wp2;go_ret;have h1:=ho.out;refine⟨?_,hbw⟩;unfold decS;rw[←h1];rfl
theorem rMul_nb (n m:Nat) (w:World) (hn:(nbs n).size≤1073741824) (hm:(nbs m).size≤1073741824):
  Calls Tryz.prog 66 #[.string (nbs n),.string (nbs m)] w fun e w'=>e=.returned (.string (nbs (n*m)))∧Below w.heap.size w w':=by
 have:=rMul_any (nbs n) (nbs m) w hn hm;rwa[vbs_nbs,vbs_nbs] at this
theorem rAdd_nb (n m:Nat) (w:World) (hn:(nbs n).size≤1073741824) (hm:(nbs m).size≤1073741824):
  Calls Tryz.prog 73 #[.string (nbs n),.string (nbs m)] w fun e w'=>e=.returned (.string (nbs (n+m)))∧Below w.heap.size w w':=by
 have:=rAdd_any (nbs n) (nbs m) w hn hm;rwa[vbs_nbs,vbs_nbs] at this
set_option maxRecDepth 100000 in
set_option maxHeartbeats 1600000 in
theorem rParse_loop (s:ByteArray) (w:World) (hs:s.size≤1048576) (h0:0<s.size) (h1:s.size=1∨(s[0]'h0).toNat≠48):
  Calls Tryz.prog 159 #[.string s] w (RetParse s w):=by
 obtain⟨L,hL⟩:∃L,s.data.toList=L:=⟨_,rfl⟩
 have hlen:L.length=s.size:=by rw[←hL];rfl
 have hidx:∀i,(h:i<s.size)→s[i]=L.getD i 0:=by
  intro i h;subst hL;rw[List.getD_eq_getElem?_getD,List.getElem?_eq_getElem (by rw[hlen];exact h)];show s.data[i]=_;simp
 have HP:Hid (parseOk s.data.toList=L.all isDig):=by
  show _=_;rw[hL];unfold parseOk
  have hne:L.isEmpty=false:=by cases L with
   |nil=>simp at hlen;omega
   |cons=>rfl
  rw[hne]
  have:(decide (1<L.length)&&L.head?==some 48)=false:=by
   rw[Bool.and_eq_false_iff];rcases h1 with h1|h1
   ·left;simp;omega
   ·right
    rw[hidx 0 h0] at h1;cases L with
    |nil=>rfl
    |cons c l=>
     simp;intro e;subst e;exact h1 rfl
  rw[this];simp
 have HR:Hid (natParse s.data.toList=if L.all isDig then (nbs (decVal L),true) else (nbs 0,false)):=by
  show _=_;unfold natParse;rw[HP.out,hL]
 have HLEN:=Lib.hid hlen;have HIDX:=Lib.hid hidx;have hc0:¬(1<s.size∧(((s[0]'h0).toNat:Int)=48)):=by omega
 clear hL hlen hidx HP;obtain⟨Z,hZ⟩:∃Z:Nat,(s[0]'h0).toNat=Z:=⟨_,rfl⟩
 have hZ1:1<s.size→((Z:Int)==48)=false:=by
  intro h;rw[beq_eq_false_iff_ne];omega
 have hcase:s.size=1∨(1<s.size∧((Z:Int)==48)=false):=by
  by_cases h:1<s.size
  ·exact .inr ⟨h,hZ1 h⟩
  ·exact .inl (by omega)
 have hT:((s.size:Int)==0)=false:=by rw[beq_eq_false_iff_ne];omega
 clear h1 hc0 hZ1;rcases hcase with hcs|⟨hcs,hz48⟩
 all_goals
  go_enter Tryz.func159,Tryz.ntmps159;go_wp2_with fail
  go_loopw [5,4] (fun iv ov wr=>∃i:Nat,i≤s.size∧iv=.int .i64 i∧ov=.string (nbs (decVal (L.take i)))∧Hid ((L.take i).all isDig=true)∧Below w.heap.size w wr) (fun iv _ _=>s.size-(intOf iv).toNat)
  case atStart=>exact⟨0,by omega,rfl,rfl,rfl,Below.refl _ _⟩
  case round=>
   obtain⟨i,hi,rfl,rfl,hall,hbw⟩:=hrel;by_cases hlt:i<s.size
   ·have hx:=HIDX.out i hlt
    have htk:L.take (i+1)=L.take i++[L.getD i 0]:=by
     rw[List.take_succ_eq_append_getElem (by rw[HLEN.out];exact hlt),getD_lt (by rw[HLEN.out];exact hlt)]
    have HX:=Lib.hid hx;have HT:=Lib.hid htk;obtain⟨x,hxx⟩:∃x:Nat,(s[i]).toNat=x:=⟨_,rfl⟩
    have HXX:=Lib.hid hxx;have hx256:x<256:=by rw[←hxx];exact (s[i]).toNat_lt
    have hxi:((s[i]'hlt).toNat:Int)=x:=by omega
    clear hx htk hxx;by_cases hd:48≤x∧x≤57
    ·obtain⟨d,rfl⟩:∃d,x=48+d:=⟨x-48,by omega⟩
     have hdig:Hid (isDig (L.getD i 0)=true):=by
      show _=_;rw[←HX.out];simp only[isDig,Bool.and_eq_true,decide_eq_true_eq]
      rw[HXX.out];omega
     have hall1:Hid ((L.take (i+1)).all isDig=true):=by
      show _=_;rw[HT.out,List.all_append,hall.out,List.all_cons,hdig.out];rfl
     have hval:Hid (decVal (L.take (i+1))=decVal (L.take i)*10+d):=by
      show _=_;have e1:(L.getD i 0).toNat=48+d:=by rw[←HX.out];exact HXX.out
      have e2:decVal [L.getD i 0]=d:=by show 0*10+((L.getD i 0).toNat-48)=d;omega
      rw[HT.out,decVal_append,e2];simp
     have hbnd:decVal (L.take i)*10<256 ^ (i+1):=by
      have h1:=decVal_lt (L.take i) hall.out;have h2:(10:Nat) ^ (L.take i).length≤256 ^ i:=Nat.le_trans (Nat.pow_le_pow_right (by omega) (List.length_take_le ..)) (Nat.pow_le_pow_left (by omega) i);rw[Nat.pow_succ];omega
     have hs1:(nbs (decVal (L.take i)*10)).size≤1073741824:=Nat.le_trans (nbs_size_le _ _ hbnd) (by omega);have hs0:(nbs (decVal (L.take i))).size≤1073741824:=Nat.le_trans (nbs_size_le _ (i+1) (by omega)) (by omega);have hs10:(nbs 10).size≤1073741824:=Nat.le_trans (nbs_size_le _ 1 (by omega)) (by omega);have hsd:(nbs d).size≤1073741824:=Nat.le_trans (nbs_size_le _ 1 (by omega)) (by omega);obtain⟨D,hD⟩:∃D,decVal (L.take i)=D:=⟨_,rfl⟩
     rw[hD] at hs1 hs0 hval⊢;clear hbnd hD HX HT HXX hdig hall;have htn:(10:Int).toNat=10:=rfl;have hdn:((d:Int)).toNat=d:=Int.toNat_natCast d;have hw1:IntKind.u8.wrap (48+(d:Int)-48)=d:=by rw[show (48:Int)+(d:Int)-48=d from by omega];exact IntWalk.u8_in _ (by omega)
     have hw2:IntKind.i64.wrap (d:Int)=d:=IntWalk.i64_in _ (by omega);go_wp2_with fail
     go_region_held3 (fun w'=>Below w.heap.size w w') (first|assumption|exact below_drewN hbw 1|exact bstep (by assumption) hb1)
      (first
        |(go_at_call 65;(try rw[hw1,hw2]);refine (rOf_any _ _ (by omega) (by omega)).mono ?_;rintro e w1 ⟨rfl,hb1⟩;try simp only[htn,hdn])
        |(go_at_call 66;refine (rMul_nb _ _ _ hs0 hs10).mono ?_;rintro e w1 ⟨rfl,hb1⟩)
        |(go_at_call 73;refine (rAdd_nb _ _ _ hs1 hsd).mono ?_;rintro e w1 ⟨rfl,hb1⟩))
     all_goals
      go_wp2
      go_roundw
      case rel=>
       refine⟨i+1,by omega,by go_num,by rw[hval.out],hall1,by assumption⟩
      case measure=>simp[intOf]<;>omega
    ·have hdig:Hid (L.all isDig=false):=by
      show _=_;rw[List.all_eq_false];refine⟨L.getD i 0,?_,?_⟩
      ·rw[getD_lt (by rw[HLEN.out];exact hlt)];exact List.getElem_mem _
      ·rw[←HX.out];simp only[isDig,Bool.and_eq_true,decide_eq_true_eq]
       rw[HXX.out];omega
     rcases Nat.lt_or_ge x 48 with hx1|hx1
     ·go_wp2;go_ret2;exact⟨by rw[HR.out,hdig.out];rfl,hbw⟩
     ·have hx2:57<x:=by omega
      go_wp2;go_ret2;exact⟨by rw[HR.out,hdig.out];rfl,hbw⟩
   ·obtain rfl:i=s.size:=by omega
    have ht:L.take s.size=L:=List.take_of_length_le (by rw[HLEN.out];omega);rw[ht] at hall⊢;go_wp2;go_ret2;exact⟨by rw[HR.out,hall.out];rfl,hbw⟩
set_option maxHeartbeats 400000 in
theorem rParse_any (s:ByteArray) (w:World) (hs:s.size≤1048576):
  Calls Tryz.prog 159 #[.string s] w (RetParse s w):=by
 by_cases h0:0<s.size
 ·by_cases h1:s.size=1∨(s[0]'h0).toNat≠48
  ·exact rParse_loop s w hs h0 h1
  ·have h2:1<s.size:=by omega
   have hT:((s.size:Int)==0)=false:=by rw[beq_eq_false_iff_ne];omega
   have h3:(((s[0]'h0).toNat:Int)==48)=true:=by rw[beq_iff_eq];omega
   have HE:Hid (natParse s.data.toList=(nbs 0,false)):=by
    show _=_;unfold natParse parseOk;have h4:(s[0]'h0).toNat=48:=by omega
    obtain⟨⟨l⟩⟩:=s;cases l with
    |nil=>exact absurd h0 (by show ¬0<0;omega)
    |cons c l=>
     have h5:c=48:=UInt8.toNat_inj.1 h4;have h6:1<(c::l).length:=h2;subst h5;simp at h6;simp[h6]
   clear h1;go_enter Tryz.func159,Tryz.ntmps159;go_wp2;go_ret2;exact⟨by rw[HE.out];rfl,Below.refl _ _⟩
 ·have hs:s=⟨#[]⟩:=by
   obtain⟨⟨l⟩⟩:=s;cases l with
   |nil=>rfl
   |cons c l=>exact absurd (show 0<(c::l).length by simp) h0
  subst hs;have HE:Hid (natParse (⟨#[]⟩:ByteArray).data.toList=(nbs 0,false)):=rfl;go_enter Tryz.func159,Tryz.ntmps159;go_wp2;go_ret2;exact⟨by rw[HE.out];rfl,Below.refl _ _⟩
structure Ra where
 neg:Bool
 num:ByteArray
 den:ByteArray
deriving DecidableEq
def Ra.v (a:Ra):Value:=.agg #[.bool a.neg,.string a.num,.string a.den]
def low (neg:Bool) (n d:Nat):Ra:=⟨neg&&decide (n≠0),nbs (n / Nat.gcd n d),nbs (d / Nat.gcd n d)⟩
theorem nbs_inj {n m:Nat} (h:nbs n=nbs m):n=m:=by
 have:=congrArg vbs h;rwa[vbs_nbs,vbs_nbs] at this
theorem nbs_isEmpty (n:Nat):(nbs n).toList.isEmpty=decide (n=0):=by
 rw[toList_nbs,Bool.eq_iff_iff,List.isEmpty_iff,decide_eq_true_iff];constructor
 ·intro h;rcases Nat.eq_zero_or_pos n with h0|h0
  ·exact h0
  ·exact absurd h (nb_ne n (by omega))
 ·intro h;subst h;rfl
theorem natQuo_nb (n m K:Nat) (w:World) (hK:K≤536870912) (hn:n<256 ^ K) (hm:m<256 ^ K) (h0:0<m):
  Calls Tryz.prog 172 #[.string (nbs n),.string (nbs m)] w fun e w'=>
   e=.returned (.tuple #[.string (nbs (n / m)),.string (nbs (n % m)),.bool true])∧Below w.heap.size w w':=by
 refine (natQuo_any (nbs n) (nbs m) w (Nat.le_trans (nbs_size_le _ _ hn) hK) (Nat.le_trans (nbs_size_le _ _ hm) hK)).mono ?_;rintro e w' ⟨rfl,hb⟩;rw[vbs_nbs,vbs_nbs];have p0:¬(m=0):=by omega
 rw[if_neg p0,if_neg p0,show (m !=0)=true from by simp[p0]];exact⟨rfl,hb⟩
theorem natGcd_nb (n m K:Nat) (w:World) (hK:K≤536870912) (hn:n<256 ^ K) (hm:m<256 ^ K):
  Calls Tryz.prog 171 #[.string (nbs n),.string (nbs m)] w fun e w'=>e=.returned (.string (nbs (Nat.gcd n m)))∧Below w.heap.size w w':=by
 have:=natGcd_any (nbs n) (nbs m) w (Nat.le_trans (nbs_size_le _ _ hn) hK) (Nat.le_trans (nbs_size_le _ _ hm) hK);rwa[vbs_nbs,vbs_nbs] at this
set_option maxHeartbeats 800000 in
theorem qlowest_any (neg:Bool) (n d K:Nat) (w:World) (hK:K≤536870912) (hn:n<256 ^ K) (hd:d<256 ^ K) (h0:0<d):
  Calls Tryz.prog 147 #[.bool neg,.string (nbs n),.string (nbs d)] w fun e w'=>e=.returned (low neg n d).v∧Below w.heap.size w w':=by
 have hg:0<Nat.gcd n d:=Nat.gcd_pos_of_pos_right _ h0;have hgd:Nat.gcd n d≤d:=Nat.gcd_le_right _ h0;have HG:=Lib.hid (natGcd_nb n d K);have HQ1:=Lib.hid (fun w=>natQuo_nb n (Nat.gcd n d) K w hK hn (by omega) hg);have HQ2:=Lib.hid (fun w=>natQuo_nb d (Nat.gcd n d) K w hK hd (by omega) hg);have HN:=Lib.hid hn;have HD:=Lib.hid hd
 have hdz:(n / Nat.gcd n d=0)↔n=0:=by
  constructor
  ·intro h;rcases Nat.eq_zero_or_pos n with h1|h1
   ·exact h1
   ·have h2:=Nat.gcd_le_left d h1;have:=Nat.div_pos h2 hg;omega
  ·intro h;rw[h];exact Nat.zero_div _
 have hb:(!(nbs (n / Nat.gcd n d)).toList.isEmpty)=decide (n≠0):=by
  rw[nbs_isEmpty,decide_not,Bool.not_eq_eq_eq_not,Bool.not_not,decide_eq_decide,hdz]
 have HBB:=Lib.hid hb;have HLOW:Hid (low neg n d=⟨neg&&decide (n≠0),nbs (n / Nat.gcd n d),nbs (d / Nat.gcd n d)⟩):=rfl;generalize low neg n d=r at*;generalize Nat.gcd n d=g at*;clear hb hdz hgd hn hd;obtain⟨W,hW⟩:∃W,W=w.alloc (.cells #[.bool false,.string ⟨#[]⟩,.string ⟨#[]⟩] 31):=⟨_,rfl⟩
 have hba:Below w.heap.size w W:=by rw[hW];exact (Below.refl _ _).alloc (Nat.le_refl _) _
 have hblk:Blk W w.heap.size 31 [.bool false,.string ⟨#[]⟩,.string ⟨#[]⟩]:=by rw[hW];exact Blk.new w _ _
 cases neg
 all_goals
  go_enter Tryz.func147,Tryz.ntmps147;go_wp2_with fail;simp only[←hW]
  refine (HG.out _ hK HN.out HD.out).mono ?_;rintro e w1 ⟨rfl,hb1⟩;go_wp2_with fail;refine (HQ1.out _).mono ?_;rintro e w2 ⟨rfl,hb2⟩;go_wp2_with fail;refine (HQ2.out _).mono ?_;rintro e w3 ⟨rfl,hb3⟩;have hb13:=bstep (bstep hb1 hb2) hb3;have hk3:=hblk.below hb13 hblk.lt;have hc0:=hk3.cell (i:=0) (by decide);have hc1:=hk3.cell (i:=1) (by decide);have hc2:=hk3.cell (i:=2) (by decide);have hf0:=hk3.frozen 0;have hf1:=hk3.frozen 1;have hf2:=hk3.frozen 2;simp only[List.getElem_cons_zero,List.getElem_cons_succ] at hc0 hc1 hc2;have hbw:=bstep hba hb13;clear hb1 hb2 hb3 hb13 hW;go_wp2
 ·refine bodyPost_ret (v:=.agg #[.bool false,.string (nbs (n / g)),.string (nbs (d / g))]) (by simp[results,Tryz.results147,go_sem,hc0,hc1,hc2]) rfl ⟨?_,((hbw.setCell (Nat.le_refl _) _).setCell (Nat.le_refl _) _).setCell (Nat.le_refl _) _⟩;rw[HLOW.out];rfl
 ·refine bodyPost_ret (v:=.agg #[.bool (!(nbs (n / g)).toList.isEmpty),.string (nbs (n / g)),.string (nbs (d / g))]) (by simp[results,Tryz.results147,go_sem,hc0,hc1,hc2]) rfl ⟨?_,((hbw.setCell (Nat.le_refl _) _).setCell (Nat.le_refl _) _).setCell (Nat.le_refl _) _⟩;rw[HLOW.out,HBB.out];rfl
end Go.Proofs.YtbicehdehiakgaaGreatDoor
