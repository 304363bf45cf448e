/- Part: Text. -/
import Derived.Lib.AppendIntMem
import Derived.Test.YtjpbmbgincdjaaaGreatDoorK10
import Derived.Test.YtjpbmbgincdjaaaGreatDoorK11
set_option linter.all false
set_option maxRecDepth 100000
set_option maxHeartbeats 0
namespace Go.Proofs.YtjpbmbgincdjaaaGreatDoor
open Go.RowKit Go.Sort List Tryz
structure Laid (w:World):Prop where
 pow10:Lib.TabIs prog w "internal/strconv.uint64pow10" .u64 Lib.pow10Tab
 cut:2<w.heap.size/\∃m:Int,w.cell? ⟨2,0,none⟩=some (.int .i64 m)
theorem Laid.below {w w':World} (h:Laid w) (hb:Below w.heap.size w w'):Laid w':=by
 refine⟨?_,Nat.lt_of_lt_of_le h.cut.1 hb.size,h.cut.2.imp fun m hm=>(hb.cell h.cut.1).trans hm⟩;have h1:=h.pow10;unfold Lib.TabIs World.var? at h1⊢;obtain⟨g,hg,hc⟩:=Option.bind_eq_some_iff.1 h1;rw[hg];simp only[Option.bind_some]
 have hlt:g<w.heap.size:=by
  rcases Nat.lt_or_ge g w.heap.size with h|h
  ·exact h
  ·rw[Array.getElem?_eq_none h] at hc;cases hc
 rw[hb.block g hlt];exact hc
def kP (n:Nat):ByteArray:=⟨(Lib.decDigits n).toArray⟩
theorem DW (a:ByteArray) (w:World) (hL:Laid w) (ha:a.size<=1048576):
  Calls prog 155 #[.string a] w fun e w'=>e=.returned (.string (kP (ak a)))/\Below w.heap.size w w':=by
 have HL:=zH hL;clear hL;go_enter func155,ntmps155;go_wp2_with fail;refine (jM a _ (by omega)).mono ?_;rintro e w1 ⟨A1,l1,c1,rfl,h1,hl1,hb1⟩;have H1:=zH h1;have HA:=zH (fE a);have HLEN:=zH (Le _ _ (fE a));clear h1;go_wp2_with fail
 go_loopg [3,4] (ak a) (fun g lv ov wr=>∃(A:Option Addr) (len cap:Nat) (out:List UInt8),lv=.slice A len cap/\ov=.string ⟨out.toArray⟩/\Hid (fF wr A len cap g)/\Hid (Lib.decDigits (ak a)=Lib.decDigits g++out)/\Hid (g<=ak a)/\Below w.heap.size w wr)
 case atStart=>exact⟨A1,l1,c1,[],rfl,rfl,H1,by show _=_;simp,Nat.le_refl _,hb1⟩
 case round=>
  obtain⟨A,len,cap,out,rfl,rfl,HX,hd,hle,hbw⟩:=hrel
  have hol:out.length<=3*a.size+1:=by
   have h1:=congrArg List.length hd.out;rw[length_append] at h1;have h2:=HLEN.out;omega
  have hl:=HX.out.gB (Nat.lt_of_le_of_lt hle.out HA.out);go_wp2_with fail;refine (short_any A len cap gk _ 1000000000 _ rfl HX.out (by omega) (by omega) (by omega)).mono ?_;rintro e w2 ⟨A2,l2,c2,rfl,h2,hb2⟩;have hz:=h2.zero;have DL:=zH h2;have HL2:=zH (HL.out.below (ah hbw hb2));have hr:gk % 1000000000<1000000000:=Nat.mod_lt _ (by omega);have HR:=zH (Nat.div_add_mod gk 1000000000);clear h2
  have HQR:Hid (∀h:0<gk / 1000000000,Lib.decDigits gk=Lib.decDigits (gk / 1000000000)++vW 9 (gk % 1000000000)):=by
   intro h;rw[<-adK 9 _ _ h hr,Nat.mul_comm];exact congrArg _ HR.out.symm
  have HP:=zH (aar 9 (gk % 1000000000) (by omega) hr);have hdl:=IE 9 (gk % 1000000000) (by omega) hr;obtain⟨q,hq⟩:=zF (gk / 1000000000);obtain⟨r,hr'⟩:=zF (gk % 1000000000);have HQ:=zH hq;have HR2:=zH hr';rw[hq] at hz DL HQR;rw[hr'] at hr HP HQR hdl⊢;rw[hq,hr'] at HR;clear hq hr';go_wp2_with fail;refine (Tryz.strconv_Itoa (r:Int) (by omega) (by omega) _ HL2.out.pow10).mono ?_;rintro e w3 ⟨rfl,kk,os,rfl⟩;have hb3:Below w2.heap.size w2 (grow (w2.drewN kk) os):=Lib.below_grow _ _ (Nat.le_refl _) _ _;have hit:Lib.itoa (r:Int)=Lib.decDigits r:=by unfold Lib.itoa;rw[if_neg (by omega)];simp
  rw[hit];obtain⟨w3,hw3⟩:=zF (grow (w2.drewN kk) os);rw[hw3] at hb3⊢;clear hw3 hit;obtain⟨D,hD⟩:=zF (Lib.decDigits r);have HD:=zH hD;rw[hD] at HP hdl⊢;clear hD;by_cases h0:l2=0
  ·have hq0:Hid (q=0):=hz.1 h0;subst h0;clear hz;go_wp2;go_ret;refine⟨?_,ah (ah hbw hb2) hb3⟩
   have e1:gk=r:=by
    have:=HR.out;rw[hq0.out] at this;omega
   unfold kP;rw[hd.out,e1,HD.out];show Ending.returned (.string (⟨D.toArray⟩++⟨out.toArray⟩))=_;congr 2
  ·have hpos:0<l2:=by omega
   have hqp:Hid (0<q):=by
    rcases Nat.eq_zero_or_pos q with h|h
    ·exact absurd (hz.2 h) h0
    ·exact h
   have s1:IntKind.i64.wrap (9-(D.length:Int))=((9-D.length:Nat):Int):=by rw[IntWalk.i64_in _ (by omega)];omega
   clear hz;go_wp2_with fail;refine (Tryz.strings_Repeat ⟨#[48]⟩ (9-D.length) _ (by omega) (by show 1*(9-D.length)<=_;omega)).mono ?_;rintro e w4 ⟨rfl,hb4⟩;have hrep:Lib.repeatL (⟨#[48]⟩:ByteArray).data.toList (9-D.length)=List.replicate (9-D.length) 48:=UO 48 _;rw[hrep];obtain⟨Z,hZ⟩:=zF (List.replicate (9-D.length) (48:UInt8));have hZl:Z.length<=9:=by rw[<-hZ];simp
   have HZ:=zH hZ;rw[hZ];clear hrep hZ s1;have HX5:=zH (DL.out.below (hb3.trans (hb4.mono hb3.size)));have yQ:=ah (ah (ah hbw hb2) hb3) hb4;clear hbw hb2 hb3 hb4;go_wp2
   go_roundg q
   case measure=>have:=HR.out;have:=hqp.out;omega
   case rel=>
    refine⟨A2,l2,c2,vW 9 r++out,rfl,?_,HX5,?_,?_,yQ⟩
    ·rw[HP.out,HZ.out];congr 1
    ·show _=_;rw[hd.out,HQR.out hqp.out,append_assoc]
    ·show _<=_;have:=HR.out;have:=hle.out;omega
end Go.Proofs.YtjpbmbgincdjaaaGreatDoor
