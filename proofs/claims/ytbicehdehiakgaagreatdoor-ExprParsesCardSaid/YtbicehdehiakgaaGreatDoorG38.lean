/- A part of the proof: M0 La Lw M3 M2 Lo Lu M7. -/
import Derived.SevenTiedAt
import Derived.Deep.Slices
import Derived.Test.YtbicehdehiakgaaGreatDoorTie
import Derived.Test.YtbicehdehiakgaaGreatDoorCards
import Derived.Test.YtbicehdehiakgaaGreatDoorG24
import Derived.Test.YtbicehdehiakgaaGreatDoorG27
import Derived.Test.YtbicehdehiakgaaGreatDoorG34
import Derived.Test.YtbicehdehiakgaaGreatDoorG37
set_option linter.unusedVariables false
set_option linter.unusedSimpArgs false
namespace Go.Proofs.YtbicehdehiakgaaGreatDoor
open Go.ChangeShapes Go.WideShapes Go.ChangeAt Go.RowKit
theorem i64_in64 {x:Int} (h:(Lit.int .i64 x).wf=true):-9223372036854775808≤x∧x≤9223372036854775807:=by
 simp only[Lit.wf,Bool.and_eq_true,decide_eq_true_eq] at h;exact⟨h.1,h.2⟩
theorem add_nn (b off m:Nat):(⟨b,off,none⟩:Addr).add m=⟨b,off+m,none⟩:=by unfold Addr.add;split<;>simp_all
set_option maxRecDepth 100000 in
theorem zz_of_trod {H:Type} {enc:TypeId × Value→H} {W:World} {base:Nat} {spare:Nat→Bool} {held:Bool} {r:Reach} {b0:Nat} {v:Value} {d:DataW H} {p:List MemPlace} (hv:Value.okWide Tryz.prog W r b0 27 v) (h:DataW.Trod enc Tryz.prog W base spare held 27 v d p):
  ∃l A n c,v=.slice A n c∧Zz W l A n c:=by
 obtain⟨fuel,hf⟩:=h;have k1:Tryz.prog.cellsOf 3=1:=by kernel_rfl
 obtain⟨A,n,c,rfl⟩:=okWide_slice Tryz.underlying27 hv;rcases open_ints Tryz.underlying27 Tryz.underlying3 k1 hf with⟨hcs,_⟩|⟨a,len,cap,zs,hcs,hb,hl,hm,hzl,hx,hi,hw⟩
 ·have hcs:[Value.slice A n c]=[.slice none 0 0]:=hcs;injection hcs with hcs _;injection hcs with h1 h2 h3;subst h1 h2 h3;exact⟨[],none,0,0,rfl,rfl,Nat.zero_le _,.inl rfl,fun x hx=>by cases hx⟩
 ·have hcs:[Value.slice A n c]=[.slice (some a) len cap]:=hcs;injection hcs with hcs _;injection hcs with h1 h2 h3;subst h1 h2 h3;have hlz:n≤zs.length:=by rw[hzl];split<;>omega
  refine⟨zs.take n,some a,n,c,rfl,by rw[List.length_take];omega,Nat.le_trans hl hm,?_,fun x hx=>i64_in64 (hw x (List.mem_of_mem_take hx))⟩;by_cases hn:n=0
  ·subst hn;exact .inl rfl
  ·have h00:=hi 0 (by omega);obtain⟨b,off,spot⟩:=a
   have hspot:spot=none:=by
    have:=World.cell?_spot h00;simpa [Addr.add] using this
   subst hspot;refine .inr ⟨b,off,rfl,?_,fun i hil=>?_⟩
   ·rw[add_nn] at h00;exact cell_lt h00
   ·rw[Zs_length,List.length_take] at hil;have h1:=hi i (by omega);rw[add_nn] at h1;rw[h1]
    have:(Zs (zs.take n))[i]'(by rw[Zs_length,List.length_take];exact hil)=.int .i64 (zs.getD i 0):=by
     simp only[Zs,List.getElem_map,List.getElem_take]
     rw[List.getD_eq_getElem?_getD,List.getElem?_eq_getElem (by omega)];rfl
    rw[this]
end Go.Proofs.YtbicehdehiakgaaGreatDoor
namespace Go.Proofs.YtbicehdehiakgaaGreatDoor
open Go.RowKit
theorem ArgsAt.row2 {w:World} {ls:List (List Nat)} {A:Option Addr} {n c:Nat} (h:ArgsAt w ls A n c) {k:Nat} {l:List Nat} (hk:ls[k]?=some l):
  ∃b off A' c',A=some ⟨b,off,none⟩∧b<w.heap.size∧w.cell? ⟨b,off+k,none⟩=some (.slice A' l.length c')∧Rd w A' (I l)∧l.length≤maxLen:=by
 obtain⟨h1,h2,h3,cs,h4,h5⟩:=h;obtain⟨v,hv,A',c',rfl,hc1,hc2,hr,_⟩:=h5.row k l hk;obtain⟨hkc,hvk⟩:=List.getElem?_eq_some_iff.1 hv;obtain⟨b,off,hA,hb,hc⟩:=h4.at_ hkc;exact⟨b,off,A',c',hA,hb,by rw[hc k hkc,hvk],hr,Nat.le_trans hc1 hc2⟩
set_option maxRecDepth 100000 in
set_option maxHeartbeats 3200000 in
theorem lalike_any (es:List Nd) (A1:Option Addr) (l1 c1:Nat) (w:World) (hL:LaidE w) (h1:Es w es A1 l1 c1) (hf1:∀n∈es,Fine n):
  Calls Tryz.prog 14 #[.slice A1 l1 c1] w fun e w'=>e=.returned (.bool true)∧Below w.heap.size w w':=by
 have HA1:Hid (∀W,Below w.heap.size w W→Calls Tryz.prog 23 #[.slice A1 l1 c1] W (RetArgs (checkE es==0) (if checkE es=0 then argsE es else []) W)):=fun W hb=>eArgs_any es A1 l1 c1 W (hL.below hb) (h1.below hb) hf1
 have HA2:Hid (∀W,Below w.heap.size w W→Calls Tryz.prog 41 #[.slice A1 l1 c1] W (RetArgs (checkE es==0) (if checkE es=0 then argsE es else []) W)):=fun W hb=>gArgs_any es A1 l1 c1 W (h1.below hb) hf1
 have HT1:Hid (∀W,Below w.heap.size w W→Calls Tryz.prog 22 #[.slice A1 l1 c1] W fun e w'=>e=.returned (.tuple #[.string ⟨(if checkE es=0 then textE es else []).toArray⟩,.int .i64 (checkE es)])∧Below W.heap.size W w'):=fun W hb=>eText_any es A1 l1 c1 W (hL.below hb) (h1.below hb) hf1
 have HT2:Hid (∀W,Below w.heap.size w W→Calls Tryz.prog 19 #[.slice A1 l1 c1] W fun e w'=>e=.returned (.tuple #[.string ⟨(if checkE es=0 then textE es else []).toArray⟩,.int .i64 (checkE es)])∧Below W.heap.size W w'):=fun W hb=>gText_any es A1 l1 c1 W (h1.below hb) hf1
 have HC1:Hid (∀W,Below w.heap.size w W→Calls Tryz.prog 18 #[.slice A1 l1 c1] W fun e w'=>e=.returned (.int .i64 (checkE es))∧Below W.heap.size W w'):=fun W hb=>check_any es A1 l1 c1 W (hL.below hb) h1.len h1.cap h1.max (h1.rd.below hb) hf1
 have HC2:Hid (∀W,Below w.heap.size w W→Calls Tryz.prog 42 #[.slice A1 l1 c1] W fun e w'=>e=.returned (.int .i64 (checkE es))∧Below W.heap.size W w'):=fun W hb=>gCheck_any es A1 l1 c1 W h1.len h1.cap h1.max (h1.rd.below hb) hf1
 have HR1:Hid (∀W,Below w.heap.size w W→Calls Tryz.prog 25 #[.slice A1 l1 c1] W fun e w'=>∃A n c,e=.returned (.slice A n c)∧Es w' (refsE es) A n c∧Below W.heap.size W w'):=fun W hb=>eRefs_any es A1 l1 c1 W (hL.below hb) (h1.below hb) hf1
 have HR2:Hid (∀W,Below w.heap.size w W→Calls Tryz.prog 43 #[.slice A1 l1 c1] W fun e w'=>∃A n c,e=.returned (.slice A n c)∧Es w' (refsE es) A n c∧Below W.heap.size W w'):=fun W hb=>gRefs_any es A1 l1 c1 W (h1.below hb) hf1
 have HML:Hid (∀L:List (List Nat),(if checkE es=0 then argsE es else [])=L→L.length≤60):=by
  rintro L rfl;split
  ·next h=>unfold argsE;rw[runA_length];exact ((checkE_iff es).1 h).1
  ·simp
 generalize hLs:(if checkE es=0 then argsE es else [])=ls at*;generalize hTx:(if checkE es=0 then textE es else [])=tx at*;have HML2:=Lib.hid (HML.out ls rfl);generalize checkE es=z at*;generalize refsE es=re at*;obtain⟨ok,hok⟩:∃ok,(z==0)=ok:=⟨_,rfl⟩
 rw[hok] at HA1 HA2;clear h1 hf1 hL hLs hTx hok HML;go_enter Tryz.func14,Tryz.ntmps14;go_wp2_with fail;refine (HA1.out _ (Below.refl _ _)).mono ?_;rintro e w1 ⟨Aa,na,ca,rfl,hat1,hb1⟩;go_wp2_with fail;refine (HA2.out _ hb1).mono ?_;rintro e w2 ⟨Ab,nb,cb,rfl,hat2,hb2⟩;have hat1:=hat1.below hb2;have hb2:=bstep hb1 hb2;clear hb1;go_wp2_with fail;refine (HT1.out _ hb2).mono ?_;rintro e w3 ⟨rfl,hb3⟩;have hat1:=hat1.below hb3;have hat2:=hat2.below hb3;have hb3:=bstep hb2 hb3;clear hb2;go_wp2_with fail;refine (HT2.out _ hb3).mono ?_;rintro e w4 ⟨rfl,hb4⟩;have hat1:=hat1.below hb4;have hat2:=hat2.below hb4;have hb4:=bstep hb3 hb4;clear hb3;go_wp2_with fail;refine (HC1.out _ hb4).mono ?_;rintro e w5 ⟨rfl,hb5⟩;have hat1:=hat1.below hb5;have hat2:=hat2.below hb5;have hb5:=bstep hb4 hb5;clear hb4;go_wp2_with fail;refine (HC2.out _ hb5).mono ?_;rintro e w6 ⟨rfl,hb6⟩;have hat1:=hat1.below hb6;have hat2:=hat2.below hb6;have hb6:=bstep hb5 hb6;clear hb5;obtain rfl:na=ls.length:=hat1.len;obtain rfl:nb=ls.length:=hat2.len;go_wp2_with fail;refine (HR1.out _ hb6).mono ?_;rintro e w7 ⟨Ar,nr,cr,rfl,her,hb7⟩;have hat1:=hat1.below hb7;have hat2:=hat2.below hb7;have hb7:=bstep hb6 hb7;clear hb6;go_wp2_with fail;refine (HR2.out _ hb7).mono ?_;rintro e w8 ⟨As,ns,cs,rfl,hes,hb8⟩;have hat1:=hat1.below hb8;have hat2:=hat2.below hb8;have her:=her.below hb8;have hb8:=bstep hb7 hb8;have HSM:=Lib.hid (gSame_any re re Ar As nr cr ns cs w8 her.len hes.len (Nat.le_trans her.cap her.max) (Nat.le_trans hes.cap hes.max) her.rd hes.rd);rw[decide_eq_true (rfl:re=re)] at HSM;have HAT1:=Lib.hid hat1;have HAT2:=Lib.hid hat2;have HB8:=Lib.hid hb8;have hl60:=HML2.out;clear hb7 hb8 her hes hat1 hat2 HA1 HA2 HT1 HT2 HC1 HC2 HR1 HR2;go_wp2_with fail;refine HSM.out.mono ?_;rintro e w9 ⟨rfl,nq,rfl⟩;go_wp2_with fail
 go_loopg [11] ls.length (fun g iv wr=>∃k:Nat,k+g=ls.length∧iv=.int .i64 k∧Below w8.heap.size w8 wr)
 case atStart=>exact⟨0,by omega,rfl,below_drewN (Below.refl _ _) _⟩
 case round=>
  obtain⟨k,hk,rfl,hbr⟩:=hrel;by_cases hlt:k<ls.length
  ·obtain⟨l,hl⟩:∃l,ls[k]?=some l:=⟨_,List.getElem?_eq_getElem hlt⟩
   obtain⟨b1,o1,X1,d1,hA1,hb1,hx1,hr1,hlm⟩:=HAT1.out.row2 hl;obtain⟨b2,o2,X2,d2,hA2,hb2,hx2,hr2,_⟩:=HAT2.out.row2 hl;subst hA1 hA2;unfold maxLen at hlm;have HX:Hid (∀W,Below w8.heap.size w8 W→W.cell? ⟨b1,o1+k,none⟩=some (.slice X1 l.length d1)∧W.cell? ⟨b2,o2+k,none⟩=some (.slice X2 l.length d2)):=fun W hb=>⟨(hb.cell hb1).trans hx1,(hb.cell hb2).trans hx2⟩
   have HR1:=Lib.hid hr1;have HR2:=Lib.hid hr2;clear hb1 hb2 hx1 hx2 hr1 hr2;obtain⟨h1,h2⟩:=HX.out _ hbr;go_wp2;go_quiet (fail);have HBQ:=Lib.hid (below_drewN hbr nq);clear h1 h2 hbr;go_wp2
   go_loopg [12] l.length (fun g iv wq=>∃i:Nat,i+g=l.length∧iv=.int .i64 i∧Below w8.heap.size w8 wq)
   case atStart=>exact⟨0,by omega,rfl,HBQ.out⟩
   case round=>
    obtain⟨i,hi,rfl,hbq⟩:=hrel;obtain⟨h1,h2⟩:=HX.out _ hbq;by_cases hil:i<l.length
    ·obtain⟨b3,o3,hA3,hb3,hc3⟩:=(HR1.out.below hbq).at_ (k:=i) (by rw[I_length];exact hil);obtain⟨b4,o4,hA4,hb4,hc4⟩:=(HR2.out.below hbq).at_ (k:=i) (by rw[I_length];exact hil);subst hA3 hA4;have h3:=hc3 i (by rw[I_length];exact hil);have h4:=hc4 i (by rw[I_length];exact hil);rw[I_get] at h3 h4;generalize l.getD i 0=x at*;have HBQ2:=Lib.hid hbq;clear hc3 hc4 hb3 hb4 hbq;go_wp2;go_quiet (fail);go_wp2
     go_roundg (l.length-(i+1))
     case measure=>omega
     case rel=>exact⟨i+1,by omega,by go_num,below_drewN HBQ2.out _⟩
    ·have hx1:decide (i<l.length)=false:=decide_eq_false hil;go_wp2
     go_roundg (ls.length-(k+1))
     case measure=>omega
     case rel=>exact⟨k+1,by omega,by go_num,hbq⟩
  ·have hx1:decide (k<ls.length)=false:=decide_eq_false hlt;go_wp2;go_ret;exact⟨rfl,HB8.out.trans (hbr.mono HB8.out.size)⟩
end Go.Proofs.YtbicehdehiakgaaGreatDoor
namespace Go.Proofs.YtbicehdehiakgaaGreatDoor
open Go.ChangeShapes Go.WideShapes Go.ChangeAt Go.RowKit
theorem u8_in {x:Int} (h:(Lit.int .u8 x).wf=true):0≤x∧x≤255:=by
 simp only[Lit.wf,Bool.and_eq_true,decide_eq_true_eq] at h;exact⟨h.1,h.2⟩
end Go.Proofs.YtbicehdehiakgaaGreatDoor
namespace Go.Proofs.YtbicehdehiakgaaGreatDoor
open Go.RowKit
def occB (es:List Nd) (name:ByteArray):Bool:=(refsE es).any fun n=>decide (n.op=6)&&decide (n.name=name)
theorem occB_iff {es:List Nd} (h:checkE es=0) (name:ByteArray):occB es name=true↔∃n∈es,n.op=6∧n.name=name:=by
 obtain⟨_,hm⟩:=refsE_spec h;unfold occB;rw[List.any_eq_true];constructor
 ·rintro⟨n,hn,h2⟩;simp only[Bool.and_eq_true,decide_eq_true_eq] at h2;exact⟨n,(List.mem_filter.1 ((hm n).1 hn)).1,h2⟩
 ·rintro⟨n,hn,h1,h2⟩;refine⟨n,(hm n).2 (List.mem_filter.2 ⟨hn,?_⟩),by simp[h1,h2]⟩;rw[h1];rfl
theorem chk_add {b:List Nd}:∀{k:Nat},chk b k=0→∀(d:Nat) (r:List Nd),chk (b++r) (k+d)=chk r (1+d):=by
 induction b with
 |nil=>
  intro k h d r;rw[chk] at h;by_cases hk:k=1
  ·rw[hk];rfl
  ·rw[if_neg hk] at h;cases h
 |cons n b ih=>
  intro k h d r;obtain⟨h1,h2,h3⟩:=chk_zero h;show chk (n::(b++r)) (k+d)=_;rw[chk,if_neg (by simp[h1]),if_neg (by omega),show k+d-(shp n.op).ops+1=(k-(shp n.op).ops+1)+d from by omega];exact ih h3 d r
theorem chk_sub {b:List Nd} (hb:chk b 0=0) (name:ByteArray):∀(e:List Nd) (d:Nat),chk e d=0→chk (subL e name b) d=0:=by
 intro e
 induction e with
 |nil=>intro d h;exact h
 |cons n e ih=>
  intro d h;obtain⟨h1,h2,h3⟩:=chk_zero h;unfold subL;rw[List.flatMap_cons];show chk ((if n.op=6∧n.name=name then b else [n])++subL e name b) d=0;by_cases hc:n.op=6∧n.name=name
  ·rw[if_pos hc];have:=chk_add hb d (subL e name b);rw[Nat.zero_add] at this;rw[this];have ho:(shp n.op).ops=0:=by rw[hc.1];rfl
   rw[ho] at h3;have h4:=ih _ h3;rw[show 1+d=d-0+1 from by omega];exact h4
  ·rw[if_neg hc];show chk (n::subL e name b) d=0;rw[chk,if_neg (by simp[h1]),if_neg (by omega)];exact ih _ h3
theorem check_chk {e:List Nd} (h:checkE e=0):chk e 0=0:=by
 have h0:=h;unfold checkE at h;rwa[if_neg (by have:=((checkE_iff e).1 h0).1;omega)] at h
theorem sub_check {e b:List Nd} (he:checkE e=0) (hb:checkE b=0) (name:ByteArray) (hl:(subL e name b).length≤60):checkE (subL e name b)=0:=by
 unfold checkE;rw[if_neg (by omega)];exact chk_sub (check_chk hb) name e 0 (check_chk he)
theorem sub_occ {e b:List Nd} (he:checkE e=0) (hb:checkE b=0) (name:ByteArray) (hl:(subL e name b).length≤60):occB (subL e name b) name=(occB e name&&occB b name):=by
 rw[Bool.eq_iff_iff,Bool.and_eq_true,occB_iff (sub_check he hb name hl),occB_iff he,occB_iff hb];unfold subL;constructor
 ·rintro⟨n,hn,h1,h2⟩;obtain⟨m,hm,hn⟩:=List.mem_flatMap.1 hn;by_cases hc:m.op=6∧m.name=name
  ·rw[if_pos hc] at hn;exact⟨⟨m,hm,hc⟩,n,hn,h1,h2⟩
  ·rw[if_neg hc] at hn;obtain rfl:n=m:=by simpa using hn
   exact absurd ⟨h1,h2⟩ hc
 ·rintro⟨⟨m,hm,hc⟩,n,hn,h1,h2⟩;exact⟨n,List.mem_flatMap.2 ⟨m,hm,by rw[if_pos hc];exact hn⟩,h1,h2⟩
end Go.Proofs.YtbicehdehiakgaaGreatDoor
