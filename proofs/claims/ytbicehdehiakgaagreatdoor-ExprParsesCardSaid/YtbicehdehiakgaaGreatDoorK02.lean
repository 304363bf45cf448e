/- A part of the proof: Ha. -/
import Derived.Deep.Cut
import Derived.Deep.CutRange
import Derived.Test.YtbicehdehiakgaaGreatDoorK01
set_option linter.unusedVariables false
set_option linter.unusedSimpArgs false
namespace Go.Proofs.YtbicehdehiakgaaGreatDoor
open Go.RowKit
structure GN (R N:Nat) (w:World) (v:Value) (s:List UInt8) (b:Int) (bad:Bool) (cs:List Value) (W:World):Prop where
 r:Blk W R 87 [.string ⟨s.toArray⟩,v,.int .i64 b,.bool bad]
 n:Blk W N 33 cs
 o:Onl R w W
 lt:w.heap.size≤N∧R<N
section
variable {R N:Nat} {w W W':World} {v:Value} {s s2:List UInt8} {b b2:Int} {bad bad2:Bool} {cs:List Value}
theorem GN.call (h:GN R N w v s b bad cs W) (ho:Onl R W W') (hk:Blk W' R 87 [.string ⟨s2.toArray⟩,v,.int .i64 b2,.bool bad2]):GN R N w v s2 b2 bad2 cs W':=
 ⟨hk,ho.blk h.n (by have:=h.lt.2;omega),h.o.trans ho,h.lt⟩
theorem GN.below (h:GN R N w v s b bad cs W) (hb:Below W.heap.size W W'):GN R N w v s b bad cs W':=h.call (Onl.of_below hb) (h.r.below hb h.r.lt)
theorem GN.alloc (h:GN R N w v s b bad cs W) (o:Obj):GN R N w v s b bad cs (W.alloc o):=h.below ((Below.refl _ _).alloc (Nat.le_refl _) _)
theorem GN.drew (h:GN R N w v s b bad cs W):GN R N w v s b bad cs W.drew:=h.call (Onl.refl _ _).drew h.r.drew
theorem GN.drewN (h:GN R N w v s b bad cs W) (n:Nat):GN R N w v s b bad cs (W.drewN n):=h.call ((Onl.refl _ _).drewN n) (h.r.drewN n)
theorem GN.set (h:GN R N w v s b bad cs W) (i:Nat) (x:Value):GN R N w v s b bad (cs.set i x) (W.setCell ⟨N,i,none⟩ x):=
 ⟨h.r.other (by have:=h.lt.2;show R≠N;omega) _,h.n.set i x,h.o.fresh h.lt.1 i x,h.lt⟩
theorem GN.setBad (h:GN R N w v s b bad cs W):GN R N w v s b true cs (W.setCell ⟨R,3,none⟩ (.bool true)):=h.call ((Onl.refl _ _).set 3 _) (h.r.set 3 _)
theorem GN.gs {s0:List UInt8} {ns:List Nd} {b0:Int} {bad0:Bool} (h0:GS R w v s0 ns b0 bad0 w v) (h:GN R N w v s b bad cs W):GS R w v s ns b bad W v:=⟨h.r,own_onlG h0.own h.o,PF.of_onl h.o⟩
theorem GN.post (h:GN R N w v s b true cs W) (hw:R<w.heap.size):GPost none R v w (.returned (.tuple #[])) W:=⟨rfl,_,_,_,h.r,h.o.below (Nat.le_refl _) (Nat.le_of_lt hw)⟩
end
def plA (s:List UInt8):Nat:=(placeOf ⟨(dotA s).1.toArray⟩).toNat
theorem plA_at (s:List UInt8) (k:Nat) (hk:5≤k∧k≤24):plA s=k↔(⟨(shp (k:Int)).word.toArray⟩:ByteArray)=⟨(dotA s).1.toArray⟩:=by
 unfold plA;have h1:=place_at (q:=(dotA s).1) hk;constructor
 ·intro h;rcases place_neg ⟨(dotA s).1.toArray⟩ with hp|⟨j,hp⟩
  ·rw[hp] at h;omega
  ·rw[hp] at h;have:j=k:=by omega
   subst this;rw[h1.2 hp]
 ·intro h
  have h2:(shp (k:Int)).word=(dotA s).1:=by
   have:=congrArg (fun b:ByteArray=>b.data.toList) h;simpa using this
  rw[h1.1 h2];omega
theorem plA_lt (s:List UInt8):plA s≤24∧(plA s=0→placeOf ⟨(dotA s).1.toArray⟩<0)∧(plA s≠0→5≤plA s∧placeOf ⟨(dotA s).1.toArray⟩=(plA s:Int)):=by
 unfold plA;rcases place_neg ⟨(dotA s).1.toArray⟩ with hp|⟨j,hp⟩
 ·rw[hp];exact⟨by decide,fun _=>by decide,fun h=>absurd rfl h⟩
 ·have:=place_ge hp;rw[hp];exact⟨by omega,fun h=>by omega,fun _=>by omega⟩
theorem GS.here {R:Nat} {w w1:World} {v v1:Value} {s:List UInt8} {ns:List Nd} {b:Int} {bad:Bool} (h:GS R w v s ns b bad w1 v1):GS R w1 v1 s ns b bad w1 v1:=⟨h.blk,h.own,PF.of_onl (Onl.refl _ _)⟩
theorem GS.trans {R:Nat} {w w1 w2:World} {v v1 v2:Value} {s s2:List UInt8} {ns ns2:List Nd} {b b2:Int} {bad bad2:Bool} (h:GS R w v s ns b bad w1 v1) (k:GS R w1 v1 s2 ns2 b2 bad2 w2 v2):GS R w v s2 ns2 b2 bad2 w2 v2:=⟨k.blk,k.own,h.pf.trans k.pf⟩
theorem GS.setBad {R:Nat} {w w1:World} {v v1:Value} {s:List UInt8} {ns:List Nd} {b:Int} {bad:Bool} (h:GS R w v s ns b bad w1 v1):GS R w v s ns b true (w1.setCell ⟨R,3,none⟩ (.bool true)) v1:=h.onl ((Onl.refl _ _).set 3 _) (h.blk.set 3 _)
theorem PF.nown {R N:Nat} {w w':World} {v v':Value} (h:PF R w v w' v') (hv:v.ownBlock≠some N) (hN:N<w.heap.size):v'.ownBlock≠some N:=fun he=>by
 rcases h.own N he with h1|h1
 ·exact hv h1
 ·omega
def tlG (oo:Nat) (x:Nd) (t:PS):Option PS:=if 0<oo then (if Lib.hasPrefix t.1 [41] then some (t.1.drop 1,t.2.1++[x],t.2.2) else none) else some (t.1,t.2.1++[x],t.2.2)
theorem tailA_eq (p:List UInt8→List Nd→Nat→Option PS) (k:Int) (s:List UInt8) (ns:List Nd) (b:Nat):tailA p k s ns b=
  (stpA (shp k).stp (if (shp k).nam then spanR namesL s else s)).bind fun q=>(opsA p (shp k).ops 0 q.2 ns b).bind (tlG (shp k).ops ⟨k,q.1,⟨(if (shp k).nam then spanW namesL s else []).toArray⟩⟩):=rfl
theorem cat_list (a b:List UInt8):(⟨a.toArray⟩:ByteArray)++⟨b.toArray⟩=⟨(a++b).toArray⟩:=by
 apply ByteArray.ext;simp
set_option maxRecDepth 100000 in
set_option maxHeartbeats 3200000 in
theorem gx_op (f:Nat) (R:Nat) (c:UInt8) (l:List UInt8) (ns:List Nd) (b:Nat) (v:Value) (w:World) (h0:GS R w v (c::l) ns b false w v) (hs:(c::l).length≤1000000) (hb:b≤59) (hns:ns.length≤b) (hc97:97≤c.toNat) (hy:spanW lettersL (c::l)≠yesL) (hn:spanW lettersL (c::l)≠noL)
  (ih:∀(s:List UInt8) (ns:List Nd) (b:Nat) (v:Value) (w:World),GS R w v s ns b false w v→s.length≤1000000→b≤60→61≤b+f→ns.length≤b→Calls Tryz.prog 54 #[.pointer (some ⟨R,0,none⟩)] w (GPost (parA f s ns b) R v w)) (hbf:61≤b+1+f):
  Calls Tryz.prog 54 #[.pointer (some ⟨R,0,none⟩)] w (GPost (parA (f+1) (c::l) ns b) R v w):=by
 have HIH:=Lib.hid ih;obtain⟨T,hT⟩:∃T,T=parA (f+1) (c::l) ns b:=⟨_,rfl⟩
 rw[←hT];rw[parA_word f ns b hb hc97,if_neg hy,if_neg hn] at hT;have hc:=h0.blk.cells;have hf:=h0.blk.froz;have hb1:((b:Int)+1)≤60:=by omega
 have hw1:IntKind.i64.wrap ((b:Int)+1)=(b:Int)+1:=IntWalk.i64_in _ (by omega);obtain⟨W1,hW1⟩:∃W1,W1=w.setCell ⟨R,2,none⟩ (.int .i64 ((b:Int)+1)):=⟨_,rfl⟩
 have HO1:Hid (Onl R w W1):=by show Onl _ _ _;rw[hW1];exact (Onl.refl R w).set 2 _
 have hk1:Blk W1 R 87 [.string ⟨(c::l).toArray⟩,v,.int .i64 ((b:Int)+1),.bool false]:=by rw[hW1];exact h0.blk.set 2 _
 have h36:Lib.hasPrefix (c::l) [36]=false:=by
  rw[prefix_one];simp only[List.head?_cons,beq_eq_false_iff_ne,ne_eq,Option.some.injEq]
  rintro rfl;revert hc97;decide
 obtain⟨bs,hbs⟩:∃bs:ByteArray,(⟨(c::l).toArray⟩:ByteArray)=bs:=⟨_,rfl⟩
 have hne:((bs.size:Int)==0)=false:=by rw[beq_eq_false_iff_ne,←hbs];show ((l.length+1:Nat):Int)≠0;omega
 have h0s:0<bs.size:=by rw[←hbs];exact Nat.succ_pos _
 have hlt:¬((bs[0].toNat:Int)<97):=by subst hbs;show ¬((c.toNat:Int)<97);omega
 generalize c::l=s at*;have HIS:=fun (W:World) (hk:Blk W R 87 [.string ⟨s.toArray⟩,v,.int .i64 ((b:Int)+1),.bool false])=>gIs_at s [36] R _ _ W hk
 rw[h36] at HIS;simp only[Bool.false_eq_true,if_false] at HIS;have HWO:=fun (W:World) (hk:Blk W R 87 [.string ⟨s.toArray⟩,v,.int .i64 ((b:Int)+1),.bool false])=>gWord_l s lettersL R _ _ W hk hs (by decide)
 unfold lettersL at HWO;rw[show ([97,98,99,100,101,102,103,104,105,106,107,108,109,110,111,112,113,114,115,116,117,118,119,120,121,122]:List UInt8)=lettersL from rfl] at HWO;have HIS:=Lib.hid HIS;have HOW:=Lib.hid h0.own;have HRL:=Lib.hid (Nat.le_of_lt h0.blk.lt);have H0:=Lib.hid h0;obtain⟨hp1,hp2,hp3⟩:=plA_lt s
 have HP3:Hid (plA s≠0→5≤plA s∧T=tailA (parA f) (plA s:Int) (dotA s).2 ns (b+1)):=fun h=>by
  obtain⟨h1,h2⟩:=hp3 h;refine⟨h1,?_⟩;rw[hT,h2,if_neg (by omega)]
 have HP2:Hid (plA s=0→T=none):=fun h=>by rw[hT,if_pos (hp2 h)]
 have HAT:=Lib.hid (plA_at s);obtain⟨hd1,hd2⟩:=dotA_len s
 have hDT:Lib.hasPrefix (spanR lettersL s) [46]=true→(⟨(spanW lettersL s).toArray⟩:ByteArray)++⟨#[46]⟩=⟨(dotA s).1.toArray⟩∧(spanR lettersL s).drop 1=(dotA s).2:=fun h=>by
  unfold dotA;rw[if_pos h];exact⟨cat_list _ [46],rfl⟩
 have hDF:Lib.hasPrefix (spanR lettersL s) [46]=false→(⟨(spanW lettersL s).toArray⟩:ByteArray)=⟨(dotA s).1.toArray⟩∧spanR lettersL s=(dotA s).2:=fun h=>by
  unfold dotA;rw[h];exact⟨rfl,rfl⟩
 have HDT:=Lib.hid hDT;have HDF:=Lib.hid hDF;have hsw:(spanW lettersL s).length≤1000000:=Nat.le_trans (spanW_len _ _) hs;have hyb:((⟨(spanW lettersL s).toArray⟩:ByteArray).toList==[121,101,115])=false:=ba_ne hy;have hnb:((⟨(spanW lettersL s).toArray⟩:ByteArray).toList==[110,111])=false:=ba_ne hn;have hyc:¬((⟨(spanW lettersL s).toArray⟩:ByteArray).toList=[121,101,115]):=by rw[ByteArray.toList_eq];exact hy
 have hnc:¬((⟨(spanW lettersL s).toArray⟩:ByteArray).toList=[110,111]):=by rw[ByteArray.toList_eq];exact hn
 have HID:=Lib.hid (fun (W:World) (hk:Blk W R 87 [.string ⟨(spanR lettersL s).toArray⟩,v,.int .i64 ((b:Int)+1),.bool false])=>gIs_at (spanR lettersL s) [46] R _ _ W hk);have hsw2:(⟨(spanW lettersL s).toArray⟩:ByteArray).size≤1000000:=hsw;have hr1:(dotA s).2.length≤1000000:=by omega
 generalize Lib.hasPrefix (spanR lettersL s) [46]=dot at*;generalize spanR lettersL s=rs at*;generalize (⟨(spanW lettersL s).toArray⟩:ByteArray)=sw at*;generalize (⟨(dotA s).1.toArray⟩:ByteArray)=D at*;generalize plA s=pl at*;generalize (dotA s).2=r1 at*;have HWO:=Lib.hid HWO;have HBS:=Lib.hid hbs;rw[hbs] at hc;have HSW:=Lib.hid hsw2;clear ih h0 hbs hs hc97 hy hn h36 hT hp2 hp3 hd1 hd2 hDT hDF hsw hsw2;go_enter Tryz.func54,Tryz.ntmps54;go_wp2_with fail;simp only[←hW1]
 clear hW1 hc hf;refine (HIS.out _ hk1).mono ?_;rintro e w2 ⟨rfl,hk2,ho2⟩;have HO2:Hid (Onl R w w2):=HO1.out.trans ho2;have hc:=hk2.cells;rw[HBS.out] at hc;have HK2:=Lib.hid hk2;clear hk1 ho2 hk2 HIS hne HO1;go_wp2_with fail;refine (HWO.out _ HK2.out).mono ?_;rintro e w3 ⟨rfl,hk3,ho3⟩;have HO3:Hid (Onl R w w3):=HO2.out.trans ho3;have HK3:=Lib.hid hk3;clear hk3 ho3 hc HK2 HO2;go_wp2_with fail;refine (HID.out _ HK3.out).mono ?_;rintro e w4 ⟨rfl,hk4,ho4⟩
 have hk4:Blk w4 R 87 [.string ⟨r1.toArray⟩,v,.int .i64 ((b:Int)+1),.bool false]:=by
  cases dot
  ·rw[←(HDF.out rfl).2];exact hk4
  ·rw[←(HDT.out rfl).2];exact hk4
 have HO4:Hid (Onl R w w4):=HO3.out.trans ho4;have HK4:=Lib.hid hk4;clear hk4 ho4 HK3 HO3
 go_upto_if 117 with fail
 go_cut [5] from 118 (fun sv wc=>sv=.string D∧wc=w4)
 case first=>
  cases dot
  ·have hsd:=(HDF.out rfl).1;subst hsd;go_wp2
   go_meet
   case rel=>exact⟨rfl,rfl⟩
  ·have hsd:=(HDT.out rfl).1;have hsm:¬(9223372036854775807<sw.size+(⟨#[46]⟩:ByteArray).size):=by have:=HSW.out;show ¬(_<_+1);omega
   go_wp2
   go_meet
   case rel=>exact⟨rfl,rfl⟩
 case rest=>
  obtain⟨rfl,hwc⟩:=hcut;rw[hwc];clear hwc hyb hnb hyc hnc;obtain⟨W5,hW5⟩:∃W5,W5=w4.alloc (.cells #[.int .i64 0,.bool false,.string ⟨#[]⟩,.string ⟨#[]⟩,.string ⟨#[]⟩] 33):=⟨_,rfl⟩
  obtain⟨N,hN⟩:∃N,N=w4.heap.size:=⟨_,rfl⟩
  have HGN:Hid (GN R N w v r1 ((b:Int)+1) false [.int .i64 0,.bool false,.string ⟨#[]⟩,.string ⟨#[]⟩,.string ⟨#[]⟩] W5):=by
   refine⟨?_,?_,?_,?_,?_⟩
   ·rw[hW5];exact HK4.out.alloc _
   ·rw[hW5,hN];exact Blk.new w4 _ _
   ·rw[hW5];exact HO4.out.trans (Onl.of_below ((Below.refl _ _).alloc (Nat.le_refl _) _))
   ·rw[hN];exact HO4.out.size
   ·rw[hN];exact HK4.out.lt
  clear HK4 HO4 HDF HDT HID HWO HIS HSW HBS
  go_upto_region 22 with fail
  simp only[←hW5,←hN]
  clear hW5 hN;have hpl:pl≤24:=hp1;go_wp2_with fail
  go_loopg [9] 20 (fun g ov wr=>∃k:Nat,k+g=25∧5≤k∧ov=.int .i64 k∧Hid (GN R N w v r1 ((b:Int)+1) false [.int .i64 (if pl<k then (pl:Int) else 0),.bool false,.string ⟨#[]⟩,.string ⟨#[]⟩,.string ⟨#[]⟩] wr))
  case atStart=>
   refine⟨5,by omega,Nat.le_refl _,rfl,?_⟩
   have h:(if pl<5 then (pl:Int) else 0)=0:=by
    by_cases h0:pl=0
    ·subst h0;rfl
    ·rw[if_neg];have:=(HP3.out h0).1;omega
   show GN _ _ _ _ _ _ _ _ _;rw[h];exact HGN.out
  case round=>
   obtain⟨k,hk,hk5,rfl,hg⟩:=hrel;clear HGN;by_cases hlt:k<25
   ·have hAT:=HAT.out k (by omega);have HWD:=Lib.hid (fun W=>gWords_any (k:Int) W);have hki:(k:Int)≤24:=by omega
    obtain⟨wd,hwd⟩:∃wd:ByteArray,⟨(shp (k:Int)).word.toArray⟩=wd:=⟨_,rfl⟩
    rw[hwd] at HWD hAT;clear hwd;go_wp2_with fail;refine (HWD.out _).mono ?_;rintro e w6 ⟨rfl,hb6⟩;have HG6:=Lib.hid (hg.out.below hb6);clear hb6 hg;by_cases hpk:pl=k
    ·have hwD:=hAT.1 hpk;subst hwD;subst hpk;have hc:=HG6.out.n.cells;have hf:=HG6.out.n.froz
     have HG7:Hid (GN R N w v r1 ((b:Int)+1) false [.int .i64 (if pl<pl+1 then (pl:Int) else 0),.bool false,.string ⟨#[]⟩,.string ⟨#[]⟩,.string ⟨#[]⟩] (w6.setCell ⟨N,0,none⟩ (.int .i64 (pl:Int)))):=by
      show GN _ _ _ _ _ _ _ _ _;rw[if_pos (by omega)];exact HG6.out.set 0 (.int .i64 (pl:Int))
     clear HG6 hAT;go_wp2
     go_roundg (25-(pl+1))
     case measure=>omega
     case rel=>exact⟨pl+1,by omega,by omega,by go_num,HG7⟩
    ·have hwD:¬wd=D:=fun h=>hpk (hAT.2 h)
     have hwE:¬(wd.toList=D.toList):=fun h=>hwD (by rw[ByteArray.toList_eq,ByteArray.toList_eq] at h;exact ByteArray.ext (Array.toList_inj.1 h))
     have hwF:(wd.toList==D.toList)=false:=beq_eq_false_iff_ne.2 hwE
     have HG7:Hid (GN R N w v r1 ((b:Int)+1) false [.int .i64 (if pl<k+1 then (pl:Int) else 0),.bool false,.string ⟨#[]⟩,.string ⟨#[]⟩,.string ⟨#[]⟩] w6):=by
      show GN _ _ _ _ _ _ _ _ _;have h:=HG6.out;by_cases hp:pl<k
      ·rw[if_pos hp] at h;rw[if_pos (by omega)];exact h
      ·rw[if_neg hp] at h;rw[if_neg (by omega)];exact h
     clear HG6 hAT hpk;go_wp2
     go_roundg (25-(k+1))
     case measure=>omega
     case rel=>exact⟨k+1,by omega,by omega,by go_num,HG7⟩
   ·obtain rfl:k=25:=by omega
    have HG:Hid (GN R N w v r1 ((b:Int)+1) false [.int .i64 (pl:Int),.bool false,.string ⟨#[]⟩,.string ⟨#[]⟩,.string ⟨#[]⟩] wr):=by
     have h:=hg.out;rw[if_pos (by omega)] at h;exact h
    clear hg HAT;have hc:=HG.out.n.cells;have hf:=HG.out.n.froz;have HLT:=Lib.hid H0.out.blk.lt;by_cases hp0:pl=0
    ·have hTn:=HP2.out hp0;subst hTn;subst hp0;have hcR:=HG.out.r.cells;have hfR:=HG.out.r.froz;have HGB:=Lib.hid HG.out.setBad;clear HP2 HP3 HIH;go_wp2
     first|go_end0|refine bodyPost_ret (results_none rfl _ _ _) rfl ?_
     exact HGB.out.post HLT.out
    ·obtain⟨hp5,hTe⟩:=HP3.out hp0;rw[tailA_eq] at hTe;have hpb:((pl:Int)==0)=false:=beq_eq_false_iff_ne.2 (by omega);have HAR:=fun W=>gArity_any (pl:Int) W
     have HNA:=fun W=>gNamed_any (pl:Int) W
     have HST:=fun W=>gStepped_any (pl:Int) W
     have hol:=shp_ops_le (pl:Int)
     have hst1:(shp (pl:Int)).stp=true→(shp (pl:Int)).ops=1:=fun h=>by
      have h1:=shp_stp (pl:Int);have h2:=shp_ops (pl:Int);rw[h] at h1;have h3:=of_decide_eq_true h1.symm;rw[if_neg (by omega),if_neg (by omega),if_pos (by omega)] at h2;omega
     generalize (shp (pl:Int)).ops=oo at*;generalize (shp (pl:Int)).nam=nam at*;generalize (shp (pl:Int)).stp=stp at*
     have hs2l:(if nam then spanR namesL r1 else r1).length≤1000000:=by
      have:=spanR_len namesL r1;split<;>omega
     have hs2t:nam=true→(if nam then spanR namesL r1 else r1)=spanR namesL r1∧(⟨(if nam then spanW namesL r1 else []).toArray⟩:ByteArray)=⟨(spanW namesL r1).toArray⟩:=fun h=>by rw[if_pos h,if_pos h];exact⟨rfl,rfl⟩
     have hs2f:nam=false→(if nam then spanR namesL r1 else r1)=r1∧(⟨(if nam then spanW namesL r1 else []).toArray⟩:ByteArray)=⟨#[]⟩:=fun h=>by rw[h];exact⟨rfl,rfl⟩
     generalize (if nam then spanR namesL r1 else r1)=s2 at*;generalize (⟨(if nam then spanW namesL r1 else []).toArray⟩:ByteArray)=NM at*;have HTE:=Lib.hid hTe;have HAR:=Lib.hid HAR;have HNA:=Lib.hid HNA;have HST:=Lib.hid HST;have HS1:=Lib.hid hst1;have HS2T:=Lib.hid hs2t;have HS2F:=Lib.hid hs2f;have HWN:=Lib.hid (fun (W:World) (hk:Blk W R 87 [.string ⟨r1.toArray⟩,v,.int .i64 ((b:Int)+1),.bool false])=>gWord_l r1 namesL R _ _ W hk hr1 (by decide));clear hTe hst1 hs2t hs2f HP2 HP3;go_wp2_with fail;refine (HNA.out _).mono ?_;rintro e w7 ⟨rfl,rfl⟩
     go_upto_if 139 with fail
     clear hc hf
     go_cut [] from 140 (fun wc=>GN R N w v s2 ((b:Int)+1) false [.int .i64 (pl:Int),.bool false,.string ⟨#[]⟩,.string ⟨#[]⟩,.string NM] wc)
     case first=>
      cases nam
      ·obtain⟨e1,e2⟩:=HS2F.out rfl;subst e1;subst e2;go_wp2
       go_meet
       case rel=>exact HG.out
      ·obtain⟨e1,e2⟩:=HS2T.out rfl;rw[←e1,←e2] at HWN;unfold namesL at HWN;clear e1 e2;go_wp2_with fail;refine (HWN.out _ HG.out.r).mono ?_;rintro e w8 ⟨rfl,hk8,ho8⟩;have HG8:=Lib.hid (HG.out.call ho8 hk8);have hc:=HG8.out.n.cells;have hf:=HG8.out.n.froz;clear hk8 ho8;go_wp2
       go_meet
       case rel=>exact HG8.out.set 4 (.string NM)
     case rest=>
      clear HG HWN HS2T HS2F HNA;have HG:=Lib.hid hcut;have hc:=hcut.n.cells;have hf:=hcut.n.froz;clear hcut;go_wp2_with fail;refine (HST.out _).mono ?_;rintro e w7 ⟨rfl,rfl⟩
      go_upto_if 145 with fail
      clear hc hf
      go_cut [] from 146 (fun wc=>∃(bd:Bool) (s3:List UInt8) (nu:Ra),GN R N w v s3 ((b:Int)+1) bd [.int .i64 (pl:Int),.bool nu.neg,.string nu.num,.string nu.den,.string NM] wc∧(bd=true→T=none∧oo=1)∧(bd=false→T=(opsA (parA f) oo 0 s3 ns (b+1)).bind (tlG oo ⟨(pl:Int),nu,NM⟩))∧s3.length≤1000000)
      case first=>
       cases stp
       ·go_wp2
        go_meet
        case rel=>exact⟨false,s2,zR,HG.out,(fun h=>by cases h),(fun _=>by rw[HTE.out];rfl),hs2l⟩
       ·have h1:=HS1.out rfl;subst h1;have HTE2:Hid (T=(if Lib.hasPrefix s2 [91] then (numA (s2.drop 1)).bind fun q=>if Lib.hasPrefix q.2 [93] then some (q.1,q.2.drop 1) else none else none).bind fun q=>(opsA (parA f) 1 0 q.2 ns (b+1)).bind (tlG 1 ⟨(pl:Int),q.1,NM⟩)):=by show _=_;rw[HTE.out];rfl
        have HI1:=Lib.hid (fun (W:World) (hk:Blk W R 87 [.string ⟨s2.toArray⟩,v,.int .i64 ((b:Int)+1),.bool false])=>gIs_at s2 [91] R _ _ W hk)
        have hsal:(if Lib.hasPrefix s2 [91] then s2.drop 1 else s2).length≤1000000:=by
         have:=drop_len s2 1;split<;>omega
        go_wp2_with fail;refine (HI1.out _ HG.out.r).mono ?_;rintro e w7 ⟨rfl,hk7,ho7⟩;have HG7:=Lib.hid (HG.out.call ho7 hk7);simp only[List.length_cons,List.length_nil,Nat.zero_add] at HG7;clear hk7 ho7 HG HI1 HTE;have hpe:Lib.hasPrefix s2 [91]=true→s2.drop 1=(if Lib.hasPrefix s2 [91] then s2.drop 1 else s2):=fun h=>by rw[if_pos h]
        generalize (if Lib.hasPrefix s2 [91] then s2.drop 1 else s2)=sa at*;have HNU:=Lib.hid (fun (W:World) (hk:Blk W R 87 [.string ⟨sa.toArray⟩,v,.int .i64 ((b:Int)+1),.bool false])=>gNumber_at sa R v ((b:Int)+1) W hk hsal);have hsbl:(spanR numL sa).length≤1000000:=Nat.le_trans (spanR_len _ _) hsal;obtain⟨Y,hY⟩:∃Y,Y=numA sa:=⟨_,rfl⟩
        have HTE3:Hid (T=(if Lib.hasPrefix s2 [91] then Y.bind fun q=>if Lib.hasPrefix q.2 [93] then some (q.1,q.2.drop 1) else none else none).bind fun q=>(opsA (parA f) 1 0 q.2 ns (b+1)).bind (tlG 1 ⟨(pl:Int),q.1,NM⟩)):=by
         show _=_;rw[HTE2.out,hY];cases hp:Lib.hasPrefix s2 [91]
         ·rfl
         ·rw[hpe hp]
        clear HTE2 hpe;unfold numA at hY;change Y=if (numG sa).2 then some ((numG sa).1,spanR numL sa) else none at hY
        generalize spanR numL sa=sb at*;generalize numG sa=q at*;obtain⟨⟨an,au,ad⟩,ok⟩:=q;unfold Ra.v at HNU;simp only at HNU hY;have HY:=Lib.hid hY;clear hY hsal;generalize Lib.hasPrefix s2 [91]=p1 at*;go_wp2_with fail;refine (HNU.out _ HG7.out.r).mono ?_;rintro e w8 ⟨rfl,hk8,ho8⟩;have HG8:=Lib.hid (HG7.out.call ho8 hk8);have hc:=HG8.out.n.cells;have hf:=HG8.out.n.froz;obtain⟨W9,hW9⟩:∃W9,W9=((w8.setCell ⟨N,1,none⟩ (.bool an)).setCell ⟨N,2,none⟩ (.string au)).setCell ⟨N,3,none⟩ (.string ad):=⟨_,rfl⟩
        have HG9:Hid (GN R N w v sb ((b:Int)+1) (!ok) [.int .i64 (pl:Int),.bool an,.string au,.string ad,.string NM] W9):=by
         show GN _ _ _ _ _ _ _ _ _;rw[hW9];exact ((HG8.out.set 1 (.bool an)).set 2 (.string au)).set 3 (.string ad)
        clear hk8 ho8 HG7 HNU HG8;have HI2:=Lib.hid (fun (W:World) (hk:Blk W R 87 [.string ⟨sb.toArray⟩,v,.int .i64 ((b:Int)+1),.bool (!ok)])=>gIs_at sb [93] R _ _ W hk);go_wp2_with fail;simp only[←hW9]
        clear hW9 hc hf;refine (HI2.out _ HG9.out.r).mono ?_;rintro e wa ⟨rfl,hka,hoa⟩;have HGa:=Lib.hid (HG9.out.call hoa hka);simp only[List.length_cons,List.length_nil,Nat.zero_add] at HGa;clear hka hoa HG9 HI2
        have hsc:(if Lib.hasPrefix sb [93] then sb.drop 1 else sb).length≤1000000:=by
         have:=drop_len sb 1;split<;>omega
        have HP93:Hid (Lib.hasPrefix sb [93]=true→sb.drop 1=(if Lib.hasPrefix sb [93] then sb.drop 1 else sb)):=fun h=>by rw[if_pos h]
        generalize (if Lib.hasPrefix sb [93] then sb.drop 1 else sb)=sc at*
        have HT9:Hid (p1=false∨Lib.hasPrefix sb [93]=false→T=none):=fun h=>by
         rw[HTE3.out];rcases h with h|h
         ·rw[h];rfl
         ·have e:=HY.out;cases p1
          ·rfl
          ·rw[e];cases ok
           ·rfl
           ·show ((if Lib.hasPrefix sb [93]=true then _ else none):Option _).bind _=_;rw[h];rfl
        have HTA:Hid (p1=true→Lib.hasPrefix sb [93]=true→ok=true→T=(opsA (parA f) 1 0 sc ns (b+1)).bind (tlG 1 ⟨(pl:Int),⟨an,au,ad⟩,NM⟩)):=fun h1 h2 h3=>by
         rw[HTE3.out,HY.out,h1,h3];show ((if Lib.hasPrefix sb [93]=true then some ((⟨an,au,ad⟩:Ra),sb.drop 1) else none).bind _)=_;rw[if_pos h2,HP93.out h2];rfl
        have HTB:Hid (p1=true→ok=false→T=none):=fun h1 h3=>by
         rw[HTE3.out,HY.out,h1,h3];rfl
        generalize Lib.hasPrefix sb [93]=p2 at*;clear HTE3 HY HP93;have hcR:=HGa.out.r.cells;have hfR:=HGa.out.r.froz;have HGB:=Lib.hid HGa.out.setBad;cases p1
        ·have hTn:=HT9.out (.inl rfl);subst hTn;clear HT9 HTA HTB HIH;go_wp2
         first|go_end0|refine bodyPost_ret (results_none rfl _ _ _) rfl ?_
         exact HGB.out.post HLT.out
        ·cases p2
         ·have hTn:=HT9.out (.inr rfl);subst hTn;clear HT9 HTA HTB HIH;go_wp2
          first|go_end0|refine bodyPost_ret (results_none rfl _ _ _) rfl ?_
          exact HGB.out.post HLT.out
         ·clear hcR hfR;go_wp2
          go_meet
          case rel=>
           refine⟨!ok,sc,⟨an,au,ad⟩,HGa.out,(fun h=>⟨HTB.out (by trivial) (by simpa using h),by trivial⟩),(fun h=>HTA.out (by trivial) (by trivial) (by simpa using h)),hsc⟩
      case rest=>
       obtain⟨bd,s3,nu,hg3,hbd1,hbd2,hs3⟩:=hcut;have HG:=Lib.hid hg3;have HB1:=Lib.hid hbd1;have HB2:=Lib.hid hbd2;obtain⟨an,au,ad⟩:=nu;simp only at HG;clear hg3 hbd1 hbd2 HTE HST HS1;obtain⟨x,hx⟩:∃x:Nd,x=⟨(pl:Int),⟨an,au,ad⟩,NM⟩:=⟨_,rfl⟩
       have HX:=Lib.hid hx;rw[←hx] at HB2;clear hx;have HNB:=Lib.hid HG.out.n;have hvN:v.ownBlock≠some N:=fun h=>by have:=(HOW.out.lt N h).2;have:=HG.out.lt.1;omega
       have HGS:Hid (GS R w v s3 ns ((b+1:Nat):Int) bd wc v):=GN.gs H0.out HG.out;have hRN:N≠R:=by have:=HG.out.lt.2;omega
       have HVN:=Lib.hid hvN;clear HG hvN
       go_upto_region 37 with fail
       go_wp2_with fail
       go_loopg [12] oo (fun g iv wr=>∃(j:Nat) (bj:Bool) (sj:List UInt8) (nj:List Nd) (b':Nat) (vj:Value),j+g=oo∧iv=.int .i64 (j:Int)∧Hid (bj=true→T=none∧j<oo)∧Hid (bj=false→T=(opsA (parA f) g j sj nj b').bind (tlG oo x))∧Hid (GS R w v sj nj (b':Int) bj wr vj)∧Hid (Blk wr N 33 [.int .i64 (pl:Int),.bool an,.string au,.string ad,.string NM])∧Hid (vj.ownBlock≠some N)∧Hid (sj.length≤1000000∧nj.length≤b'∧b'≤60∧b+1≤b'))
       case atStart=>exact⟨0,bd,s3,ns,b+1,v,by omega,rfl,(fun h=>⟨(HB1.out h).1,by have:=(HB1.out h).2;omega⟩),HB2.out,HGS.out,HNB.out,HVN.out,⟨hs3,by omega,by omega,Nat.le_refl _⟩⟩
       case round=>
        obtain⟨j,bj,sj,nj,b',vj,hj,rfl,hb1,hb2,hgs,hnb,hvn,hbd⟩:=hrel;clear HGS HNB HVN HB1 HB2;have hcN:=hnb.out.cells;have hcR:=hgs.out.blk.cells;have hfR:=hgs.out.blk.froz;by_cases hlt:j<oo
        ·obtain⟨m,rfl⟩:∃m,gk=m+1:=⟨gk-1,by omega⟩
         have hj3:j<3:=by omega
         go_wp2_with fail;refine (HAR.out _).mono ?_;rintro e w7 ⟨rfl,rfl⟩;obtain⟨Z,hZ⟩:∃Z:ByteArray,Z=⟨(sepW j).toArray⟩:=⟨_,rfl⟩
         have HZ:=Lib.hid hZ;clear hZ
         go_upto_if 170 with fail
         go_cut [13] from 162 to 184 (fun sv wc=>sv=.string Z∧wc=wr)
         case first=>
          by_cases hj0:j=0
          ·have hz:=HZ.out;subst hj0;subst hz;go_wp2
           go_meet
           case rel=>exact⟨rfl,rfl⟩
          ·have hz:=HZ.out;unfold sepW at hz;rw[if_neg hj0] at hz;subst hz;have hjb:((j:Int)==0)=false:=beq_eq_false_iff_ne.2 (by omega);go_wp2
           go_meet
           case rel=>exact⟨rfl,rfl⟩
         case rest=>
          obtain⟨rfl,hwc⟩:=hcut;rw[hwc];clear hwc;have HI:=Lib.hid (fun (W:World) (hk:Blk W R 87 [.string ⟨sj.toArray⟩,vj,.int .i64 (b':Int),.bool bj])=>gIs_at sj (sepW j) R _ _ W hk);rw[←HZ.out] at HI;go_wp2_with fail;refine (HI.out _ hgs.out.blk).mono ?_;rintro e w8 ⟨rfl,hk8,ho8⟩;have hg8:=hgs.out.onl ho8 hk8;have hn8:=ho8.blk hnb.out hRN;clear hcN hcR hfR hk8 ho8 HI HZ;have hop:(opsA (parA f) (m+1) j sj nj b')=if Lib.hasPrefix sj (sepW j) then (parA f (sj.drop (sepW j).length) nj b').bind fun q=>opsA (parA f) m (j+1) q.1 q.2.1 q.2.2 else none:=rfl
          cases hpx:Lib.hasPrefix sj (sepW j)
          ·have hTn:T=none:=by
            cases bj
            ·rw[hb2.out rfl,hop,hpx];rfl
            ·exact (hb1.out rfl).1
           have hcR:=hg8.blk.cells;have hfR:=hg8.blk.froz;have HGB:=Lib.hid hg8.setBad;clear hb1 hb2 hop hpx hg8 hn8 HIH;subst hTn;go_wp2
           first|go_end0|refine bodyPost_ret (results_none rfl _ _ _) rfl ?_
           exact HGB.out.bad HOW.out HRL.out
          ·rw[hpx] at hg8;simp only[if_true] at hg8;have hdl:=drop_len sj (sepW j).length;rw[hpx,if_pos rfl] at hop;generalize sj.drop (sepW j).length=sd at*;have HG8:=Lib.hid hg8;have HN8:=Lib.hid hn8;have HOP:=Lib.hid hop;clear hg8 hn8 hpx hop;cases bj
           ·have HT2:=Lib.hid (hb2.out rfl);have HC:=Lib.hid (HIH.out sd nj b' vj w8 HG8.out.here (by have:=hbd.out.1;omega) hbd.out.2.2.1 (by have:=hbd.out.2.2.2;omega) hbd.out.2.1);clear hb1 hb2;cases hpa:parA f sd nj b' with
            |none=>
             have hTn:T=none:=by rw[HT2.out,HOP.out,hpa];rfl
             rw[hpa] at HC;subst hTn;clear hpa HOP HT2;go_wp2_with fail;refine HC.out.mono ?_;rintro e w9 ⟨rfl,a9,c9,d9,hk9,hb9⟩;have hcR:=hk9.cells;have HB9:Hid (Below R w w9):=(HG8.out.pf.below HOW.out (Nat.le_refl _) HRL.out).trans hb9;have HK9:=Lib.hid hk9;clear hk9 hb9;go_wp2
             first|go_end0|refine bodyPost_ret (results_none rfl _ _ _) rfl ?_
             exact⟨rfl,_,_,_,HK9.out,HB9.out⟩
            |some q=>
             obtain⟨s9,n9,b9⟩:=q;have pb:=(parA_pb f _ _ _ _ hpa).1;have pb1:=pb.rest;have pb2:=pb.begun;have pb3:=pb.most;have pb4:=pb.nodes;simp only at pb1 pb2 pb3 pb4;have HT9:Hid (T=(opsA (parA f) m (j+1) s9 n9 b9).bind (tlG oo x)):=by show _=_;rw[HT2.out,HOP.out,hpa];rfl
             have HBD:Hid (s9.length≤1000000∧n9.length≤b9∧b9≤60∧b+1≤b9):=by have h:=hbd.out;exact⟨by omega,by omega,pb3,by omega⟩
             rw[hpa] at HC;clear hpa HOP HT2 pb pb1 pb2 pb3 pb4 hdl;go_wp2_with fail;refine HC.out.mono ?_;rintro e w9 ⟨rfl,v9,hg9⟩;simp only at hg9;have hcR:=hg9.blk.cells;have HG9:Hid (GS R w v s9 n9 (b9:Int) false w9 v9):=HG8.out.trans hg9;have HN9:Hid (Blk w9 N 33 [.int .i64 (pl:Int),.bool an,.string au,.string ad,.string NM]):=hg9.pf.blk HN8.out hRN hvn.out;have HV9:Hid (v9.ownBlock≠some N):=hg9.pf.nown hvn.out HN8.out.lt;clear hg9;go_wp2
             go_roundg m
             case measure=>omega
             case rel=>exact⟨j+1,false,s9,n9,b9,v9,by omega,by go_num,(fun h=>by cases h),(fun _=>HT9.out),HG9,HN9,HV9,HBD⟩
           ·have hTn:T=none:=(hb1.out rfl).1;have HC:=Lib.hid (gx_bad R _ vj (b':Int) w8 HG8.out.blk (by omega) (by have:=hbd.out.2.2.1;omega));clear hb1 hb2 HOP HIH;subst hTn;go_wp2_with fail;refine HC.out.mono ?_;rintro e w9 ⟨rfl,a9,c9,d9,hk9,hb9⟩;have hcR:=hk9.cells;have HB9:Hid (Below R w w9):=(HG8.out.pf.below HOW.out (Nat.le_refl _) HRL.out).trans hb9;have HK9:=Lib.hid hk9;clear hk9 hb9;go_wp2
            first|go_end0|refine bodyPost_ret (results_none rfl _ _ _) rfl ?_
            exact⟨rfl,_,_,_,HK9.out,HB9.out⟩
        ·obtain rfl:j=oo:=by omega
         obtain rfl:gk=0:=by omega
         have hbf:bj=false:=by
          cases bj
          ·rfl
          ·exact absurd (hb1.out rfl).2 (Nat.lt_irrefl _)
         subst hbf;have HT5:Hid (T=tlG j x (sj,nj,b')):=by show _=_;rw[hb2.out rfl];rfl
         have hnj:nj.length≤60:=by have:=hbd.out;omega
         clear hb1 hb2 HIH;go_wp2_with fail;refine (HAR.out _).mono ?_;rintro e w7 ⟨rfl,rfl⟩;by_cases ho:j=0
         ·subst ho;go_wp2_with fail;refine (HAR.out _).mono ?_;rintro e w7 ⟨rfl,rfl⟩;have HTF:Hid (T=if false then none else some (sj,nj++[⟨(pl:Int),⟨an,au,ad⟩,NM⟩],b')):=by show _=_;rw[HT5.out,HX.out];rfl
          go_wp2_with fail;have HG4:=Lib.hid hgs.out.drew;have hc:=HG4.out.blk.cells;have hf:=HG4.out.blk.froz;have hcM:=hnb.out.drew.cells;have hca:=(hgs.out.blk.alloc (.cells #[.int .i64 (pl:Int),.bool an,.string au,.string ad,.string NM] 33)).cells;have hcb:=(hnb.out.alloc (.cells #[.int .i64 (pl:Int),.bool an,.string au,.string ad,.string NM] 33)).cells
          go_region_law ((refine step_push_nd _ ⟨(pl:Int),⟨an,au,ad⟩,NM⟩ HG4.out (by rfl) _ _ (by rfl) (by rfl) (by rfl) (by omega) ?_;intro g c w5 hg5 hk5;have hc:=hk5.cells;have hf:=hk5.froz;have HG5:=Lib.hid hg5;clear hg5 hk5))
          all_goals
           go_wp2
           first|go_end0|refine bodyPost_ret (results_none rfl _ _ _) rfl ?_
           exact GS.fin (b:=b') HOW.out HRL.out HG5.out HTF.out
         ·have hj0:0<j:=by omega
          have HI:=Lib.hid (fun (W:World) (hk:Blk W R 87 [.string ⟨sj.toArray⟩,vj,.int .i64 (b':Int),.bool false])=>gIs_at sj [41] R _ _ W hk);go_wp2_with fail;refine (HAR.out _).mono ?_;rintro e w7 ⟨rfl,rfl⟩;go_wp2_with fail;refine (HI.out _ hgs.out.blk).mono ?_;rintro e w8 ⟨rfl,hk8,ho8⟩;have hg8:=hgs.out.onl ho8 hk8;have hn8:=ho8.blk hnb.out hRN;clear hcN hcR hfR hk8 ho8 HI hgs hnb;cases hpx:Lib.hasPrefix sj [41]
          ·have hTn:T=none:=by rw[HT5.out,tlG,if_pos hj0,hpx];rfl
           have hcR:=hg8.blk.cells;have hfR:=hg8.blk.froz;have HGB:=Lib.hid hg8.setBad;clear HT5 hpx hg8 hn8;subst hTn;go_wp2
           first|go_end0|refine bodyPost_ret (results_none rfl _ _ _) rfl ?_
           exact HGB.out.bad HOW.out HRL.out
          ·rw[hpx] at hg8;simp only[if_true,List.length_cons,List.length_nil,Nat.zero_add] at hg8;have HTF:Hid (T=if false then none else some (sj.drop 1,nj++[⟨(pl:Int),⟨an,au,ad⟩,NM⟩],b')):=by show _=_;rw[HT5.out,HX.out,tlG,if_pos hj0,if_pos hpx];rfl
           have HG8:=Lib.hid hg8;have HN8:=Lib.hid hn8;clear HT5 hpx hg8 hn8;generalize sj.drop 1=sz at*;go_wp2_with fail;have HG4:=Lib.hid HG8.out.drew;have hc:=HG4.out.blk.cells;have hf:=HG4.out.blk.froz;have hcM:=HN8.out.drew.cells;have hca:=(HG8.out.blk.alloc (.cells #[.int .i64 (pl:Int),.bool an,.string au,.string ad,.string NM] 33)).cells;have hcb:=(HN8.out.alloc (.cells #[.int .i64 (pl:Int),.bool an,.string au,.string ad,.string NM] 33)).cells
           go_region_law ((refine step_push_nd _ ⟨(pl:Int),⟨an,au,ad⟩,NM⟩ HG4.out (by rfl) _ _ (by rfl) (by rfl) (by rfl) (by omega) ?_;intro g c w5 hg5 hk5;have hc:=hk5.cells;have hf:=hk5.froz;have HG5:=Lib.hid hg5;clear hg5 hk5))
           all_goals
            go_wp2
            first|go_end0|refine bodyPost_ret (results_none rfl _ _ _) rfl ?_
            exact GS.fin (b:=b') HOW.out HRL.out HG5.out HTF.out
end Go.Proofs.YtbicehdehiakgaaGreatDoor
