/- A part of the proof: W7 W8 Wd Wb W9 Wa Wg Qe. -/
import Derived.Test.YtimokmplkpbmdaaGreatDoorQ33
set_option linter.all false
set_option maxRecDepth 100000
set_option maxHeartbeats 0
namespace Go.Proofs.YtimokmplkpbmdaaGreatDoor
open Go.RowKit
def abU (P:List Nd->Prop) (w:World) (e:Ending) (w':World):Prop:=∃v ns,e=.returned v/\P ns/\w'.ownsRow w.heap.size 49 5 v ns.length (eP ns)/\Below w.heap.size w w'
theorem UY (Ob:Nd) (m b k:Nat) (t:TypeId) (rs:List (List Nd × Hd)) (w:World) (hk:k=rs.length) (h3:k<=3) (hm:m<=1000)
  (hb:aj w b t (rs.map fun r=>.slice r.2.a r.2.n r.2.c)) (hr:∀r∈rs,aJ w Nd.cells r.1 r.2/\r.1.length<=m):
  Calls Tryz.prog 145 #[.agg Ob.cells.toArray,.slice (some ⟨b,0,none⟩) k k] w (abU (fun ns=>ns=(rs.map Prod.fst).flatten++[Ob]) w):=by
 obtain⟨op,⟨neg,num,den⟩,nm⟩:=Ob;show Calls _ _ #[.agg #[.int .i64 op,.bool neg,.string num,.string den,.string nm],.slice (some ⟨b,0,none⟩) k k] w _
 have zl:Hid (∀j,∀h:j<rs.length,((rs.take (j+1)).map Prod.fst).flatten=((rs.take j).map Prod.fst).flatten++rs[j].1):=fun j h=>by
  rw[List.take_succ_eq_append_getElem h,List.map_append,List.flatten_append];simp
 obtain⟨W,hW⟩:=zE (w.alloc (.cells #[.int .i64 op,.bool neg,.string num,.string den,.string nm] 49));obtain⟨B,hB⟩:=zE w.heap.size;have HK:Hid (aj W B 49 [.int .i64 op,.bool neg,.string num,.string den,.string nm]):=by show aj _ _ _ _;rw[hW,hB];exact aj.new w _ _
 have bC:Hid (Below w.heap.size w W):=by show Below _ _ _;rw[hW];exact zB _ _
 have HB:=zH hb;have HR:=zH hr;have HM:=zH hm;have afl:=zH hk;clear hb hr hm hk;go_enter Tryz.func145,Tryz.ntmps145
 go_upto_region 1 with fail
 simp only[<-hW,<-hB]
 clear hW hB;go_wp2
 go_loopg [5,6] k (fun g ov iv wr=>∃(j:Nat) (os:List Nd),j+g=k/\iv=.int .i64 j/\Hid (wr.ownsRow W.heap.size 49 5 ov os.length (eP os))/\Hid (os.length<=m*j)/\Hid (os=((rs.take j).map Prod.fst).flatten)/\Hid (Below W.heap.size W wr))
 case atStart=>exact⟨0,[],by omega,rfl,World.ownsRow_nil _ _ _ _,Nat.le_refl _,rfl,Below.refl _ _⟩
 case round=>
  obtain⟨j,os,hj,rfl,hown,hol,hoe,hbW⟩:=hrel;have hbr:=zH (ah bC.out hbW.out)
  have hl0:os.length<=3000:=by
   have h1:=hol.out;have h2:m*j<=1000*3:=Nat.mul_le_mul HM.out (by omega);omega
  by_cases hlt:j<k
  ·have hjl:j<rs.length:=by rw[<-afl.out];exact hlt
   have X0:=HR.out _ (List.getElem_mem hjl)
   have hcell:wr.cell? ⟨b,j,none⟩=some (.slice rs[j].2.a rs[j].2.n rs[j].2.c):=by
    have h:=(HB.out.below hbr.out HB.out.lt).cells j;rw[h,List.getElem?_map,List.getElem?_eq_getElem hjl];rfl
   have HTJ:=zH (zl.out j hjl);clear zl;generalize rs[j]=r at*;replace X0:=zH X0;clear hjl;obtain⟨bs,⟨A2,l2,c2⟩⟩:=r;simp only at hcell;have hl2:=X0.out.1.len;have hl3:=X0.out.2;simp only at hl2 hl3;have hm:=HM.out;have hj0:(0:Int)<=(j:Int):=by omega
   have hj1:(j:Int)<(k:Int):=by omega
   have HL:=zH hl2;have akD:l2<=1000:=by omega
   have VY:Hid (l2<=m):=by show _<=_;omega
   clear hl2 hl3 hm;go_wp2_with (at_builtin;go_must (refine qh wr rfl _ _ 40 rfl W.heap.size 49 _ 5 64 Tryz.underlying40 jZ rfl (by decide) u5 os.length (eP os) rfl hown.out A2 l2 c2 (eP bs) rfl (X0.out.1.rd.below hbr.out) (by rw[Ae,HL.out]) (acI _) ?_ ?_ ?_ ?_))
   any_goals first|(unfold maxLen;omega)|omega
   ·exact hbW.out.size
   intro v' w' hown' hb'
   have HOWN:Hid (w'.ownsRow W.heap.size 49 5 v' (os++bs).length (eP (os++bs))):=by
    rw[mQ,List.length_append,<-HL.out];exact hown'
   have wY:=zH hb';clear hown' hb' hcell;go_wp2
   go_roundg (k-(j+1))
   case measure=>omega
   case rel=>
    refine⟨j+1,os++bs,by omega,by go_num,HOWN,?_,?_,hbW.out.trans wY.out⟩
    ·show _<=_;rw[List.length_append,<-HL.out,Nat.mul_succ];exact Nat.add_le_add hol.out VY.out
    ·show _=_;rw[HTJ.out,hoe.out]
  ·obtain rfl:j=k:=by omega
   have HKR:=zH (HK.out.below hbW.out HK.out.lt);have hkc:=HKR.out.cells;have hbz:=hbW.out.size;clear hbr;go_wp2_with (at_builtin;go_must (refine bP wr #[.int .i64 op,.bool neg,.string num,.string den,.string nm] rfl _ _ 40 rfl W.heap.size 49 _ 5 64 1 Tryz.underlying40 jZ rfl (by decide) u5 os.length (eP os) rfl hown.out (by rfl) rfl ?_ ?_ ?_ ?_ ?_))
   any_goals first|(unfold maxLen;omega)|omega
   ·exact⟨rfl,rfl,rfl,rfl,rfl⟩
   intro v' w' hown' hb'
   have HOWN:Hid (w'.ownsRow w.heap.size 49 5 v' (os++[(⟨op,⟨neg,num,den⟩,nm⟩:Nd)]).length (eP (os++[(⟨op,⟨neg,num,den⟩,nm⟩:Nd)]))):=by
    rw[mQ,List.length_append];exact bW hown' bC.out.size
   have wY:=zH (ah bC.out (hbW.out.trans hb'));clear hown' hb';go_wp2;go_ret;exact⟨v',_,rfl,by show _=_;rw[hoe.out,afl.out,List.take_length],HOWN.out,wY.out⟩
structure Hz (w:World) (D:Nat) (A:Option Addr) (k:Nat) (l:List Sg):Prop where
 len:k=l.length
 max:k<=1000
 rd:Rd w A (jf l)
 ne:∀ad,A=some ad->ad.block≠D
 nm:∀s∈l,dI s.name=true
theorem Hz.dG {w w':World} {D k:Nat} {A:Option Addr} {l:List Sg} (h:Hz w D A k l) (ho:aF D w w'):Hz w' D A k l:=by
 refine⟨h.len,h.max,?_,h.ne,h.nm⟩;rcases h.rd with h0|⟨b,off,e,hb,hc⟩
 ·exact .inl h0
 ·subst e;exact ho.rd (.inr ⟨b,off,rfl,hb,hc⟩) (h.ne _ rfl)
def UZ (q:Option Ty) (w:World) (e:Ending) (w':World):Prop:=∃t m d o,e=.returned (.tuple #[.agg #[.bool t,.int .i64 m,.int .i64 d],.bool o])/\(o=true->q=some ⟨t,m,d⟩)/\Below w.heap.size w w'
theorem abV (l:List Sg) (A:Option Addr) (k c:Nat) (nop:Int) (kV:ByteArray) (w:World) (hk:k=l.length) (hm:k<=maxLen) (hr:Rd w A (jf l)):
  Calls Tryz.prog 180 #[.slice A k c,.int .i64 nop,.string kV] w (UZ (ql l nop kV) w):=
 (WQ l A k c nop kV w hk hm hr).mono fun e w' ⟨h1,h2⟩=>⟨_,_,_,_,h1,fun h=>by
   cases hq:ql l nop kV with
   |none=>rw[hq] at h;cases h
   |some x=>rfl,h2⟩
theorem Rh {l:List Sg} {op:Int} {nm:ByteArray} {t:Ty} (h:ql l op nm=some t):jL op=true/\dP l ⟨op,zR,nm⟩=some t:=by
 have h1:=acO l ⟨op,zR,nm⟩;simp only at h1;rw[h] at h1;by_cases hb:jL op=true
 ·rw[if_pos hb] at h1;exact⟨hb,h1.symm⟩
 ·rw[if_neg hb] at h1;cases h1
theorem afm {l:List Sg} {op:Int} {nm:ByteArray} {t:Ty} (hn:dI nm=true) (uN:¬op=24) (h:ql l op nm=some t):TE l t [⟨op,zR,nm⟩]:=by
 obtain⟨h1,h2⟩:=Rh h;refine TE.dF ?_ hn h2;unfold jL at h1;rw[Bool.or_eq_true,decide_eq_true_eq,decide_eq_true_eq] at h1;exact h1.resolve_right uN
theorem zD (w:World) (o:Obj):Below w.heap.size w (w.alloc o).drew:=have h:=zB w o;⟨h.os,h.tape,h.output,h.size,h.block⟩
theorem X4 (l:List Sg) (A:Option Addr) (k c D u K:Nat) (t:Bool) (m d:Int) (w:World) (hs:Hz w D A k l) (hd:DS w D u) (hu:u<=w.heap.size) (ht:jh K t m d):
  Calls Tryz.prog 144 #[.slice A k c,.pointer (some ⟨D,0,none⟩),.agg #[.bool t,.int .i64 m,.int .i64 d]] w (vU (TK l t m d K) D u w):=by
 obtain⟨W,hW⟩:=zE (w.alloc (.cells #[.bool t,.int .i64 m,.int .i64 d] 34));obtain⟨B,hB⟩:=zE w.heap.size;have HK:Hid (aj W B 34 [.bool t,.int .i64 m,.int .i64 d]):=by show aj _ _ _ _;rw[hW,hB];exact aj.new w _ _
 have bC:Hid (Below w.heap.size w W):=by show Below _ _ _;rw[hW];exact zB _ _
 have iC:=zH hB;have oI:=zH (hs.dG (aF.of_below bC.out));have HD:=zH (hd.below bC.out);have Q5:=zH hd.lt;have HU:=zH hu;have HT:=zH ht;have agc:=hs.max;clear hs hd hu ht;go_enter Tryz.func144,Tryz.ntmps144
 go_upto_region 1 with fail
 simp only[<-hW,<-hB]
 clear hW hB;go_wp2
 go_loopg [7,8] k (fun g ov iv wr=>∃(j:Nat) (ns:List Nd),j+g=k/\iv=.int .i64 j/\Hid (wr.ownsRow W.heap.size 49 5 ov ns.length (eP ns))/\ns.length<=j/\Hid (∀n∈ns,TE l ⟨t,m,d⟩ [n])/\Hid (Below W.heap.size W wr))
 case atStart=>exact⟨0,[],by omega,rfl,World.ownsRow_nil _ _ _ _,Nat.le_refl _,fun _ h=>(by cases h),Below.refl _ _⟩
 case round=>
  obtain⟨j,ns,hj,rfl,hown,hol,hte,hbr⟩:=hrel;by_cases hlt:j<k
  ·have hjl:j<l.length:=by rw[<-oI.out.len];exact hlt
   obtain⟨b,off,hA,hb,hc⟩:=Rd.row Sg.cells 5 (fun _=>rfl) (by omega) oI.out.rd hjl;subst hA;have kK:=zH (oI.out.nm _ (List.getElem_mem hjl));generalize l[j]=s at*;obtain⟨dQ,iD,⟨st,sm,sd⟩⟩:=s;have HC:Hid (∀X,Below W.heap.size W X->X.cell? ⟨b,off+j*5,none⟩=some (.int .i64 dQ)/\X.cell? ⟨b,off+j*5+1,none⟩=some (.string iD)):=fun X hX=>⟨(hX.cell (p:=⟨b,off+j*5,none⟩) hb).trans (hc 0 _ rfl),(hX.cell (p:=⟨b,off+j*5+1,none⟩) hb).trans (hc 1 _ rfl)⟩
   have HF:Hid (∀X,Below W.heap.size W X->Calls Tryz.prog 180 #[.slice (some ⟨b,off,none⟩) k c,.int .i64 dQ,.string iD] X (UZ (ql l dQ iD) X)):=fun X hX=>abV l _ k c dQ iD X oI.out.len (by have:=oI.out.max;unfold maxLen;omega) (oI.out.rd.below hX)
   have hj0:(0:Int)<=(j:Int):=by omega
   have hj1:(j:Int)<(k:Int):=by omega
   clear hb hc hjl
   go_upto_region 5 with fail
   go_cut [9,10] from 18 to 33 (fun av ov wc=>∃X t2 m2 d2 o2,av=.pointer (some ⟨X,0,none⟩)/\ov=.bool o2/\Hid (o2=true->ql l dQ iD=some ⟨t2,m2,d2⟩)/\Hid (aj wc X 34 [.bool t2,.int .i64 m2,.int .i64 d2])/\Hid (Below wr.heap.size wr wc))
   case first=>
    refine wp_region_noPanic ?_;refine wp_region_held_drew (S:=fun w'=>w'.cell? ⟨b,off+j*5,none⟩=some (.int .i64 dQ)/\w'.cell? ⟨b,off+j*5+1,none⟩=some (.string iD)) (by kernel_rfl) (HC.out _ (ah hbr.out (ak _ _ 1))) (fun hHeld=>?_);refine aP 0 ?_;refine aP 1 ?_;refine aP 2 ?_;refine aP 3 ?_;refine aP 4 ?_;refine aP 5 ?_;refine aP 6 ?_;refine aP 7 ?_;refine aP 8 ?_;refine aP 9 ?_;refine aP 10 ?_;refine RJ 11 15 (fun K hK=>?_) (fun K hK=>?_)
    ·go_simp;refine (HF.out _ (ah hbr.out (ak _ _ 1))).mono ?_;rintro e w6 ⟨t2,m2,d2,o2,rfl,hq6,hb6⟩;have zo:=zH hq6;clear hq6;have nX:=zH (ah (ak _ _ 1) hb6);have hb7:=hb6;clear hb6;go_wp2_with fail;refine gI hK (HC.out _ (ah hbr.out nX.out)) (fun hHeld=>?_);clear hK K;refine aP 12 ?_;refine aP 13 ?_;refine aP 14 ?_;refine iV 15 (fun K hK=>?_);go_simp;go_wp2_with fail;refine gI hK (HC.out _ (ah hbr.out (ah nX.out (zB _ _)))) (fun hHeld=>?_);clear hK K;have qJ:=zH (aj.new w6 34 #[.bool false,.int .i64 0,.int .i64 0]);have xk:=zH (ah nX.out (zB w6 (.cells #[.bool false,.int .i64 0,.int .i64 0] 34)));have hX:=nX.out.size;generalize w6.alloc (.cells #[.bool false,.int .i64 0,.int .i64 0] 34)=w7 at*;generalize w6.heap.size=X at*;have hkc:=qJ.out.cells;have pq:=qJ.out.aI;have Oc:=zH (((xk.out.setCell (p:=⟨X,0,none⟩) hX (.bool t2)).setCell (p:=⟨X,1,none⟩) hX (.int .i64 m2)).setCell (p:=⟨X,2,none⟩) hX (.int .i64 d2));have X5:=zH (((qJ.out.set 0 (.bool t2)).set 1 (.int .i64 m2)).set 2 (.int .i64 d2));refine iV 16 (fun K hK=>?_);go_simp;go_wp2_with fail;refine gI hK (HC.out _ (ah hbr.out Oc.out)) (fun hHeld=>?_);clear hK K;refine aP 17 ?_;refine wpAnyH_done (by kernel_rfl) ?_ _;refine NoPanic.normal ?_;go_wp2
     go_meet
     case rel=>exact⟨X,t2,m2,d2,o2,rfl,rfl,zo,X5,Oc⟩
    ·go_simp;go_wp2_with fail;refine gI hK (HC.out _ (ah hbr.out (ah (ak _ _ 1) (zB _ _)))) (fun hHeld=>?_);clear hK K;have qJ:=zH (aj.new wr 34 #[.bool false,.int .i64 0,.int .i64 0]).drew;have jo:=zH (zD wr (.cells #[.bool false,.int .i64 0,.int .i64 0] 34));obtain⟨X,hXe⟩:=zE wr.heap.size;have hX:=Nat.le_of_eq hXe.symm;generalize (wr.alloc (.cells #[.bool false,.int .i64 0,.int .i64 0] 34)).drew=w5 at*;rw[<-hXe] at qJ⊢;clear hXe;refine iV 11 (fun K hK=>?_);go_simp;refine (HF.out _ (ah hbr.out (jo.out))).mono ?_;rintro e w6 ⟨t2,m2,d2,o2,rfl,hq6,hb6⟩;have zo:=zH hq6;clear hq6;have nX:=zH (ah (jo.out) hb6);have hb7:=hb6;clear hb6;go_wp2_with fail;refine gI hK (HC.out _ (ah hbr.out nX.out)) (fun hHeld=>?_);clear hK K;refine aP 12 ?_;refine aP 13 ?_;refine aP 14 ?_;replace qJ:=zH (qJ.out.below hb7 qJ.out.lt);have xk:=nX;have hkc:=qJ.out.cells;have pq:=qJ.out.aI;have Oc:=zH (((xk.out.setCell (p:=⟨X,0,none⟩) hX (.bool t2)).setCell (p:=⟨X,1,none⟩) hX (.int .i64 m2)).setCell (p:=⟨X,2,none⟩) hX (.int .i64 d2));have X5:=zH (((qJ.out.set 0 (.bool t2)).set 1 (.int .i64 m2)).set 2 (.int .i64 d2));refine iV 16 (fun K hK=>?_);go_simp;go_wp2_with fail;refine gI hK (HC.out _ (ah hbr.out Oc.out)) (fun hHeld=>?_);clear hK K;refine aP 17 ?_;refine wpAnyH_done (by kernel_rfl) ?_ _;refine NoPanic.normal ?_;go_wp2
     go_meet
     case rel=>exact⟨X,t2,m2,d2,o2,rfl,rfl,zo,X5,Oc⟩
   case rest=>
    obtain⟨X,t2,m2,d2,o2,rfl,rfl,zo,hx,hbc⟩:=hcut;obtain⟨dq,jY⟩:=zF (decide ((⟨t2,m2,d2⟩:Ty)=⟨t,m,d⟩));have Ce:=fun W=>uI ⟨t2,m2,d2⟩ ⟨t,m,d⟩ W
    simp only[jY,Ty.v] at Ce;have jg:=zH (ah hbr.out hbc.out);have HOWN:=zH (own_below hown.out hbc.out);have hxc:=hx.out.cells;have hbk:=(HK.out.below jg.out HK.out.lt).cells;obtain⟨hc0,hc1⟩:=HC.out _ jg.out;have hsx:(dQ !=24)= !decide (dQ=24):=by by_cases h:dQ=24<;>simp[h]
    have hsy:(dQ==24)=decide (dQ=24):=by by_cases h:dQ=24<;>simp[h]
    have qG:=zH jY;clear jY hbc hx hown hbr;by_cases hall:o2=true/\¬dQ=24/\dq=true
    ·obtain⟨rfl,uN,rfl⟩:=hall;have EO:Hid (TE l ⟨t,m,d⟩ [⟨dQ,zR,iD⟩]):=afm kK.out uN ((zo.out rfl).trans (congrArg some (of_decide_eq_true qG.out)));clear zo qG kK;rw[decide_eq_false uN] at hsx hsy;have hsx:(dQ !=24)=true:=hsx
     go_upto_region 7 with fail
     refine wp_region_noPanic ?_;refine wp_region_held_drew (S:=fun w'=>w'.cell? ⟨b,off+j*5,none⟩=some (.int .i64 dQ)/\w'.cell? ⟨b,off+j*5+1,none⟩=some (.string iD)) (by kernel_rfl) (HC.out _ (ah jg.out (ak _ _ 1))) (fun hHeld=>?_);refine aP 0 ?_;refine aP 1 ?_;refine aP 2 ?_;refine aP 3 ?_;refine aP 4 ?_;refine aP 5 ?_;refine aP 6 ?_;refine aP 7 ?_;refine aP 8 ?_;refine aP 9 ?_;refine aP 10 ?_;refine aP 11 ?_;refine iV 12 (fun K hK=>?_);go_simp;go_wp2_with fail;refine gI hK (HC.out _ (ah jg.out (ah (ak _ _ 1) (zB _ _)))) (fun hHeld=>?_);clear hK K;refine iV 13 (fun K hK=>?_);refine Ji (wc.drewN 1) #[.int .i64 dQ,.bool false,.string ⟨#[]⟩,.string ⟨#[]⟩,.string iD] (by rfl) _ _ 40 (by rfl) W.heap.size 49 (.agg #[.int .i64 0,.bool false,.string ⟨#[]⟩,.string ⟨#[]⟩,.string ⟨#[]⟩]) 5 64 1 Tryz.underlying40 jZ rfl (by decide) u7 ns.length (eP ns) (by rfl) HOWN.out (by rfl) rfl ?_ ?_ ?_ ?_ ?_
     any_goals first|(unfold maxLen;omega)|omega
     ·exact List.all_eq_true.1 rfl
     ·exact jg.out.size
     intro v' w9 hown gW;have J4:=zH (jg.out.trans ((ak W.heap.size wc 1).trans gW));have Kv:=zH hown;clear hown gW;refine gI hK (HC.out _ J4.out) (fun hHeld=>?_);clear hK K;refine aP 14 ?_;refine wpAnyH_done (by kernel_rfl) ?_ _;refine NoPanic.normal ?_;go_wp2
     go_roundg (k-(j+1))
     case measure=>omega
     case rel=>
      refine⟨j+1,ns++[(⟨dQ,⟨false,⟨#[]⟩,⟨#[]⟩⟩,iD⟩:Nd)],by omega,by go_num,?_,by simp;omega,fun n hn=>?_,J4⟩
      ·show World.ownsRow _ _ _ _ _ _ _;rw[mQ,List.length_append];exact Kv.out
      ·rcases List.mem_append.1 hn with hn|hn
       ·exact hte.out n hn
       ·rw[List.mem_singleton.1 hn];exact EO.out
    ·have hx:(o2&& !decide (dQ=24)&&dq)=false:=by
      by_cases uN:dQ=24
      ·rw[decide_eq_true uN];simp
      ·rw[decide_eq_false uN];cases o2<;>cases dq<;>first|rfl|exact absurd ⟨rfl,uN,rfl⟩ hall
     obtain⟨h4,hh4⟩:=zF (decide (dQ=24));rw[hh4] at hsx hsy hx;clear hh4 hall qG zo;cases o2<;>cases h4<;>cases dq<;>cases hx
     all_goals
      simp only[Bool.not_true,Bool.not_false] at hsx;go_wp2
      go_roundg (k-(j+1))
     all_goals first|(case measure=>omega)|(case rel=>exact⟨j+1,ns,by omega,by go_num,HOWN,by omega,hte,jg⟩)
  ·obtain rfl:j=k:=by omega
   have hw:IntKind.i64.wrap ((ns.length:Int)+2)=(ns.length:Int)+2:=IntWalk.i64_in _ (by omega);have HDW:=zH (HD.out.below hbr.out);have CZ:=zH (aF.of_below (G:=D) (ah bC.out hbr.out));have Df:=zH (next_any wr D u ((ns.length:Int)+2) HDW.out (by omega) (by omega));have HKB:=zH (HK.out.below hbr.out HK.out.lt);have Ht:Hid (D<W.heap.size):=by show _<_;have:=bC.out.size;have:=Q5.out;omega
   clear hbr;obtain⟨A1,c1,rfl,_⟩:=bY hown.out;go_wp2_with fail;refine Df.out.mono ?_;rintro e w1 ⟨r,hr,rfl,hd1,ho1⟩;have y7:=zH (jI hown.out ho1 Ht.out);have Di:=zH (CZ.out.trans ho1);have HD1:=zH hd1;have hbk:=(ho1.blk HKB.out (by have:=Q5.out;have:=iC.out;omega)).cells;have hsz:w.heap.size<=w1.heap.size:=Di.out.size;clear hown hd1 ho1 Df HKB hw;by_cases hrl:r<ns.length
   ·have Ze:(r:Int)<(ns.length:Int):=by omega
    obtain⟨_,_,_,hrd⟩:=nG y7.out;obtain⟨g,of,hA,hb,hc0,hc1,hc2,hc3,hc4⟩:=hrd.nd hrl;subst hA;have EO:=zH (hte.out _ (List.getElem_mem hrl));clear hte;generalize ns[r]=n at*;obtain⟨op,⟨neg,num,den⟩,name⟩:=n;simp only at hc0 hc1 hc2 hc3 hc4;clear hr hrd;have hr0:(0:Int)<=(r:Int):=by omega
    go_wp2;go_ret;exact⟨_,[⟨op,⟨neg,num,den⟩,name⟩],rfl,⟨EO.out,HT.out.one⟩,wu w1 _ _ hsz,HD1.out.below (zB _ _),Di.out.trans (aF.of_below (zB _ _))⟩
   ·have Ze:¬(r:Int)<(ns.length:Int):=by omega
    cases t
    ·go_wp2_with fail;refine (UN l K D u m d w1 HD1.out (Nat.le_trans HU.out hsz) HT.out.num).mono ?_;rintro e w2 ⟨v,n2,rfl,hl,ho,hd2,hon⟩;go_wp2;go_ret;exact⟨v,n2,rfl,hl,bW ho hsz,hd2,Di.out.trans hon⟩
    ·go_wp2_with fail;refine (next_any w1 D u 2 HD1.out (by omega) (by omega)).mono ?_;rintro e w2 ⟨q,hq,rfl,hd2,ho2⟩;have Di:=zH (Di.out.trans ho2);have HD2:=zH hd2;clear hd2 ho2 hbk;go_wp2_with fail;refine (lZ (q:Int) w2 (by omega) (by omega)).mono ?_;rintro e w3 ⟨rfl,hb3⟩;have Di:=zH (Di.out.trans (aF.of_below hb3));have HD3:=zH (HD2.out.below hb3);clear hb3
     have HV:Hid (aS (q:Int)=aS 0∨aS (q:Int)=aS 1):=by
      rcases (by omega:q=0∨q=1) with rfl|rfl
      ·exact .inl rfl
      ·exact .inr rfl
     clear hq;generalize aS (q:Int)=va at*;obtain⟨neg,num,den⟩:=va;unfold Ra.v;go_wp2;go_ret;exact⟨_,[⟨4,⟨neg,num,den⟩,⟨#[]⟩⟩],rfl,⟨by obtain⟨rfl,rfl⟩:=HT.out.XP;exact TE.XP HV.out,HT.out.one⟩,wu w3 _ _ Di.out.size,HD3.out.below (zB _ _),Di.out.trans (aF.of_below (zB _ _))⟩
theorem afo:(Tryz.prog.info? 93).map (fun i=>(i.zero,i.size,i.bytes))=some (some (.agg #[.bool false,.string ⟨#[]⟩,.string ⟨#[]⟩,.bool false,.string ⟨#[]⟩,.string ⟨#[]⟩]),6,80):=by kernel_rfl
structure Ri (fs:List Nat) (f:Nat) (l:List Bk):Prop where
 a:l.map Bk.fr=fs.map (fun (n:Nat)=>aS (n:Int))
 b:∃r,fs=0::r
 c:fs.Pairwise (·<·)
 d:∀n∈fs,n<=f
 e:∀b∈l,aV b.rt=true
theorem Ri.push {fs:List Nat} {f:Nat} {l:List Bk} (h:Ri fs f l) {g:Nat} (hg:f<g) {r:Ra} (hr:aV r=true):Ri (fs++[g]) g (l++[⟨aS (g:Int),r⟩]):=by
 obtain⟨r0,hr0⟩:=h.b;refine⟨by rw[List.map_append,List.map_append,h.a];rfl,⟨r0++[g],by rw[hr0];rfl⟩,List.pairwise_append.2 ⟨h.c,List.pairwise_singleton _ _,fun a ha b hb=>?_⟩,fun n hn=>?_,fun b hb=>?_⟩
 ·rw[List.mem_singleton.1 hb];exact Nat.lt_of_le_of_lt (h.d a ha) hg
 ·rcases List.mem_append.1 hn with hn|hn
  ·exact Nat.le_trans (h.d n hn) (Nat.le_of_lt hg)
  ·rw[List.mem_singleton.1 hn];exact Nat.le_refl _
 ·rcases List.mem_append.1 hb with hb|hb
  ·exact h.e b hb
  ·rw[List.mem_singleton.1 hb];exact hr
def agd (D u:Nat) (w:World) (e:Ending) (w':World):Prop:=∃(h:Hd) (l:List Bk),e=.returned (.slice h.a h.n h.c)/\EH l/\w'.ownsRow w.heap.size 93 6 (.slice h.a h.n h.c) l.length (l.flatMap Bk.cells)/\DS w' D u/\aF D w w'
theorem Bh (D u:Nat) (ri:Bool) (w:World) (hd:DS w D u) (hu:u<=w.heap.size):
  Calls Tryz.prog 53 #[.pointer (some ⟨D,0,none⟩),.bool ri] w (agd D u w):=by
 have h:DW w D u w:=⟨hd,aF.refl _ _,hd.lt,hu⟩
 clear hd hu;go_enter Tryz.func53,Tryz.ntmps53
 go_upto_if 10 with fail
 go_cut [6] from 10 to 10 (fun lv wc=>∃z:Int,lv=.int .i64 z/\-2<=z/\z<=0/\DW w D u wc)
 case first=>
  cases ri
  all_goals
   go_wp2
   go_meet
  ·case rel=>exact⟨-2,rfl,by omega,by omega,h⟩
  ·case rel=>exact⟨0,rfl,by omega,by omega,h⟩
 case rest=>
  clear h;obtain⟨z,rfl,hz1,hz2,h⟩:=hcut;go_wp2_with fail;refine (lZ 0 wc (by omega) (by omega)).mono ?_;rintro e w1 ⟨rfl,hb⟩;have jF:Hid (∀r,aV r=true->Ri [0] 0 [⟨aS 0,r⟩]):=fun r hr=>⟨rfl,⟨[],rfl⟩,List.pairwise_singleton _ _,fun n hn=>by rw[List.mem_singleton.1 hn];exact Nat.le_refl _,fun b hb=>by rw[List.mem_singleton.1 hb];exact hr⟩
  generalize aS 0=va at*;obtain⟨an,au,ad⟩:=va;unfold Ra.v;replace h:=h.below hb;clear hb;go_wp2_with fail;refine (h.next 5 (by omega) (by omega)).mono ?_;rintro e w2 ⟨r,hr,rfl,h',_⟩;clear h;go_wp2_with fail;refine (wfr (r:Int) 10 w2 (by omega) (by omega) (by omega) (by omega)).mono ?_;rintro e w3 ⟨bn,bu,bd,rfl,hfit,hb⟩;have iF:=zH (jF.out _ hfit);clear jF hfit;have h:=h'.below hb;clear hb h' hr
  go_upto_region 6 with fail
  have ho:=tq w3 #[.bool an,.string au,.string ad,.bool bn,.string bu,.string bd] 93 6 1 w.heap.size rfl (by omega) h.on.size;generalize hX:w3.alloc _=X at ho⊢;have h':=h.below (zA hX).2;clear hX h;generalize w3.heap.size=C at ho⊢;go_wp2
  go_loopg [5,7,8] 2 (fun g fv ov kv wr=>∃(j fz:Nat) (bs:List Bk),j+g=2/\kv=.int .i64 j/\fv=.int .i64 fz/\fz<=100*j/\bs.length=j+1/\Hid (∃fs,Ri fs fz bs)/\wr.ownsRow w.heap.size 93 6 ov (j+1) (bs.flatMap Bk.cells)/\DW w D u wr)
  case atStart=>exact⟨0,0,[⟨⟨an,au,ad⟩,⟨bn,bu,bd⟩⟩],by omega,rfl,rfl,by omega,rfl,⟨_,iF.out⟩,ho,h'⟩
  case round=>
   clear ho h' iF;obtain⟨j,fz,bs,hj,rfl,rfl,hf1,hbl,hbk,ho,h⟩:=hrel;go_wp2_with fail;refine (h.next 2 (by omega) (by omega)).mono ?_;rintro e w1 ⟨r,hr,rfl,h',hx⟩;replace ho:=h.row ho hx;clear h hx;by_cases hlt:(j:Int)<1+(r:Int)
   ·go_wp2_with fail;refine (h'.next 100 (by omega) (by omega)).mono ?_;rintro e w2 ⟨q,hq,rfl,h,hx⟩;replace ho:=h'.row ho hx;clear h' hx
    go_upto_region 10 with fail
    go_wp2_with fail;refine (lZ _ w2 (by omega) (by omega)).mono ?_;rintro e w3 ⟨rfl,hb⟩;obtain⟨g2,hg2⟩:=zE (fz+1+q);have e2:(fz:Int)+1+(q:Int)=(g2:Int):=by omega
    rw[e2];have iF:Hid (∀r,aV r=true->∃fs,Ri fs g2 (bs++[⟨aS (g2:Int),r⟩])):=fun r hr=>hbk.out.imp' _ (fun _ h=>h.push (by omega) hr)
    have hg3:g2<=100*j+100:=by omega
    clear e2 hg2;obtain⟨va,hva⟩:=zF (aS (g2:Int));rw[hva] at iF⊢;clear hva;obtain⟨an,au,ad⟩:=va;unfold Ra.v;replace ho:=own_below ho hb;have h':=h.below hb;clear hb h;go_wp2_with fail;refine (h'.next 6 (by omega) (by omega)).mono ?_;rintro e w4 ⟨s,hs,rfl,h,hx⟩;replace ho:=h'.row ho hx;clear h' hx;go_wp2_with fail;refine (wfr _ 10 w4 (by omega) (by omega) (by omega) (by omega)).mono ?_;rintro e w5 ⟨bn,bu,bd,rfl,hfit,hb⟩;have jQ:=zH (iF.out _ hfit);clear iF hfit;replace ho:=own_below ho hb;have h':=h.below hb;clear hb h;go_wp2_with (at_builtin;go_must (refine zP afo Tryz.underlying37 ho (by omega) h'.on.size ?_));intro v' w' ho hb;have h:=h'.low hb;clear hb h';go_wp2
    go_roundg (2-(j+1))
    case measure=>omega
    case rel=>exact⟨j+1,g2,bs++[⟨⟨an,au,ad⟩,⟨bn,bu,bd⟩⟩],by omega,by go_num,rfl,by omega,by simp[hbl],jQ,by rw[List.flatMap_append];exact ho,h⟩
   ·obtain⟨A1,c1,rfl,_⟩:=bY ho;go_wp2;go_ret;obtain⟨fs,hfs⟩:=hbk.out;exact⟨⟨A1,j+1,c1⟩,bs,rfl,⟨⟨fs,hfs.a,hfs.b,hfs.c,fun n hn=>by have:=hfs.d n hn;omega⟩,hfs.e,by omega⟩,by rw[hbl];exact ho,h'.ds,h'.on⟩
structure IR (w:World) (u:Nat) (r:List Int × Hd):Prop where
 len:r.2.n=r.1.length
 cap:r.2.n<=r.2.c
 max:r.2.c<=maxLen
 rd:Rd w r.2.a (Me r.1)
 rng:∀x∈r.1,-9223372036854775808<=x/\x<=9223372036854775807
 lt:r.1≠[]->∀ad,r.2.a=some ad->ad.block<u
def vk (r:List Int × Hd):List Value:=[.slice r.2.a r.2.n r.2.c]
theorem IR.below {w w':World} {u:Nat} {r:List Int × Hd} (h:IR w u r) (hb:Below w.heap.size w w'):IR w' u r:=⟨h.len,h.cap,h.max,h.rd.below hb,h.rng,h.lt⟩
theorem KA (xs:List (List Int × Hd)) (h:Hd) (i u:Nat) (w:World) (hr:aJ w vk xs h) (hi:∀r∈xs,IR w u r):
  Calls Tryz.prog 51 #[.slice h.a h.n h.c,.int .i64 (i:Int)] w fun e w'=>∃r,e=.returned (.slice r.2.a r.2.n r.2.c)/\IR w u r/\w=w':=by
 obtain⟨a,n,c⟩:=h;have hlen:=hr.len;simp only at hlen⊢;by_cases hlt:i<xs.length
 ·obtain⟨b,off,hA,hb,hc⟩:=Rd.row vk 1 (fun _=>rfl) (by omega) hr.rd hlt;simp only at hA;subst hA;have HX:=zH (hi _ (List.getElem_mem hlt));have hc0:=hc 0 _ rfl;rw[Nat.mul_one,Nat.add_zero] at hc0;have h0:(0:Int)<=(i:Int):=by omega
  have h1:(i:Int)<(n:Int):=by omega
  clear hc hr hi;generalize xs[i]=r at*;obtain⟨l,⟨ra,rn,rc⟩⟩:=r;simp only at hc0;go_enter Tryz.func51,Tryz.ntmps51;go_wp2;go_ret;exact⟨(l,⟨ra,rn,rc⟩),rfl,HX.out,rfl⟩
 ·have h1:¬(i:Int)<(n:Int):=by omega
  clear hr hi;go_enter Tryz.func51,Tryz.ntmps51;go_wp2;go_ret;exact⟨[],⟨none,0,0⟩,rfl,⟨rfl,Nat.le_refl _,Nat.zero_le _,.inl rfl,fun _ h=>(by cases h),fun h=>absurd rfl h⟩,rfl⟩
def Oe:List ByteArray:=[⟨#[98,97,115,101]⟩,⟨#[114,101,108,105,101,102]⟩,⟨#[99,114,101,100,105,116]⟩,⟨#[116,104,114,101,115,104,111,108,100]⟩,⟨#[116,97,120]⟩,⟨#[116,111,116,97,108]⟩]
theorem X7 (nm:ByteArray) (w:World):Calls Tryz.prog 104 #[.string nm] w fun e w'=>∃r:Int,e=.returned (.int .i64 r)/\Below w.heap.size w w':=by
 go_enter Tryz.func104,Tryz.ntmps104
 go_upto_region 1 with fail
 go_cut [3] from 5 to 6 (fun av wc=>∃X,av=.pointer (some ⟨X,0,none⟩)/\Hid (aj wc X 114 (Oe.map Value.string))/\Hid (Below w.heap.size w wc))
 case first=>
  go_wp2
  go_meet
  case rel=>exact⟨_,rfl,aj.new w 114 (Oe.map Value.string).toArray,zB w _⟩
 case rest=>
  obtain⟨X,rfl,HX,jg⟩:=hcut;go_wp2
  go_loopg [4] 6 (fun g iv wr=>∃j:Nat,j+g=6/\iv=.int .i64 j/\wr=wc)
  case atStart=>exact⟨0,by omega,rfl,rfl⟩
  case round=>
   obtain⟨j,hj,rfl,rfl⟩:=hrel;by_cases hlt:j<6
   ·have hc:=HX.out.cells j;rw[List.getElem?_map,List.getElem?_eq_getElem (show j<Oe.length from hlt),Option.map_some] at hc;generalize Oe[j]'(show j<Oe.length from hlt)=s at*;have h0:(0:Int)<=(j:Int):=by omega
    have h1:(j:Int)<6:=by omega
    by_cases h2:s=nm
    ·subst h2;go_wp2;go_ret;exact⟨_,rfl,jg.out⟩
    ·have h2b:¬(s.toList=nm.toList):=fun h=>h2 (by rw[ByteArray.toList_eq,ByteArray.toList_eq] at h;exact ByteArray.ext (Array.toList_inj.1 h))
     have h2c:(s.toList==nm.toList)=false:=beq_eq_false_iff_ne.2 h2b;go_wp2
     go_roundg (6-(j+1))
     case measure=>omega
     case rel=>exact⟨j+1,by omega,by go_num,rfl⟩
   ·obtain rfl:j=6:=by omega
    go_wp2;go_ret;exact⟨_,rfl,jg.out⟩
theorem EP (xs:List (Pv × Hd)) (f s p:Hd) (nm:ByteArray) (w:World) (hr:aJ w aA xs p):
  Calls Tryz.prog 58 #[dR f s p,.string nm] w fun e w'=>∃(i:Nat) (o:Bool),e=.returned (.tuple #[.int .i64 i,.bool o])/\(o=true->∃h:i<xs.length,xs[i].1.name=nm)/\Below w.heap.size w w':=by
 obtain⟨fa,fn,fc⟩:=f;obtain⟨sa,sn,sc⟩:=s;obtain⟨pa,pn,pc⟩:=p;unfold dR;simp only
 have hn:pn=xs.length:=hr.len;have hm:pn<=maxLen:=Nat.le_trans hr.cap hr.max;unfold maxLen at hm;obtain⟨W,hW⟩:=zE (w.alloc (.cells #[.slice fa fn fc,.slice sa sn sc,.slice pa pn pc] 28));obtain⟨B,hB⟩:=zE w.heap.size;have HK:Hid (aj W B 28 [.slice fa fn fc,.slice sa sn sc,.slice pa pn pc]):=by show aj _ _ _ _;rw[hW,hB];exact aj.new w _ _
 have bC:Hid (Below w.heap.size w W):=by show Below _ _ _;rw[hW];exact zB _ _
 have HR:=zH (hr.below bC.out).rd;have hkc:=HK.out.cells;have HN:=zH hn;clear hr hn;go_enter Tryz.func58,Tryz.ntmps58
 go_upto_region 1 with fail
 simp only[<-hW,<-hB]
 clear hW hB;go_wp2
 go_loopg [6] pn (fun g iv wr=>∃j:Nat,j+g=pn/\iv=.int .i64 j/\wr=W)
 case atStart=>exact⟨0,by omega,rfl,rfl⟩
 case round=>
  obtain⟨j,hj,rfl,rfl⟩:=hrel;by_cases hlt:j<pn
  ·obtain⟨b,off,hA,hb,hc⟩:=Rd.row aA 12 (fun _=>rfl) (by omega) HR.out (show j<xs.length by rw[<-HN.out];exact hlt);subst hA;have hc0:=hc 0 _ rfl;rw[Nat.add_zero] at hc0;have HX:Hid (∃h:j<xs.length,xs[j].1.name=(xs[j]'(show j<xs.length by rw[<-HN.out];exact hlt)).1.name):=⟨by rw[<-HN.out];exact hlt,rfl⟩
   generalize (xs[j]'(show j<xs.length by rw[<-HN.out];exact hlt)).1.name=s at hc0 HX⊢;clear hc;have h0:(0:Int)<=(j:Int):=by omega
   have h1:(j:Int)<(pn:Int):=by omega
   by_cases h2:s=nm
   ·subst h2;go_wp2;go_ret2;exact⟨j,true,rfl,fun _=>HX.out,bC.out⟩
   ·have h2b:¬(s.toList=nm.toList):=fun h=>h2 (by rw[ByteArray.toList_eq,ByteArray.toList_eq] at h;exact ByteArray.ext (Array.toList_inj.1 h))
    have h2c:(s.toList==nm.toList)=false:=beq_eq_false_iff_ne.2 h2b;go_wp2
    go_roundg (pn-(j+1))
    case measure=>omega
    case rel=>exact⟨j+1,by omega,by go_num,rfl⟩
  ·obtain rfl:j=pn:=by omega
   go_wp2;go_ret2;exact⟨0,false,rfl,fun h=>(by cases h),bC.out⟩
theorem Qa (l:List Sg) (A:Option Addr) (k c:Nat) (nm:ByteArray) (fr:Bool) (w:World) (hk:k=l.length) (hm:k<=1000) (hr:Rd w A (jf l)):
  Calls Tryz.prog 57 #[.slice A k c,.string nm,.bool fr] w fun e w'=>∃v sg,e=.returned v/\sg.length<=1000/\sg.Sublist l/\w'.ownsRow w.heap.size 102 5 v sg.length (jf sg)/\Below w.heap.size w w':=by
 have HR:=zH hr;have jG:=zH hk;have HRN:=zH (fun s W=>X7 s W);clear hr hk;go_enter Tryz.func57,Tryz.ntmps57;go_wp2
 go_loopg [7,8] k (fun g ov iv wr=>∃(j:Nat) (ns:List Sg),j+g=k/\iv=.int .i64 j/\Hid (wr.ownsRow w.heap.size 102 5 ov ns.length (jf ns))/\ns.length<=j/\Hid (ns.Sublist (l.take j))/\Hid (Below w.heap.size w wr))
 case atStart=>exact⟨0,[],by omega,rfl,World.ownsRow_nil _ _ _ _,Nat.le_refl _,List.nil_sublist _,Below.refl _ _⟩
 case round=>
  obtain⟨j,ns,hj,rfl,hown,hol,hsb,hbr⟩:=hrel;by_cases hlt:j<k
  ·obtain⟨b,off,hA,hb,hc⟩:=Rd.row Sg.cells 5 (fun _=>rfl) (by omega) HR.out (show j<l.length by rw[<-jG.out];exact hlt);subst hA;have zl:=zH (List.take_succ_eq_append_getElem (show j<l.length by rw[<-jG.out];exact hlt));generalize l[j]'(show j<l.length by rw[<-jG.out];exact hlt)=s at*;obtain⟨dQ,iD,⟨st,sm,sd⟩⟩:=s;have HC:Hid (∀X,Below w.heap.size w X->∀i v,(Sg.cells ⟨dQ,iD,⟨st,sm,sd⟩⟩)[i]?=some v->X.cell? ⟨b,off+j*5+i,none⟩=some v):=fun X hX i v hv=>(hX.cell (p:=⟨b,off+j*5+i,none⟩) hb).trans (hc i v hv)
   have hj0:(0:Int)<=(j:Int):=by omega
   have hj1:(j:Int)<(k:Int):=by omega
   clear hb hc;have d0:=HC.out _ hbr.out 0 _ rfl;have d1:=HC.out _ hbr.out 1 _ rfl;rw[Nat.add_zero] at d0
   go_upto_region 5 with fail
   go_cut [9] from 16 to 41 (fun lv wc=>∃q,lv=.bool q/\Hid (Below wr.heap.size wr wc))
   case first=>
    by_cases h6:dQ=6
    ·subst h6;go_wp2_with fail;refine (HRN.out iD wr).mono ?_;rintro e w1 ⟨r1,rfl,hb1⟩;go_wp2_with fail;refine (HRN.out nm w1).mono ?_;rintro e w2 ⟨r2,rfl,hb2⟩;have HB2:=zH (ah hb1 hb2);clear hb1 hb2;by_cases hrr:r1≥r2
     all_goals
      go_wp2
      go_meet
     all_goals (case rel=>exact⟨_,rfl,HB2⟩)
    ·have h6b:(dQ==6)=false:=beq_eq_false_iff_ne.2 h6;by_cases h8:dQ=8
     ·subst h8;go_wp2_with fail;refine (HRN.out iD wr).mono ?_;rintro e w1 ⟨r1,rfl,hb1⟩;go_wp2_with fail;refine (HRN.out nm w1).mono ?_;rintro e w2 ⟨r2,rfl,hb2⟩;have HB2:=zH (ah hb1 hb2);clear hb1 hb2;by_cases hrr:r1≥r2
      all_goals
       go_wp2
       go_meet
      all_goals (case rel=>exact⟨_,rfl,HB2⟩)
     ·have h8b:(dQ==8)=false:=beq_eq_false_iff_ne.2 h8;go_wp2
      go_meet
      case rel=>exact⟨_,rfl,Below.refl _ _⟩
   case rest=>
    obtain⟨q,rfl,hbc⟩:=hcut;have jg:=zH (hbr.out.trans (hbc.out.mono hbr.out.size));have HOWN:=zH (own_below hown.out hbc.out);clear d0 d1 hown hbr hbc;have d0:=HC.out _ jg.out 0 _ rfl;have d1:=HC.out _ jg.out 1 _ rfl;have d2:=HC.out _ jg.out 2 _ rfl;have d3:=HC.out _ jg.out 3 _ rfl;have d4:=HC.out _ jg.out 4 _ rfl;rw[Nat.add_zero] at d0;have hcz:=jg.out.size;by_cases hall:fr=true∨q=false
    ·have hqq:(fr|| !q)=true:=by rcases hall with rfl|rfl<;>simp
     cases fr<;>cases q
     all_goals try exact absurd hqq (by decide)
     all_goals
      clear hqq hall;go_wp2_with (at_builtin;go_must (refine bP wc #[.int .i64 dQ,.string iD,.bool st,.int .i64 sm,.int .i64 sd] rfl _ _ 61 rfl w.heap.size 102 _ 5 48 1 Tryz.underlying61 qw rfl (by decide) u7 ns.length (jf ns) rfl HOWN.out (by rfl) rfl ?_ ?_ ?_ ?_ ?_))
      any_goals first|(unfold maxLen;omega)|omega
      ·exact⟨rfl,rfl,rfl,rfl,rfl⟩
      intro v' w' hown' hb';have Kv:=zH hown';have J4:=zH (jg.out.trans hb');clear hown' hb' d0 d1 d2 d3 d4;go_wp2
      go_roundg (k-(j+1))
     all_goals first|(case measure=>omega)|(case rel=>
      refine⟨j+1,ns++[(⟨dQ,iD,⟨st,sm,sd⟩⟩:Sg)],by omega,by go_num,?_,by simp;omega,by show List.Sublist _ _;rw[zl.out];exact hsb.out.append (List.Sublist.refl _),J4⟩;show World.ownsRow _ _ _ _ _ _ _;rw[rJ,List.length_append];exact Kv.out)
    ·obtain⟨rfl,rfl⟩:fr=false/\q=true:=by cases fr<;>cases q<;>simp at hall⊢
     clear hall;go_wp2
     go_roundg (k-(j+1))
     case measure=>omega
     case rel=>exact⟨j+1,ns,by omega,by go_num,HOWN,by omega,by show List.Sublist _ _;rw[zl.out];exact hsb.out.trans (List.sublist_append_left _ _),jg⟩
  ·obtain rfl:j=k:=by omega
   go_wp2;go_ret;exact⟨_,ns,rfl,by omega,by have h:=hsb.out;rw[jG.out,List.take_length] at h;exact h,hown.out,hbr.out⟩
def RtB (l:List Sg) (t:Bool) (m d:Int) (s:ByteArray):Prop:=dI s=true/\dP l ⟨24,zR,s⟩=some ⟨t,m,d⟩
def afq (P:ByteArray->Prop) (D u:Nat) (w:World) (e:Ending) (w':World):Prop:=∃(s:ByteArray) (o:Bool),e=.returned (.tuple #[.string s,.bool o])/\(o=true->P s)/\DS w' D u/\aF D w w'
theorem U0 (l:List Sg) (A:Option Addr) (k c D u:Nat) (t:Bool) (m d:Int) (w:World) (hs:Hz w D A k l) (hd:DS w D u):
  Calls Tryz.prog 147 #[.slice A k c,.pointer (some ⟨D,0,none⟩),.agg #[.bool t,.int .i64 m,.int .i64 d]] w (afq (RtB l t m d) D u w):=by
 obtain⟨W,hW⟩:=zE (w.alloc (.cells #[.bool t,.int .i64 m,.int .i64 d] 34));obtain⟨B,hB⟩:=zE w.heap.size;have HK:Hid (aj W B 34 [.bool t,.int .i64 m,.int .i64 d]):=by show aj _ _ _ _;rw[hW,hB];exact aj.new w _ _
 have bC:Hid (Below w.heap.size w W):=by show Below _ _ _;rw[hW];exact zB _ _
 have iC:=zH hB;have oI:=zH (hs.dG (aF.of_below bC.out));have HD:=zH (hd.below bC.out);have Q5:=zH hd.lt;have agc:=hs.max;clear hs hd;go_enter Tryz.func147,Tryz.ntmps147
 go_upto_region 1 with fail
 simp only[<-hW,<-hB]
 clear hW hB;go_wp2
 go_loopg [8,9] k (fun g ov iv wr=>∃(j:Nat) (ss:List ByteArray),j+g=k/\iv=.int .i64 j/\Hid (wr.ownsRow W.heap.size 9 1 ov ss.length (strs ss))/\ss.length<=j/\Hid (∀s∈ss,RtB l t m d s)/\Hid (Below W.heap.size W wr))
 case atStart=>exact⟨0,[],by omega,rfl,World.ownsRow_nil _ _ _ _,Nat.le_refl _,fun _ h=>(by cases h),Below.refl _ _⟩
 case round=>
  obtain⟨j,ss,hj,rfl,hown,hol,hte,hbr⟩:=hrel;by_cases hlt:j<k
  ·have hjl:j<l.length:=by rw[<-oI.out.len];exact hlt
   obtain⟨b,off,hA,hb,hc⟩:=Rd.row Sg.cells 5 (fun _=>rfl) (by omega) oI.out.rd hjl;subst hA;have kK:=zH (oI.out.nm _ (List.getElem_mem hjl));generalize l[j]=s at*;obtain⟨dQ,iD,⟨st,sm,sd⟩⟩:=s;have HC:Hid (∀X,Below W.heap.size W X->X.cell? ⟨b,off+j*5,none⟩=some (.int .i64 dQ)/\X.cell? ⟨b,off+j*5+1,none⟩=some (.string iD)):=fun X hX=>⟨(hX.cell (p:=⟨b,off+j*5,none⟩) hb).trans (hc 0 _ rfl),(hX.cell (p:=⟨b,off+j*5+1,none⟩) hb).trans (hc 1 _ rfl)⟩
   have HF:Hid (∀X,Below W.heap.size W X->Calls Tryz.prog 180 #[.slice (some ⟨b,off,none⟩) k c,.int .i64 24,.string iD] X (UZ (ql l 24 iD) X)):=fun X hX=>abV l _ k c 24 iD X oI.out.len (by have:=oI.out.max;unfold maxLen;omega) (oI.out.rd.below hX)
   have hj0:(0:Int)<=(j:Int):=by omega
   have hj1:(j:Int)<(k:Int):=by omega
   clear hb hc hjl
   go_upto_region 5 with fail
   go_cut [10,11] from 18 to 28 (fun av ov wc=>∃X t2 m2 d2 o2,av=.pointer (some ⟨X,0,none⟩)/\ov=.bool o2/\Hid (o2=true->ql l 24 iD=some ⟨t2,m2,d2⟩)/\Hid (aj wc X 34 [.bool t2,.int .i64 m2,.int .i64 d2])/\Hid (Below wr.heap.size wr wc))
   case first=>
    obtain⟨hc0,hc1⟩:=HC.out _ hbr.out;go_wp2_with fail;refine (HF.out _ hbr.out).mono ?_;rintro e w6 ⟨t2,m2,d2,o2,rfl,hq6,hb6⟩;have zo:=zH hq6;clear hq6;have X5:=zH (aj.new w6 34 #[.bool t2,.int .i64 m2,.int .i64 d2]);have Oc:=zH (ah hb6 (zB w6 (.cells #[.bool t2,.int .i64 m2,.int .i64 d2] 34)));clear hb6 hc0 hc1;go_wp2
    go_meet
    case rel=>exact⟨_,t2,m2,d2,o2,rfl,rfl,zo,X5,Oc⟩
   case rest=>
    obtain⟨X,t2,m2,d2,o2,rfl,rfl,zo,hx,hbc⟩:=hcut;obtain⟨dq,jY⟩:=zF (decide ((⟨t2,m2,d2⟩:Ty)=⟨t,m,d⟩));have Ce:=fun W=>uI ⟨t2,m2,d2⟩ ⟨t,m,d⟩ W
    simp only[jY,Ty.v] at Ce;have jg:=zH (ah hbr.out hbc.out);have HOWN:=zH (own_below hown.out hbc.out);have hxc:=hx.out.cells;have hbk:=(HK.out.below jg.out HK.out.lt).cells;obtain⟨hc0,hc1⟩:=HC.out _ jg.out;have hsy:(dQ==24)=decide (dQ=24):=by by_cases h:dQ=24<;>simp[h]
    have qG:=zH jY;clear jY hbc hx hown hbr;by_cases hall:o2=true/\dQ=24/\dq=true
    ·obtain⟨rfl,rfl,rfl⟩:=hall;have EO:Hid (RtB l t m d iD):=⟨kK.out,(Rh ((zo.out rfl).trans (congrArg some (of_decide_eq_true qG.out)))).2⟩
     clear zo qG kK;have hcz:=jg.out.size;go_wp2_with (at_builtin;go_must (refine bP wc #[.string iD] rfl _ _ 120 rfl W.heap.size 9 _ 1 16 1 Tryz.underlying120 xW rfl (by decide) u8 ss.length (strs ss) rfl HOWN.out (by rfl) rfl ?_ ?_ ?_ ?_ ?_))
     any_goals first|rfl|(unfold maxLen;omega)|omega
     intro v' w' hown' hb';have Kv:=zH hown';have J4:=zH (jg.out.trans hb');clear hown' hb';go_wp2
     go_roundg (k-(j+1))
     case measure=>omega
     case rel=>
      refine⟨j+1,ss++[iD],by omega,by go_num,?_,by simp;omega,fun n hn=>?_,J4⟩
      ·show World.ownsRow _ _ _ _ _ _ _;rw[uj,List.length_append];exact Kv.out
      ·rcases List.mem_append.1 hn with hn|hn
       ·exact hte.out n hn
       ·rw[List.mem_singleton.1 hn];exact EO.out
    ·clear qG zo;by_cases uN:dQ=24
     all_goals
      first|rw[decide_eq_true uN] at hsy|rw[decide_eq_false uN] at hsy
      cases o2<;>cases dq
     any_goals (simp[uN] at hall;done)
     all_goals
      try clear hall
      go_wp2
      go_roundg (k-(j+1))
     all_goals first|(case measure=>omega)|(case rel=>exact⟨j+1,ss,by omega,by go_num,HOWN,by omega,hte,jg⟩)
  ·obtain rfl:j=k:=by omega
   have HDW:=zH (HD.out.below hbr.out);have CZ:=zH (aF.of_below (G:=D) (ah bC.out hbr.out));have Ht:Hid (D<W.heap.size):=by show _<_;have:=bC.out.size;have:=Q5.out;omega
   clear hbr;by_cases h0:ss.length=0
   ·have h0':(ss.length:Int)=0:=by omega
    have h0b:((ss.length:Int)==0)=true:=beq_iff_eq.2 h0';obtain⟨A1,c1,rfl,_⟩:=bY hown.out;go_wp2;go_ret2;exact⟨_,_,rfl,fun h=>(by cases h),HDW.out,CZ.out⟩
   ·have h0':¬(ss.length:Int)=0:=by omega
    have h0b:((ss.length:Int)==0)=false:=beq_eq_false_iff_ne.2 h0';have Df:=zH (next_any wr D u (ss.length:Int) HDW.out (by omega) (by omega));obtain⟨A1,c1,rfl,_⟩:=bY hown.out;go_wp2_with fail;refine Df.out.mono ?_;rintro e w1 ⟨r,hr,rfl,hd1,ho1⟩;have y7:=zH (jI hown.out ho1 Ht.out);have Di:=zH (CZ.out.trans ho1);have HD1:=zH hd1;clear hown hd1 ho1 Df;have hr1:r<ss.length:=by omega
    obtain⟨_,_,hv,_,_,hrd,_⟩:=bY y7.out;injection hv with hv1 hv2 hv3;subst hv1 hv3;obtain⟨g,of,hA,hb,hc⟩:=Rd.row lS 1 (fun _=>rfl) (by omega) hrd hr1;subst hA;have hc0:=hc 0 _ rfl;rw[Nat.mul_one,Nat.add_zero] at hc0;have hr0:(0:Int)<=(r:Int):=by omega
    have EO:=zH (hte.out _ (List.getElem_mem hr1));clear hc hrd hv2 hte;go_wp2;go_ret2;exact⟨_,_,rfl,fun _=>EO.out,HD1.out,Di.out⟩
theorem oM (m d:Int) (w:World):Calls Tryz.prog 18 #[.int .i64 m,.int .i64 d] w fun e w'=>e=.returned (.agg #[.bool false,.int .i64 m,.int .i64 d])/\Below w.heap.size w w':=by
 go_enter Tryz.func18,Tryz.ntmps18;go_wp2;exact bodyPost_ret (v:=.agg #[.bool false,.int .i64 m,.int .i64 d]) (by simp[results,Tryz.results18,go_sem]) rfl ⟨rfl,zB _ _⟩
theorem Az (w:World):Calls Tryz.prog 54 #[] w fun e w'=>e=.returned (.agg #[.bool true,.int .i64 0,.int .i64 0])/\Below w.heap.size w w':=by
 go_enter Tryz.func54,Tryz.ntmps54;go_wp2;exact bodyPost_ret (v:=.agg #[.bool true,.int .i64 0,.int .i64 0]) (by simp[results,Tryz.results54,go_sem]) rfl ⟨rfl,zB _ _⟩
def K5 (i:Int) (t:Bool) (m d:Int):Prop:=(i=0/\t=false/\m=1/\d=0)∨(i=1/\t=false/\m=0/\d=1)∨(i=2/\t=false/\m=0/\d=0)∨(i=3/\t=true/\m=0/\d=0)∨(i=4/\t=false/\m=1/\d= -1)
def ac6 (i:Int) (w:World) (e:Ending) (w':World):Prop:=∃t m d,e=.returned (.agg #[.bool t,.int .i64 m,.int .i64 d])/\K5 i t m d/\Below w.heap.size w w'
theorem uT (q:Int) (h0:-9223372036854775808<=q) (h1:q<=9223372036854775807) (w:World):Calls Tryz.prog 44 #[.int .i64 q] w (ac6 (q % 5) w):=by
 obtain⟨W,hW⟩:=zE (w.alloc (.cells #[.bool false,.int .i64 0,.int .i64 0] 34));have HK:=zH (aj.new w 34 #[.bool false,.int .i64 0,.int .i64 0]);have HB:=zH (zB w (.cells #[.bool false,.int .i64 0,.int .i64 0] 34));rw[<-hW] at HK HB;obtain⟨B,hB⟩:=zE w.heap.size;rw[<-hB] at HK;have HX:=zH (Nat.le_of_eq hB.symm);have HM:=zH (fun W=>mO q 5 W h0 h1 (by omega) (by omega));obtain⟨r,hr,hrq⟩:∃r:Nat,r<5/\q % 5=r:=⟨(q % 5).toNat,by omega,by omega⟩
 rw[hrq] at HM⊢;clear hrq h0 h1;go_enter Tryz.func44,Tryz.ntmps44
 go_upto_region 1 with fail
 simp only[<-hW,<-hB]
 clear hW hB;go_wp2_with fail;refine (oM 1 0 W).mono ?_;rintro e w1 ⟨rfl,hb1⟩;replace HB:=zH (ah HB.out hb1);replace HK:=zH (HK.out.below hb1 HK.out.lt);clear hb1;go_wp2_with fail;refine (oM 0 1 w1).mono ?_;rintro e w2 ⟨rfl,hb1⟩;replace HB:=zH (ah HB.out hb1);replace HK:=zH (HK.out.below hb1 HK.out.lt);clear hb1;go_wp2_with fail;refine (oM 0 0 w2).mono ?_;rintro e w3 ⟨rfl,hb1⟩;replace HB:=zH (ah HB.out hb1);replace HK:=zH (HK.out.below hb1 HK.out.lt);clear hb1;go_wp2_with fail;refine (Az w3).mono ?_;rintro e w4 ⟨rfl,hb1⟩;replace HB:=zH (ah HB.out hb1);replace HK:=zH (HK.out.below hb1 HK.out.lt);clear hb1;go_wp2_with fail;refine (oM 1 (-1) w4).mono ?_;rintro e w5 ⟨rfl,hb1⟩;replace HB:=zH (ah HB.out hb1);replace HK:=zH (HK.out.below hb1 HK.out.lt);clear hb1;go_wp2_with fail;refine (HM.out w5).mono ?_;rintro e w6 ⟨rfl,rfl⟩;have hkc:=HK.out.cells;have pq:=HK.out.aI
 obtain⟨t,m,d,hT,hix⟩:∃t m d,Hid (K5 (r:Int) t m d)/\(Instr.index 159 (.agg #[.bool false,.int .i64 1,.int .i64 0,.bool false,.int .i64 0,.int .i64 1,.bool false,.int .i64 0,.int .i64 0,.bool true,.int .i64 0,.int .i64 0,.bool false,.int .i64 1,.int .i64 (-1)]) (.int .i64 (r:Int))).run Tryz.prog w5=.ok (.agg #[.bool t,.int .i64 m,.int .i64 d]) w5:=by
  rcases (by omega:r=0∨r=1∨r=2∨r=3∨r=4) with rfl|rfl|rfl|rfl|rfl
  ·exact⟨false,1,0,.inl ⟨rfl,rfl,rfl,rfl⟩,by kernel_rfl⟩
  ·exact⟨false,0,1,.inr (.inl ⟨rfl,rfl,rfl,rfl⟩),by kernel_rfl⟩
  ·exact⟨false,0,0,.inr (.inr (.inl ⟨rfl,rfl,rfl,rfl⟩)),by kernel_rfl⟩
  ·exact⟨true,0,0,.inr (.inr (.inr (.inl ⟨rfl,rfl,rfl,rfl⟩))),by kernel_rfl⟩
  ·exact⟨false,1,-1,.inr (.inr (.inr (.inr ⟨rfl,rfl,rfl,rfl⟩))),by kernel_rfl⟩
 clear hr HM;go_wp2;exact bodyPost_ret (v:=.agg #[.bool t,.int .i64 m,.int .i64 d]) (by simp[results,Tryz.results44,go_sem,hkc]) rfl ⟨t,m,d,rfl,hT.out,((HB.out.setCell (p:=⟨B,0,none⟩) HX.out _).setCell (p:=⟨B,1,none⟩) HX.out _).setCell (p:=⟨B,2,none⟩) HX.out _⟩
structure MS (w:World) (B D u:Nat) (A:Option Addr) (k:Nat) (l:List Sg) (t:Bool) (m d:Int) (W:World):Prop where
 b:aj W B 34 [.bool t,.int .i64 m,.int .i64 d]
 s:Hz W D A k l
 ds:DS W D u
 on:aF D w W
 hB:D<B
 hD:D<w.heap.size
 hu:u<=w.heap.size
def KZ (K:Nat) (n:Int):Prop:=∀(l:List Sg) (A:Option Addr) (k c D u:Nat) (t:Bool) (m d:Int) (w:World),Hz w D A k l->DS w D u->u<=w.heap.size->jh 1 t m d->
 Calls Tryz.prog 103 #[.slice A k c,.pointer (some ⟨D,0,none⟩),.agg #[.bool t,.int .i64 m,.int .i64 d],.int .i64 n] w (vU (TK l t m d K) D u w)
def xu (w:World) (P:List Nd->Prop) (X:World) (r:List Nd × Hd):Prop:=X.ownsRow w.heap.size 49 5 (.slice r.2.a r.2.n r.2.c) r.1.length (eP r.1)/\P r.1
section
variable {w X X':World} {B D u k K c:Nat} {P:List Nd->Prop} {n:Int} {A:Option Addr} {l:List Sg} {t:Bool} {m d:Int}
theorem MS.dG (h:MS w B D u A k l t m d X) (hd:DS X' D u) (ho:aF D X X'):MS w B D u A k l t m d X':=
 ⟨ho.blk h.b (by have:=h.hB;omega),h.s.dG ho,hd,h.on.trans ho,h.hB,h.hD,h.hu⟩
theorem MS.below (h:MS w B D u A k l t m d X) (hb:Below X.heap.size X X'):MS w B D u A k l t m d X':=h.dG (h.ds.below hb) (aF.of_below hb)
theorem MS.cells (h:MS w B D u A k l t m d X):X.cell? ⟨B,0,none⟩=some (.bool t)/\X.cell? ⟨B,1,none⟩=some (.int .i64 m)/\X.cell? ⟨B,2,none⟩=some (.int .i64 d):=⟨h.b.cells 0,h.b.cells 1,h.b.cells 2⟩
theorem xu.dG {r:List Nd × Hd} (h:xu w P X r) (ho:aF D X X') (hD:D<w.heap.size):xu w P X' r:=⟨jI h.1 ho hD,h.2⟩
theorem MS.next (h:MS w B D u A k l t m d X) (q:Int) (h1:1<=q) (h2:q<=1000):Calls Tryz.prog 52 #[.pointer (some ⟨D,0,none⟩),.int .i64 q] X fun e X'=>∃r:Nat,(r:Int)<q/\e=.returned (.int .i64 r)/\MS w B D u A k l t m d X'/\aF D X X':=
 (next_any X D u q h.ds h1 (by omega)).mono fun _ _ ⟨r,hr,he,hd,ho⟩=>⟨r,hr,he,h.dG hd ho,ho⟩
theorem MS.made (h:MS w B D u A k l t m d X) (HM:KZ K n) (c:Nat) (t':Bool) (m' d':Int) (ht:jh 1 t' m' d'):
  Calls Tryz.prog 103 #[.slice A k c,.pointer (some ⟨D,0,none⟩),.agg #[.bool t',.int .i64 m',.int .i64 d'],.int .i64 n] X fun e X'=>∃r:List Nd × Hd,e=.returned (.slice r.2.a r.2.n r.2.c)/\xu w (TK l t' m' d' K) X' r/\MS w B D u A k l t m d X'/\aF D X X':=by
 refine (HM l A k c D u t' m' d' X h.s h.ds (Nat.le_trans h.hu h.on.size) ht).mono ?_;rintro e X' ⟨v,ns,rfl,h1,h2,h3,h4⟩;obtain⟨A1,c1,rfl,_⟩:=bY h2;exact⟨(ns,⟨A1,ns.length,c1⟩),rfl,⟨bW h2 h.on.size,h1⟩,h.dG h3 h4,h4⟩
theorem MS.after (h:MS w B D u A k l t m d X) (hK:K<=1000) (Ob:Nd) (rs:List (List Nd × Hd)) (h3:rs.length<=3) (hr:∀r∈rs,xu w (fun ns=>ns.length<=K) X r) (hP:P ((rs.map Prod.fst).flatten++[Ob])):
  Calls Tryz.prog 145 #[.agg Ob.cells.toArray,.slice (some ⟨X.heap.size,0,none⟩) rs.length rs.length] (X.alloc (.cells (rs.map fun r=>Value.slice r.2.a r.2.n r.2.c).toArray 40)) fun e X'=>∃v,e=.returned v/\vU P D u w (.returned v) X'/\MS w B D u A k l t m d X'/\Below X.heap.size X X':=by
 have hb:=zB X (.cells (rs.map fun r=>Value.slice r.2.a r.2.n r.2.c).toArray 40);refine (UY Ob K X.heap.size rs.length 40 rs _ rfl h3 hK (aj.new X _ _) (fun r h=>?_)).mono ?_
 ·obtain⟨h1,h2⟩:=hr r h;obtain⟨q1,q2,q3,q4⟩:=nG (own_below h1 hb);exact⟨⟨q1,by omega,q3,q4⟩,h2⟩
 ·rintro e w' ⟨v,ns,rfl,h1,h2,h4⟩;have hb2:=ah hb h4;exact⟨v,rfl,⟨v,ns,rfl,h1 ▸ hP,bW h2 (Nat.le_trans h.on.size hb.size),h.ds.below hb2,h.on.trans (aF.of_below hb2)⟩,h.below hb2,hb2⟩
theorem MS.a1 (h:MS w B D u A k l t m d X) (hK:K<=1000) {op:Int} {ng:Bool} {nu de nm:ByteArray} {r1:List Nd × Hd} {t1:Bool} {m1 d1:Int} (q1:xu w (TK l t1 m1 d1 K) X r1) (hT:∀a,TE l ⟨t1,m1,d1⟩ a->TE l ⟨t,m,d⟩ ([a].flatten++[(⟨op,⟨ng,nu,de⟩,nm⟩:Nd)])):
  Calls Tryz.prog 145 #[.agg #[.int .i64 op,.bool ng,.string nu,.string de,.string nm],.slice (some ⟨X.heap.size,0,none⟩) 1 1] (X.alloc (.cells #[.slice r1.2.a r1.2.n r1.2.c] 40)) fun e X'=>∃v,e=.returned v/\vU (TK l t m d (3*K+1)) D u w (.returned v) X'/\MS w B D u A k l t m d X'/\Below X.heap.size X X':=
 h.after hK ⟨op,⟨ng,nu,de⟩,nm⟩ [r1] (by simp) (fun r hr=>(by simp at hr;subst hr;exact⟨q1.1,q1.2.2⟩)) ⟨hT _ q1.2.1,by have:=q1.2.2;simp;omega⟩
theorem MS.a2 (h:MS w B D u A k l t m d X) (hK:K<=1000) {op:Int} {ng:Bool} {nu de nm:ByteArray} {r1 r2:List Nd × Hd} {t1 t2:Bool} {m1 d1 m2 d2:Int} (q1:xu w (TK l t1 m1 d1 K) X r1) (q2:xu w (TK l t2 m2 d2 K) X r2) (hT:∀a b,TE l ⟨t1,m1,d1⟩ a->TE l ⟨t2,m2,d2⟩ b->TE l ⟨t,m,d⟩ ([a,b].flatten++[(⟨op,⟨ng,nu,de⟩,nm⟩:Nd)])):
  Calls Tryz.prog 145 #[.agg #[.int .i64 op,.bool ng,.string nu,.string de,.string nm],.slice (some ⟨X.heap.size,0,none⟩) 2 2] (X.alloc (.cells #[.slice r1.2.a r1.2.n r1.2.c,.slice r2.2.a r2.2.n r2.2.c] 40)) fun e X'=>∃v,e=.returned v/\vU (TK l t m d (3*K+1)) D u w (.returned v) X'/\MS w B D u A k l t m d X'/\Below X.heap.size X X':=
 h.after hK ⟨op,⟨ng,nu,de⟩,nm⟩ [r1,r2] (by simp) (fun r hr=>(by simp at hr;rcases hr with rfl|rfl<;>first|exact⟨q1.1,q1.2.2⟩|exact⟨q2.1,q2.2.2⟩)) ⟨hT _ _ q1.2.1 q2.2.1,by have:=q1.2.2;have:=q2.2.2;simp;omega⟩
theorem MS.a3 (h:MS w B D u A k l t m d X) (hK:K<=1000) {op:Int} {ng:Bool} {nu de nm:ByteArray} {r1 r2 r3:List Nd × Hd} {t1 t2 t3:Bool} {m1 d1 m2 d2 m3 d3:Int} (q1:xu w (TK l t1 m1 d1 K) X r1) (q2:xu w (TK l t2 m2 d2 K) X r2) (q3:xu w (TK l t3 m3 d3 K) X r3) (hT:∀a b c,TE l ⟨t1,m1,d1⟩ a->TE l ⟨t2,m2,d2⟩ b->TE l ⟨t3,m3,d3⟩ c->TE l ⟨t,m,d⟩ ([a,b,c].flatten++[(⟨op,⟨ng,nu,de⟩,nm⟩:Nd)])):
  Calls Tryz.prog 145 #[.agg #[.int .i64 op,.bool ng,.string nu,.string de,.string nm],.slice (some ⟨X.heap.size,0,none⟩) 3 3] (X.alloc (.cells #[.slice r1.2.a r1.2.n r1.2.c,.slice r2.2.a r2.2.n r2.2.c,.slice r3.2.a r3.2.n r3.2.c] 40)) fun e X'=>∃v,e=.returned v/\vU (TK l t m d (3*K+1)) D u w (.returned v) X'/\MS w B D u A k l t m d X'/\Below X.heap.size X X':=
 h.after hK ⟨op,⟨ng,nu,de⟩,nm⟩ [r1,r2,r3] (by simp) (fun r hr=>(by simp at hr;rcases hr with rfl|rfl|rfl<;>first|exact⟨q1.1,q1.2.2⟩|exact⟨q2.1,q2.2.2⟩|exact⟨q3.1,q3.2.2⟩)) ⟨hT _ _ _ q1.2.1 q2.2.1 q3.2.1,by have:=q1.2.2;have:=q2.2.2;have:=q3.2.2;simp;omega⟩
theorem MS.leaf (h:MS w B D u A k l t m d X) (c:Nat) (ht:jh K t m d):Calls Tryz.prog 144 #[.slice A k c,.pointer (some ⟨D,0,none⟩),.agg #[.bool t,.int .i64 m,.int .i64 d]] X (vU (TK l t m d K) D u w):=by
 refine (X4 l A k c D u K t m d X h.s h.ds (Nat.le_trans h.hu h.on.size) ht).mono ?_;rintro e w' ⟨v,ns,h1,h2,h3,h4,h5⟩;exact⟨v,ns,h1,h2,bW h3 h.on.size,h4,h.on.trans h5⟩
end
theorem K5.lo {r:Nat} {t:Bool} {m d:Int} (h:K5 ((r:Int) % 5) t m d) (hr:r<3):t=false/\jh 1 t m d:=by
 unfold K5 at h;rcases h with⟨_,rfl,rfl,rfl⟩|⟨_,rfl,rfl,rfl⟩|⟨_,rfl,rfl,rfl⟩|⟨h,_⟩|⟨h,_⟩
 ·exact⟨rfl,.inr ⟨rfl,.inl ⟨Nat.le_refl _,.inl ⟨rfl,rfl⟩⟩⟩⟩
 ·exact⟨rfl,.inr ⟨rfl,.inl ⟨Nat.le_refl _,.inr (.inl ⟨rfl,rfl⟩)⟩⟩⟩
 ·exact⟨rfl,.inr ⟨rfl,.inl ⟨Nat.le_refl _,.inr (.inr ⟨rfl,rfl⟩)⟩⟩⟩
 ·omega
 ·omega
theorem H6 (n:Int) (hn:n<=0) (K:Nat) (l:List Sg) (A:Option Addr) (k c D u:Nat) (t:Bool) (m d:Int) (w:World) (hs:Hz w D A k l) (hd:DS w D u) (hu:u<=w.heap.size) (ht:jh K t m d):
  Calls Tryz.prog 103 #[.slice A k c,.pointer (some ⟨D,0,none⟩),.agg #[.bool t,.int .i64 m,.int .i64 d],.int .i64 n] w (vU (TK l t m d K) D u w):=by
 go_enter Tryz.func103,Tryz.ntmps103
 go_upto_region 1 with fail
 generalize hW:w.alloc _=W;obtain⟨hk,hb0⟩:=zA hW;have h:MS w w.heap.size D u A k l t m d W:=⟨hk,hs.dG (aF.of_below hb0),hd.below hb0,aF.of_below hb0,hd.lt,hd.lt,hu⟩
 have hc:=h.cells;clear hW hk;generalize hB:w.heap.size=B at h hc hb0⊢;go_wp2_with fail;refine (h.leaf c ht).mono ?_;rintro e w1 ⟨v,ns,rfl,h1⟩;go_wp2;go_ret;exact⟨v,ns,rfl,h1⟩
theorem Ia (n K:Nat) (hn:n<=1) (hK0:1<=K) (hK:K<=100) (HM:KZ K n):KZ (3*K+1) ((n:Int)+1):=by
 intro l A k c D u t m d w hs hd hu ht;have hK2:K<=1000:=by omega
 have htK:=ht.mono (show 1<=3*K+1 by omega);have h1n:¬((n:Int)+1<=0):=by omega
 clear hK0 hK;go_enter Tryz.func103,Tryz.ntmps103
 go_upto_region 1 with fail
 generalize hW:w.alloc _=W;obtain⟨hk,hb0⟩:=zA hW;have h:MS w w.heap.size D u A k l t m d W:=⟨hk,hs.dG (aF.of_below hb0),hd.below hb0,aF.of_below hb0,hd.lt,hd.lt,hu⟩
 have hc:=h.cells;clear hW hk hs hd hu hb0;generalize hB:w.heap.size=B at h hc⊢;clear hB;go_wp2_with fail;refine (h.next 5 (by omega) (by omega)).mono ?_;rintro e w1 ⟨r1,hr1,rfl,h',_⟩;clear h hc;have h:=h';have hc:=h.cells;clear h';by_cases h0:r1=0
 ·subst h0;go_wp2_with fail;refine (h.leaf c htK).mono ?_;rintro e w2 ⟨v,ns,rfl,hf⟩;go_wp2;go_ret;exact⟨v,ns,rfl,hf⟩
 have h0b:((r1:Int)==0)=false:=beq_eq_false_iff_ne.2 (by omega);have h0p:¬(r1:Int)=0:=by omega
 clear h0 hr1;cases t
 ·have hu:=ht.unit;go_wp2_with fail;refine (h.next 7 (by omega) (by omega)).mono ?_;rintro e w1 ⟨r2,hr2,rfl,h',_⟩;clear h hc;have h:=h';have hc:=h.cells;clear h';rcases (by omega:r2=0∨r2=1∨r2=2∨r2=3∨r2=4∨r2=5∨r2=6) with rfl|rfl|rfl|rfl|rfl|rfl|rfl
  iterate 2
   ·go_wp2_with fail;refine (h.next 4 (by omega) (by omega)).mono ?_;rintro e w1 ⟨r3,hr3,rfl,h',_⟩;clear h hc;have h:=h';have hc:=h.cells;clear h'
    obtain⟨q,hq9,hq⟩:∃q:Int,Hid (q=9∨q=10∨q=13∨q=14)/\∀W,Sem.run Tryz.prog (Instr.index 207 (.agg #[.int .i64 9,.int .i64 10,.int .i64 13,.int .i64 14]) (.int .i64 (r3:Int))) W=Result.ok (.int .i64 q) W:=by
     rcases (by omega:r3=0∨r3=1∨r3=2∨r3=3) with rfl|rfl|rfl|rfl
     ·exact⟨9,.inl rfl,fun _=>by first|rfl|kernel_rfl⟩
     ·exact⟨10,.inr (.inl rfl),fun _=>by first|rfl|kernel_rfl⟩
     ·exact⟨13,.inr (.inr (.inl rfl)),fun _=>by first|rfl|kernel_rfl⟩
     ·exact⟨14,.inr (.inr (.inr rfl)),fun _=>by first|rfl|kernel_rfl⟩
    have hCS:=fun X (h:MS w B D u A k l false m d X)=>h.cells
    go_upto_region 20 with fail
    refine dN (MS w B D u A k l false m d) 99 (h.below (ak _ _ 1)) (fun w1 _ h=>?_)
    iterate 6 refine aW ?_
    refine aG 7 ?_;refine aG 8 ?_;refine aG 9 ?_;refine aG 10 ?_;refine cO 6 (h.made HM c false m d ht) ?_;rintro e w1 ⟨r5,rfl,iG,h,ho⟩;refine⟨_,rfl,h,fun h=>?_⟩;refine cO 11 (h.made HM c false m d ht) ?_;rintro e w1 ⟨r6,rfl,uU,h,ho⟩;replace iG:=iG.dG ho h.hD;refine⟨_,rfl,h,fun h=>?_⟩;refine iy 12 (fun _=>h.below (zB _ _)) (fun _=>?_);refine cO 13 (h.a2 hK2 iG uU (fun a b ha hb=>TE.sum hq9.out rfl ha hb)) ?_;rintro e w1 ⟨v,rfl,hf,h,_⟩;refine⟨_,rfl,h,fun h=>?_⟩;refine aG 14 ?_;refine dH ?_;go_wp2;go_ret;exact hf
  ·go_wp2_with fail;refine (h.made HM c false m d ht).mono ?_;rintro e w1 ⟨r5,rfl,iG,h',ho⟩;clear h hc ho;have h:=h';have hc:=h.cells;clear h';go_wp2_with fail;refine (oM 0 0 _).mono ?_;rintro e w1 ⟨rfl,hb⟩;replace iG:=iG.dG (aF.of_below hb) h.hD;have h':=h.below hb;clear h hc hb;have h:=h';have hc:=h.cells;clear h';go_wp2_with fail;refine (h.made HM c false 0 0 jh.plain).mono ?_;rintro e w1 ⟨r6,rfl,uU,h',ho⟩;replace iG:=iG.dG ho h'.hD;clear h hc ho;have h:=h';have hc:=h.cells;clear h';go_wp2_with fail;refine (h.a2 hK2 iG uU (fun a b ha hb=>TE.mul (.inl rfl) rfl hu ha hb)).mono ?_;rintro e w1 ⟨v,rfl,hf,h,_⟩;go_wp2;go_ret;exact hf
  ·go_wp2_with fail;refine (h.made HM c false m d ht).mono ?_;rintro e w1 ⟨r5,rfl,iG,h',ho⟩;clear h hc ho;have h:=h';have hc:=h.cells;clear h';go_wp2_with fail;refine (oM 0 0 _).mono ?_;rintro e w1 ⟨rfl,hb⟩;replace iG:=iG.dG (aF.of_below hb) h.hD;have h':=h.below hb;clear h hc hb;have h:=h';have hc:=h.cells;clear h';go_wp2_with fail;refine (h.made HM c false 0 0 jh.plain).mono ?_;rintro e w1 ⟨r6,rfl,uU,h',ho⟩;replace iG:=iG.dG ho h'.hD;clear h hc ho;have h:=h';have hc:=h.cells;clear h';go_wp2_with fail;refine (h.a2 hK2 iG uU (fun a b ha hb=>TE.mul (.inr rfl) rfl hu ha hb)).mono ?_;rintro e w1 ⟨v,rfl,hf,h,_⟩;go_wp2;go_ret;exact hf
  ·have hCS:=fun X (h:MS w B D u A k l false m d X)=>h.cells
   go_upto_region 26 with fail
   refine dN (MS w B D u A k l false m d) 99 (h.below (ak _ _ 1)) (fun w1 _ h=>?_)
   iterate 3 refine aW ?_
   refine aG 4 ?_;refine aG 6 ?_;refine aG 7 ?_;refine aG 8 ?_;refine aG 9 ?_;refine aG 11 ?_;refine aG 12 ?_;refine aG 13 ?_;refine aG 14 ?_;refine cO 3 (Az _) ?_;rintro e w1 ⟨rfl,hb⟩;replace h:=h.below hb;refine⟨_,rfl,h,fun h=>?_⟩;refine cO 5 (h.made HM c true 0 0 jh.truth) ?_;rintro e w1 ⟨r5,rfl,iG,h,ho⟩;refine⟨_,rfl,h,fun h=>?_⟩;refine cO 10 (h.made HM c false m d ht) ?_;rintro e w1 ⟨r6,rfl,uU,h,ho⟩;replace iG:=iG.dG ho h.hD;refine⟨_,rfl,h,fun h=>?_⟩;refine cO 15 (h.made HM c false m d ht) ?_;rintro e w1 ⟨r7,rfl,qr7,h,ho⟩;replace iG:=iG.dG ho h.hD;replace uU:=uU.dG ho h.hD;refine⟨_,rfl,h,fun h=>?_⟩;refine iy 16 (fun _=>h.below (zB _ _)) (fun _=>?_);refine cO 17 (h.a3 hK2 iG uU qr7 (fun a b c' ha hb hc=>TE.cond ha hb hc)) ?_;rintro e w1 ⟨v,rfl,hf,h,_⟩;refine⟨_,rfl,h,fun h=>?_⟩;refine aG 18 ?_;refine dH ?_;go_wp2;go_ret;exact hf
  ·go_wp2_with fail;refine (h.next 3 (by omega) (by omega)).mono ?_;rintro e w1 ⟨r3,hr3,rfl,h',_⟩;clear h hc;have h:=h';have hc:=h.cells;clear h';have hw:IntKind.i64.wrap (21+(r3:Int))=21+(r3:Int):=IntWalk.i64_in _ (by omega);have hCS:=fun X (h:MS w B D u A k l false m d X)=>h.cells
   go_upto_region 29 with fail
   refine dN (MS w B D u A k l false m d) 99 (h.below (ak _ _ 1)) (fun w1 _ h=>?_)
   iterate 2 refine aW ?_
   refine aG 4 ?_;refine aG 5 ?_;refine aG 6 ?_;refine aG 7 ?_;refine cO 2 (Hf D u 1 _ h.ds (Nat.le_trans h.hu h.on.size) (.inr rfl)) ?_;rintro e w1 ⟨⟨qn,qu,qd⟩,rfl,hfit,hpos,hd1,ho1⟩;have HFP:=zH (And.intro hfit (hpos rfl));clear hfit hpos;replace h:=h.dG hd1 ho1;refine⟨.agg #[.bool qn,.string qu,.string qd],rfl,h,fun h=>?_⟩;refine aG 3 ?_;refine cO 8 (h.made HM c false m d ht) ?_;rintro e w1 ⟨r5,rfl,iG,h,ho⟩;refine⟨_,rfl,h,fun h=>?_⟩;refine iy 9 (fun _=>h.below (zB _ _)) (fun _=>?_);refine cO 10 (h.a1 hK2 iG (fun a ha=>TE.dJ (op:=21+(r3:Int)) (by omega) HFP.out.1 HFP.out.2 rfl ha)) ?_;rintro e w1 ⟨v,rfl,hf,h,_⟩;refine⟨_,rfl,h,fun h=>?_⟩;refine aG 11 ?_;refine dH ?_;go_wp2;go_ret;exact hf
  ·go_wp2_with fail;refine (U0 l A k c D u false m d _ h.s h.ds).mono ?_;rintro e w1 ⟨s,o,rfl,hrt,hd1,ho1⟩;have oD:=zH hrt;clear hrt;have h':=h.dG hd1 ho1;clear hd1 ho1;clear h hc;have h:=h';have hc:=h.cells;clear h';cases o
   ·go_wp2_with fail;refine (h.leaf c htK).mono ?_;rintro e w2 ⟨v,ns,rfl,hf⟩;go_wp2;go_ret;exact⟨v,ns,rfl,hf⟩
   ·replace oD:=zH (oD.out rfl);go_wp2_with fail;refine (h.made HM c false m d ht).mono ?_;rintro e w1 ⟨r5,rfl,iG,h',ho⟩;clear h hc ho;have h:=h';have hc:=h.cells;clear h';go_wp2_with fail;refine (h.a1 hK2 iG (fun a ha=>TE.rate oD.out.1 oD.out.2 ha)).mono ?_;rintro e w1 ⟨v,rfl,hf,h,_⟩;go_wp2;go_ret;exact hf
 ·obtain⟨rfl,rfl⟩:=ht.XP;go_wp2_with fail;refine (h.next 5 (by omega) (by omega)).mono ?_;rintro e w1 ⟨r2,hr2,rfl,h',_⟩;clear h hc;have h:=h';have hc:=h.cells;clear h';rcases (by omega:r2=0∨r2=1∨r2=2∨r2=3∨r2=4) with rfl|rfl|rfl|rfl|rfl
  iterate 2
   ·go_wp2_with fail;refine (h.next 3 (by omega) (by omega)).mono ?_;rintro e w1 ⟨r3,hr3,rfl,h',_⟩;clear h hc;have h:=h';have hc:=h.cells;clear h';have aiO:r3<3:=by omega
    go_wp2_with fail;refine (uT (r3:Int) (by omega) (by omega) _).mono ?_;rintro e w1 ⟨t2,m2,d2,rfl,hT2,hb⟩;obtain⟨rfl,hT2⟩:=hT2.lo aiO;have h':=h.below hb;clear hb;clear h hc;have h:=h';have hc:=h.cells;clear h'
    go_upto_region 9 with fail
    generalize hX:w1.alloc _=X;obtain⟨hk,hb⟩:=zA hX;have hN:=h.ds.lt;have h':=h.below hb;generalize w1.heap.size=N at hk hN⊢;clear hX hb;clear h hc;have h:=h';have hc:=h.cells;clear h';go_wp2_with fail;refine (h.next 2 (by omega) (by omega)).mono ?_;rintro e w2 ⟨r4,hr4,rfl,h',ho⟩;have hk:=ho.blk hk (by omega);clear ho;clear h hc;have h:=h';have hc:=h.cells;clear h';have hCS:=fun X (h:MS w B D u A k l true 0 0 X/\aj X N 34 [.bool false,.int .i64 m2,.int .i64 d2])=>And.intro (h.2.cells 0) (And.intro (h.2.cells 1) (h.2.cells 2))
    have hq:∃q,q=16+(r4:Int):=⟨_,rfl⟩
    go_upto_region 10 with fail
    refine dN (fun X=>MS w B D u A k l true 0 0 X/\aj X N 34 [.bool false,.int .i64 m2,.int .i64 d2]) 99 ⟨h.below (ak _ _ 1),hk.drew⟩ (fun w1 _ h=>?_)
    iterate 6 refine aW ?_
    refine aG 7 ?_;refine aG 8 ?_;refine aG 9 ?_;refine aG 10 ?_;refine cO 6 (h.1.made HM c false m2 d2 hT2) ?_;rintro e w1 ⟨r5,rfl,iG,h',ho⟩;refine⟨_,rfl,⟨h',ho.blk h.2 (by omega)⟩,fun h=>?_⟩;clear ho;refine cO 11 (h.1.made HM c false m2 d2 hT2) ?_;rintro e w1 ⟨r6,rfl,uU,h',ho⟩;replace iG:=iG.dG ho h'.hD;refine⟨_,rfl,⟨h',ho.blk h.2 (by omega)⟩,fun h=>?_⟩;clear ho;refine iy 12 (fun _=>⟨h.1.below (zB _ _),h.2.alloc _⟩) (fun _=>?_);refine cO 13 (h.1.a2 hK2 iG uU (fun a b ha hb=>TE.cmp (op:=16+(r4:Int)) (by omega) rfl ha hb)) ?_;rintro e w1 ⟨v,rfl,hf,h',hb⟩;refine⟨_,rfl,⟨h',h.2.below hb h.2.lt⟩,fun h=>?_⟩;refine aG 14 ?_;refine dH ?_;go_wp2;go_ret;exact hf
  ·go_wp2_with fail;refine (h.made HM c true 0 0 jh.truth).mono ?_;rintro e w1 ⟨r5,rfl,iG,h',ho⟩;clear h hc ho;have h:=h';have hc:=h.cells;clear h';go_wp2_with fail;refine (h.a1 hK2 iG (fun a ha=>TE.not ha)).mono ?_;rintro e w1 ⟨v,rfl,hf,h,_⟩;go_wp2;go_ret;exact hf
  ·have hCS:=fun X (h:MS w B D u A k l true 0 0 X)=>h.cells
   go_upto_region 14 with fail
   refine dN (MS w B D u A k l true 0 0) 99 (h.below (ak _ _ 1)) (fun w1 _ h=>?_)
   iterate 5 refine aW ?_
   refine aG 6 ?_;refine aG 7 ?_;refine aG 8 ?_;refine aG 9 ?_;refine aG 11 ?_;refine aG 12 ?_;refine aG 13 ?_;refine aG 14 ?_;refine cO 5 (h.made HM c true 0 0 jh.truth) ?_;rintro e w1 ⟨r5,rfl,iG,h,ho⟩;refine⟨_,rfl,h,fun h=>?_⟩;refine cO 10 (h.made HM c true 0 0 jh.truth) ?_;rintro e w1 ⟨r6,rfl,uU,h,ho⟩;replace iG:=iG.dG ho h.hD;refine⟨_,rfl,h,fun h=>?_⟩;refine cO 15 (h.made HM c true 0 0 jh.truth) ?_;rintro e w1 ⟨r7,rfl,qr7,h,ho⟩;replace iG:=iG.dG ho h.hD;replace uU:=uU.dG ho h.hD;refine⟨_,rfl,h,fun h=>?_⟩;refine iy 16 (fun _=>h.below (zB _ _)) (fun _=>?_);refine cO 17 (h.a3 hK2 iG uU qr7 (fun a b c' ha hb hc=>TE.cond ha hb hc)) ?_;rintro e w1 ⟨v,rfl,hf,h,_⟩;refine⟨_,rfl,h,fun h=>?_⟩;refine aG 18 ?_;refine dH ?_;go_wp2;go_ret;exact hf
  ·have hCS:=fun X (h:MS w B D u A k l true 0 0 X)=>h.cells
   go_upto_region 15 with fail
   refine dN (MS w B D u A k l true 0 0) 99 (h.below (ak _ _ 1)) (fun w1 _ h=>?_)
   iterate 1 refine aW ?_
   refine aG 4 ?_;refine aG 5 ?_;refine aG 6 ?_;refine aG 7 ?_;refine aG 9 ?_;refine aG 10 ?_;refine aG 11 ?_;refine aG 12 ?_;refine cO 1 (h.next 2 (by omega) (by omega)) ?_;rintro e w1 ⟨r3,hr3,rfl,h,_⟩;have hw:IntKind.i64.wrap (18+(r3:Int))=18+(r3:Int):=IntWalk.i64_in _ (by omega);refine⟨_,rfl,h,fun h=>?_⟩;refine aG 2 ?_;refine aG 3 ?_;refine cO 8 (h.made HM c true 0 0 jh.truth) ?_;rintro e w1 ⟨r5,rfl,iG,h,ho⟩;refine⟨_,rfl,h,fun h=>?_⟩;refine cO 13 (h.made HM c true 0 0 jh.truth) ?_;rintro e w1 ⟨r6,rfl,uU,h,ho⟩;replace iG:=iG.dG ho h.hD;refine⟨_,rfl,h,fun h=>?_⟩;refine iy 14 (fun _=>h.below (zB _ _)) (fun _=>?_);refine cO 15 (h.a2 hK2 iG uU (fun a b ha hb=>TE.and (op:=18+(r3:Int)) (by omega) ha hb)) ?_;rintro e w1 ⟨v,rfl,hf,h,_⟩;refine⟨_,rfl,h,fun h=>?_⟩;refine aG 16 ?_;refine dH ?_;go_wp2;go_ret;exact hf
theorem made2:KZ 13 2:=Ia 1 4 (by omega) (by omega) (by omega) (Ia 0 1 (by omega) (by omega) (by omega) (H6 0 (by omega) 1))
theorem U3 (l:List Sg) (A:Option Addr) (k c:Nat) (r:List Int × Hd) (t:Bool) (m d:Int) (w:World) (hk:k=l.length) (hm:k<=1000) (hr:Rd w A (jf l)) (hA:∀ad,A=some ad->ad.block<w.heap.size) (hi:IR w w.heap.size r) (hn:∀s∈l,dI s.name=true) (ht:jh 5 t m d):
  Calls Tryz.prog 56 #[.slice A k c,.agg #[.bool t,.int .i64 m,.int .i64 d],.slice r.2.a r.2.n r.2.c] w (abU (TK l t m d 13) w):=by
 go_enter Tryz.func56,Tryz.ntmps56
 go_upto_region 1 with fail
 generalize hW:w.alloc _=W;obtain⟨hb,hg⟩:=zA hW;have Hg:w.heap.size<W.heap.size:=hb.lt;clear hW;generalize hB:w.heap.size=B at hb Hg⊢
 go_upto_region 2 with fail
 generalize hW:W.alloc _=W2;obtain⟨hd0,hg2⟩:=zA hW;have hb:=hb.below hg2 hb.lt;have hg3:=ah hg hg2;have hs:Hz W2 W.heap.size A k l:=⟨hk,hm,hr.below hg3,fun ad e=>by have:=hA ad e;have:=hg.size;omega,hn⟩
 have hds:DS W2 W.heap.size (W.heap.size+1):=⟨_,_,_,_,0,⟨hd0,hi.len,Nat.le_trans hi.cap hi.max,hi.rd.below hg3,hi.rng,fun hn ad e=>by have:=hi.lt hn ad e;have:=hg.size;omega,Nat.zero_le _⟩,Nat.lt_succ_self _,fun hn ad e=>by have:=hi.lt hn ad e;have:=hg.size;omega⟩
 have hu:W.heap.size+1<=W2.heap.size:=hd0.lt;have hwD:=hg.size;clear hW hk hm hr hA hi hn hd0 hg hg2;generalize W.heap.size=D at hs hds hu Hg hwD⊢;have hc:=fun X (h:Below W2.heap.size W2 X)=>And.intro ((hb.below h hb.lt).cells 0) (And.intro ((hb.below h hb.lt).cells 1) ((hb.below h hb.lt).cells 2))
 have hb2:=Below.refl W2.heap.size W2
 go_upto_region 3 with fail
 go_cut [29] from 12 to 28 (fun lv X=>(∃q:Bool,lv=.bool q/\Hid (q=false->jh 1 t m d))/\Below W2.heap.size W2 X)
 case first=>
  refine dN (Below W2.heap.size W2) 99 hb2.drew (fun w1 _ hS=>?_);cases t
  ·refine aG 0 ?_;refine aG 1 ?_;refine aG 2 ?_;refine aG 3 ?_;refine aG 4 ?_;refine cO 5 (uT 0 (by omega) (by omega) _) ?_;rintro e w1 ⟨t1,m1,d1,rfl,hT,hb⟩;obtain⟨rfl,hT⟩:=K5.lo (r:=0) hT (by omega);refine⟨_,rfl,ah hS hb,fun hS=>?_⟩;clear hb;obtain⟨q1,hq1⟩:=zF (!decide ((⟨false,m,d⟩:Ty)=⟨false,m1,d1⟩));have HE:=fun W=>yU ⟨false,m,d⟩ ⟨false,m1,d1⟩ W
   simp only[hq1,Ty.v] at HE
   have rU:Hid (q1=false->jh 1 false m d):=fun h=>by
    obtain⟨rfl,rfl⟩:m=m1/\d=d1:=by simpa using hq1.trans h
    exact hT
   clear hq1 hT;refine aG 6 ?_;clear HE;cases q1
   ·refine aG 7 ?_;refine aG 8 ?_;refine oh 9 ?_;refine oh 10 ?_;refine oh 11 ?_;refine aG 12 ?_;refine aG 13 ?_;refine oh 14 ?_;refine oh 15 ?_;refine oh 16 ?_;refine aG 17 ?_;refine dH ?_;go_wp2
    go_meet
    case rel=>exact⟨⟨_,rfl,fun _=>rU.out trivial⟩,hS⟩
   ·refine aG 7 ?_;refine aG 8 ?_;refine aG 9 ?_;refine cO 10 (uT 1 (by omega) (by omega) _) ?_;rintro e w1 ⟨t2,m2,d2,rfl,hT,hb⟩;obtain⟨rfl,hT⟩:=K5.lo (r:=1) hT (by omega);refine⟨_,rfl,ah hS hb,fun hS=>?_⟩;clear hb;obtain⟨q2,hq2⟩:=zF (!decide ((⟨false,m,d⟩:Ty)=⟨false,m2,d2⟩));have HE:=fun W=>yU ⟨false,m,d⟩ ⟨false,m2,d2⟩ W
    simp only[hq2,Ty.v] at HE
    have xK:Hid (q2=false->jh 1 false m d):=fun h=>by
     obtain⟨rfl,rfl⟩:m=m2/\d=d2:=by simpa using hq2.trans h
     exact hT
    clear hq2 hT;refine aG 11 ?_;clear HE;cases q2
    ·refine aG 12 ?_;refine aG 13 ?_;refine oh 14 ?_;refine oh 15 ?_;refine oh 16 ?_;refine aG 17 ?_;refine dH ?_;go_wp2
     go_meet
     case rel=>exact⟨⟨_,rfl,fun _=>xK.out trivial⟩,hS⟩
    ·refine aG 12 ?_;refine aG 13 ?_;refine aG 14 ?_;refine cO 15 (uT 2 (by omega) (by omega) _) ?_;rintro e w1 ⟨t3,m3,d3,rfl,hT,hb⟩;obtain⟨rfl,hT⟩:=K5.lo (r:=2) hT (by omega);refine⟨_,rfl,ah hS hb,fun hS=>?_⟩;clear hb;obtain⟨q3,hq3⟩:=zF (!decide ((⟨false,m,d⟩:Ty)=⟨false,m3,d3⟩));have HE:=fun W=>yU ⟨false,m,d⟩ ⟨false,m3,d3⟩ W
     simp only[hq3,Ty.v] at HE
     have HQ3:Hid (q3=false->jh 1 false m d):=fun h=>by
      obtain⟨rfl,rfl⟩:m=m3/\d=d3:=by simpa using hq3.trans h
      exact hT
     clear hq3 hT;refine aG 16 ?_;clear HE;cases q3
     ·refine aG 17 ?_;refine dH ?_;go_wp2
      go_meet
      case rel=>exact⟨⟨_,rfl,fun _=>HQ3.out trivial⟩,hS⟩
     ·refine aG 17 ?_;refine dH ?_;go_wp2
      go_meet
      case rel=>exact⟨⟨_,rfl,fun h=>by cases h⟩,hS⟩
  ·refine aG 0 ?_;refine aG 1 ?_;refine aG 2 ?_;refine aG 3 ?_;refine oh 4 ?_;refine oh 5 ?_;refine oh 6 ?_;refine aG 7 ?_;refine aG 8 ?_;refine oh 9 ?_;refine oh 10 ?_;refine oh 11 ?_;refine aG 12 ?_;refine aG 13 ?_;refine oh 14 ?_;refine oh 15 ?_;refine oh 16 ?_;refine aG 17 ?_;refine dH ?_;go_wp2
   go_meet
   case rel=>exact⟨⟨_,rfl,fun _=>.inl ⟨Nat.le_refl _,rfl,ht.XP⟩⟩,hS⟩
 case rest=>
  obtain⟨⟨q,rfl,HQ⟩,hX⟩:=hcut;obtain⟨c0,c1,c2⟩:=hc _ hX;clear hc;cases q
  ·go_wp2_with fail;refine (made2 l A k c D (D+1) t m d wc (hs.dG (aF.of_below hX)) (hds.below hX) (Nat.le_trans hu hX.size) (HQ.out trivial)).mono ?_;rintro e w1 ⟨v,ns,rfl,h1,h2,h3,h4⟩;go_wp2;go_ret;exact⟨v,ns,rfl,h1,bW h2 (Nat.le_trans hg3.size hX.size),(ah hg3 hX).trans (h4.below hwD (Nat.le_trans hg3.size hX.size))⟩
  ·go_wp2_with fail;refine (H6 0 (by omega) 13 l A k c D (D+1) t m d wc (hs.dG (aF.of_below hX)) (hds.below hX) (Nat.le_trans hu hX.size) (ht.mono (by omega))).mono ?_;rintro e w1 ⟨v,ns,rfl,h1,h2,h3,h4⟩;go_wp2;go_ret;exact⟨v,ns,rfl,h1,bW h2 (Nat.le_trans hg3.size hX.size),(ah hg3 hX).trans (h4.below hwD (Nat.le_trans hg3.size hX.size))⟩
def nF:List ByteArray:=[⟨#[97,103,101]⟩,⟨#[114,101,110,116]⟩,⟨#[119,97,103,101]⟩]
def nS:List ByteArray:=[⟨#[98,97,115,105,99]⟩,⟨#[101,120,116,114,97]⟩]
def six:List ByteArray:=[⟨#[98,97,115,101]⟩,⟨#[99,114,101,100,105,116]⟩,⟨#[114,101,108,105,101,102]⟩,⟨#[116,97,120]⟩,⟨#[116,104,114,101,115,104,111,108,100]⟩,⟨#[116,111,116,97,108]⟩]
theorem X9:six.Nodup:=by decide
theorem Dj:(nF++(nS++six)).Nodup:=by decide
theorem Ya:∀s∈nF++(nS++six),dI s=true:=by decide
theorem FD:nF.Pairwise (fun a b=>Op.bytesLess a.toList b.toList=true)/\nS.Pairwise (fun a b=>Op.bytesLess a.toList b.toList=true)/\six.Pairwise (fun a b=>Op.bytesLess a.toList b.toList=true):=by decide+kernel
theorem Dk {l:List ByteArray} (h:l.Pairwise (fun a b=>Op.bytesLess a.toList b.toList=true)):sortedB l=true:=
 (EK l).2 fun k hk=>List.pairwise_iff_getElem.1 h k (k+1) (by omega) hk (by omega)
theorem Yb {l:List ByteArray} (h:l.Nodup) (s:ByteArray):jD s l<=1:=by
 induction l with
 |nil=>exact Nat.zero_le _
 |cons a l ih=>
  obtain⟨h1,h2⟩:=List.nodup_cons.1 h;show jD s ([a]++l)<=1;rw[EL,N8];by_cases e:a=s
  ·have h0:jD s l=0:=by
    rcases Nat.eq_zero_or_pos (jD s l) with h0|h0
    ·exact h0
    ·exact absurd (e ▸ N9 h0) h1
   rw[if_pos e,h0];decide
  ·rw[if_neg e];have:=ih h2;omega
structure pV (l:Lw):Prop where
 f:(l.facts.map Dc.name).Sublist nF
 s:(l.aU.map Sc.name).Sublist nS
 p:(l.aH.map Pv.name).Sublist six
 tf:∀d∈l.facts,bH d.ty=true
 ts:∀s∈l.aU,s.aN=1/\s.days=0
 tp:∀p∈l.aH,p.ty=bT∨p.ty=bG
 b:∀s∈l.aU,iH s.bI=0
section
variable {l:Lw}
theorem pV.all (h:pV l):((Aq l).flatten).Sublist (nF++(nS++six)):=by
 unfold Aq;simp only[List.flatten_cons,List.flatten_nil,List.append_nil]
 exact h.f.append (h.s.append h.p)
theorem pV.named (h:pV l):mg l=0:=by
 unfold mg CY;have hn:=Dj.sublist h.all;rw[if_pos (List.all_eq_true.2 fun s hs=>Ya s (h.all.mem hs)),if_pos,if_neg]
 ·unfold aat;simp only[List.any_eq_true,decide_eq_true_eq,not_exists,not_and]
  intro s _;have:=Yb hn s;omega
 ·unfold Aq;simp only[List.all_cons,List.all_nil,Bool.and_true,Bool.and_eq_true]
  exact⟨Dk (FD.1.sublist h.f),Dk (FD.2.1.sublist h.s),Dk (FD.2.2.sublist h.p)⟩
theorem pV.typed (h:pV l):pG l=true:=by
 unfold pG;simp only[Bool.and_eq_true,List.all_eq_true]
 refine⟨h.tf,fun p hp=>?_,fun s hs=>?_⟩
 ·rcases h.tp p hp with e|e<;>rw[e]<;>decide
 ·rw[(h.ts s hs).1,(h.ts s hs).2];decide
theorem pV.len (h:pV l):l.facts.length<=3/\l.aU.length<=2/\l.aH.length<=6:=by
 have a:=h.f.length_le;have b:=h.s.length_le;have c:=h.p.length_le;simp only[List.length_map] at a b c;exact⟨a,b,c⟩
theorem AA:∀{l:List Int},(∀x∈l,x=0)->gK l=0
 |[],_=>rfl
 |z::r,h=>by rw[um,if_pos (h z (by simp))];exact AA fun x hx=>h x (by simp[hx])
theorem pV.chk (h:pV l):bg l=gK (l.aH.map (jm (dW l))):=by
 have hl:=h.len;unfold bg;rw[if_neg (by omega),if_neg (by rw[h.named];simp),if_neg (by rw[h.typed];decide),if_neg];rw[AA]
 ·simp
 ·intro x hx;obtain⟨s,hs,rfl⟩:=List.mem_map.1 hx;exact h.b s hs
end
structure ER (sg:List Sg) (p:Pv):Prop where
 b:TE sg p.ty p.body
 n:p.body.length<=60
 c:p.dS=true->p.ty=bT
 s:(dZ p||kZ p)=true
theorem ER.zero {sg:List Sg} {p:Pv} (h:ER sg p):jm sg p=0:=by
 have k:=h.b.type h.n;unfold jm;rw[k];simp only[ne_eq,not_true_eq_false,if_false]
 rw[if_neg];have hs:=h.s;intro hc;rcases Bool.or_eq_true _ _ ▸ hc with hc|hc
 ·rw[Bool.and_eq_true,decide_eq_true_eq] at hc;exact hc.2 (h.c hc.1)
 ·rw[Bool.and_eq_true,Bool.not_eq_true',Bool.not_eq_true'] at hc;rw[hc.1,hc.2] at hs;cases hs
theorem ac7 {l:Lw} (h:pV l) (hp:∀p∈l.aH,ER (dW l) p):bg l=0:=by
 rw[h.chk];refine AA fun x hx=>?_
 obtain⟨p,hp',rfl⟩:=List.mem_map.1 hx;exact (hp p hp').zero
theorem aaz {sg zq:List Sg} (h:∀n t,dP zq n=some t->dP sg n=some t) {n:Nd} {l:List Ty} {t:Ty} (hn:pU zq n l=(t,0)):pU sg n l=(t,0):=by
 unfold pU o8 at hn⊢;by_cases hb:jL n.op=true
 ·rw[if_pos hb] at hn⊢;cases hs:dP zq n with
  |none=>rw[hs] at hn;simp at hn
  |some u=>rw[hs] at hn;rw[h n u hs];exact hn
 ·rw[if_neg hb] at hn⊢;exact hn
theorem Oi {sg zq:List Sg} (h:∀n t,dP zq n=some t->dP sg n=some t):∀(e:List Nd) (st st':List Ty),xq zq e st=some st'->xq sg e st=some st'
 |[],st,st',hs=>hs
 |n::r,st,st',hs=>by
  rw[xq] at hs⊢;split at hs
  ·next h0=>
   have k:=aaz h (n:=n) (l:=(st.take (aB n.op).ops).reverse) (t:=(pU zq n (st.take (aB n.op).ops).reverse).1) (Prod.ext rfl h0);rw[k];exact Oi h r _ _ hs
  ·cases hs
theorem TE.mono {sg zq:List Sg} (h:∀n t,dP zq n=some t->dP sg n=some t) {t:Ty} {e:List Nd} (he:TE zq t e):TE sg t e:=⟨he.c,fun st=>Oi h e st _ (he.s st)⟩
def AB (sg:List Sg):Prop:=sg.Pairwise fun a b=>¬(a.op=b.op/\a.name=b.name)
theorem key_eq:∀{sg:List Sg},AB sg->∀{a b:Sg},a∈sg->b∈sg->a.op=b.op->a.name=b.name->a=b
 |[],_,a,_,h,_,_,_=>by cases h
 |x::r,hk,a,b,ha,hb,h1,h2=>by
  obtain⟨k1,k2⟩:=List.pairwise_cons.1 hk;rcases List.mem_cons.1 ha with ea|ha'
  ·rcases List.mem_cons.1 hb with eb|hb'
   ·rw[ea,eb]
   ·rw[ea] at h1 h2;exact absurd ⟨h1,h2⟩ (k1 b hb')
  ·rcases List.mem_cons.1 hb with eb|hb'
   ·rw[eb] at h1 h2;exact absurd ⟨h1.symm,h2.symm⟩ (k1 a ha')
   ·exact key_eq k2 ha' hb' h1 h2
theorem Rk {n:Nd} {s:Sg} (h:jB n s=true):s.op=n.op/\s.name=n.name:=by
 unfold jB at h;simp only[Bool.and_eq_true,decide_eq_true_eq] at h;exact⟨h.1,h.2.1⟩
theorem I7 {sg:List Sg} (hk:AB sg) {n:Nd} {s:Sg} (hs:s∈sg) (hf:jB n s=true):dP sg n=some s.ty:=by
 unfold dP;cases hq:sg.find? (jB n) with
 |none=>exact absurd hf (by simpa using List.find?_eq_none.1 hq s hs)
 |some x=>
  have k1:=Rk (List.find?_some hq);have k2:=Rk hf;rw[key_eq hk (List.mem_of_find?_eq_some hq) hs (k1.1.trans k2.1.symm) (k1.2.trans k2.2.symm)];rfl
theorem aaA {sg:List Sg} {n:Nd} {t:Ty} (h:dP sg n=some t):∃s∈sg,jB n s=true/\s.ty=t:=by
 unfold dP at h;cases hq:sg.find? (jB n) with
 |none=>rw[hq] at h;cases h
 |some x=>rw[hq] at h;exact⟨x,List.mem_of_find?_eq_some hq,List.find?_some hq,Option.some.inj h⟩
theorem ac8 {sg zq:List Sg} (hk:AB sg) (hs:zq.Sublist sg) (n:Nd) (t:Ty) (h:dP zq n=some t):dP sg n=some t:=by
 obtain⟨s,h1,h2,rfl⟩:=aaA h;exact I7 hk (hs.mem h1) h2
end Go.Proofs.YtimokmplkpbmdaaGreatDoor
