/- A part of the proof: W7 W8 Wd W9 Wa Wb Wg Th Uf. -/
import Derived.Test.YtimokmplkpbmdaaGreatDoorB32
import Derived.Test.YtimokmplkpbmdaaGreatDoorB33
set_option linter.all false
set_option maxRecDepth 100000
set_option maxHeartbeats 0
namespace Go.Proofs.YtimokmplkpbmdaaGreatDoor
open Go.RowKit
def NsRet (P:List Nd->Prop) (w:World) (e:Ending) (w':World):Prop:=∃v ns,e=.returned v/\P ns/\w'.ownsRow w.heap.size 49 5 v ns.length (nds ns)/\Below w.heap.size w w'
theorem wafter_any (nod:Nd) (m b k:Nat) (t:TypeId) (rs:List (List Nd × Hd)) (w:World) (hk:k=rs.length) (h3:k<=3) (hm:m<=1000)
  (hb:Blk w b t (rs.map fun r=>.slice r.2.a r.2.n r.2.c)) (hr:∀r∈rs,RowAt w Nd.cells r.1 r.2/\r.1.length<=m):
  Calls Tryz.prog 145 #[.agg nod.cells.toArray,.slice (some ⟨b,0,none⟩) k k] w (NsRet (fun ns=>ns=(rs.map Prod.fst).flatten++[nod]) w):=by
 obtain⟨op,⟨neg,num,den⟩,nm⟩:=nod;show Calls _ _ #[.agg #[.int .i64 op,.bool neg,.string num,.string den,.string nm],.slice (some ⟨b,0,none⟩) k k] w _
 have HTK:Hid (∀j,∀h:j<rs.length,((rs.take (j+1)).map Prod.fst).flatten=((rs.take j).map Prod.fst).flatten++rs[j].1):=fun j h=>by
  rw[List.take_succ_eq_append_getElem h,List.map_append,List.flatten_append];simp
 obtain⟨W,hW⟩:=zE (w.alloc (.cells #[.int .i64 op,.bool neg,.string num,.string den,.string nm] 49));obtain⟨B,hB⟩:=zE w.heap.size;have HK:Hid (Blk W B 49 [.int .i64 op,.bool neg,.string num,.string den,.string nm]):=by show Blk _ _ _ _;rw[hW,hB];exact Blk.new w _ _
 have HBW:Hid (Below w.heap.size w W):=by show Below _ _ _;rw[hW];exact zB _ _
 have HB:=zH hb;have HR:=zH hr;have HM:=zH hm;have HKR0:=zH hk;clear hb hr hm hk;go_enter Tryz.func145,Tryz.ntmps145
 go_upto_region 1 with fail
 simp only[<-hW,<-hB]
 clear hW hB;go_wp2
 go_loopg [5,6] k (fun g ov iv wr=>∃(j:Nat) (os:List Nd),j+g=k/\iv=.int .i64 j/\Hid (wr.ownsRow W.heap.size 49 5 ov os.length (nds os))/\Hid (os.length<=m*j)/\Hid (os=((rs.take j).map Prod.fst).flatten)/\Hid (Below W.heap.size W wr))
 case atStart=>exact⟨0,[],by omega,rfl,World.ownsRow_nil _ _ _ _,Nat.le_refl _,rfl,Below.refl _ _⟩
 case round=>
  obtain⟨j,os,hj,rfl,hown,hol,hoe,hbW⟩:=hrel;have hbr:=zH (bstep HBW.out hbW.out)
  have hl0:os.length<=3000:=by
   have h1:=hol.out;have h2:m*j<=1000*3:=Nat.mul_le_mul HM.out (by omega);omega
  by_cases hlt:j<k
  ·have hjl:j<rs.length:=by rw[<-HKR0.out];exact hlt
   have HRJ:=HR.out _ (List.getElem_mem hjl)
   have hcell:wr.cell? ⟨b,j,none⟩=some (.slice rs[j].2.a rs[j].2.n rs[j].2.c):=by
    have h:=(HB.out.below hbr.out HB.out.lt).cells j;rw[h,List.getElem?_map,List.getElem?_eq_getElem hjl];rfl
   have HTJ:=zH (HTK.out j hjl);clear HTK;generalize rs[j]=r at*;replace HRJ:=zH HRJ;clear hjl;obtain⟨bs,⟨A2,l2,c2⟩⟩:=r;simp only at hcell;have hl2:=HRJ.out.1.len;have hl3:=HRJ.out.2;simp only at hl2 hl3;have hm:=HM.out;have hj0:(0:Int)<=(j:Int):=by omega
   have hj1:(j:Int)<(k:Int):=by omega
   have HL:=zH hl2;have h1000:l2<=1000:=by omega
   have HL3:Hid (l2<=m):=by show _<=_;omega
   clear hl2 hl3 hm;go_wp2_with (at_builtin;go_must (refine wpList_append_rd wr rfl _ _ 40 rfl W.heap.size 49 _ 5 64 Tryz.underlying40 info_node rfl (by decide) u5 os.length (nds os) rfl hown.out A2 l2 c2 (nds bs) rfl (HRJ.out.1.rd.below hbr.out) (by rw[nds_length,HL.out]) (nds_one _) ?_ ?_ ?_ ?_))
   any_goals first|(unfold maxLen;omega)|omega
   ·exact hbW.out.size
   intro v' w' hown' hb'
   have HOWN:Hid (w'.ownsRow W.heap.size 49 5 v' (os++bs).length (nds (os++bs))):=by
    rw[nds_append,List.length_append,<-HL.out];exact hown'
   have HBN:=zH hb';clear hown' hb' hcell;go_wp2
   go_roundg (k-(j+1))
   case measure=>omega
   case rel=>
    refine⟨j+1,os++bs,by omega,by go_num,HOWN,?_,?_,hbW.out.trans HBN.out⟩
    ·show _<=_;rw[List.length_append,<-HL.out,Nat.mul_succ];exact Nat.add_le_add hol.out HL3.out
    ·show _=_;rw[HTJ.out,hoe.out]
  ·obtain rfl:j=k:=by omega
   have HKR:=zH (HK.out.below hbW.out HK.out.lt);have hkc:=HKR.out.cells;have hbz:=hbW.out.size;clear hbr;go_wp2_with (at_builtin;go_must (refine wpList_push wr #[.int .i64 op,.bool neg,.string num,.string den,.string nm] rfl _ _ 40 rfl W.heap.size 49 _ 5 64 1 Tryz.underlying40 info_node rfl (by decide) u5 os.length (nds os) rfl hown.out (by rfl) rfl ?_ ?_ ?_ ?_ ?_))
   any_goals first|(unfold maxLen;omega)|omega
   ·exact⟨rfl,rfl,rfl,rfl,rfl⟩
   intro v' w' hown' hb'
   have HOWN:Hid (w'.ownsRow w.heap.size 49 5 v' (os++[(⟨op,⟨neg,num,den⟩,nm⟩:Nd)]).length (nds (os++[(⟨op,⟨neg,num,den⟩,nm⟩:Nd)]))):=by
    rw[nds_append,List.length_append];exact own_lower hown' HBW.out.size
   have HBN:=zH (bstep HBW.out (hbW.out.trans hb'));clear hown' hb';go_wp2;go_ret;exact⟨v',_,rfl,by show _=_;rw[hoe.out,HKR0.out,List.take_length],HOWN.out,HBN.out⟩
structure SgR (w:World) (D:Nat) (A:Option Addr) (k:Nat) (l:List Sg):Prop where
 len:k=l.length
 max:k<=1000
 rd:Rd w A (sgs l)
 ne:∀ad,A=some ad->ad.block≠D
 nm:∀s∈l,nameOk s.name=true
theorem SgR.onl {w w':World} {D k:Nat} {A:Option Addr} {l:List Sg} (h:SgR w D A k l) (ho:Onl D w w'):SgR w' D A k l:=by
 refine⟨h.len,h.max,?_,h.ne,h.nm⟩;rcases h.rd with h0|⟨b,off,e,hb,hc⟩
 ·exact .inl h0
 ·subst e;exact ho.rd (.inr ⟨b,off,rfl,hb,hc⟩) (h.ne _ rfl)
def FindQ (q:Option Ty) (w:World) (e:Ending) (w':World):Prop:=∃t m d o,e=.returned (.tuple #[.agg #[.bool t,.int .i64 m,.int .i64 d],.bool o])/\(o=true->q=some ⟨t,m,d⟩)/\Below w.heap.size w w'
theorem findQ (l:List Sg) (A:Option Addr) (k c:Nat) (nop:Int) (nnm:ByteArray) (w:World) (hk:k=l.length) (hm:k<=maxLen) (hr:Rd w A (sgs l)):
  Calls Tryz.prog 180 #[.slice A k c,.int .i64 nop,.string nnm] w (FindQ (refF l nop nnm) w):=
 (xFind_any l A k c nop nnm w hk hm hr).mono fun e w' ⟨h1,h2⟩=>⟨_,_,_,_,h1,fun h=>by
   cases hq:refF l nop nnm with
   |none=>rw[hq] at h;cases h
   |some x=>rfl,h2⟩
theorem ref_sig {l:List Sg} {op:Int} {nm:ByteArray} {t:Ty} (h:refF l op nm=some t):sigB op=true/\sigOf l ⟨op,zR,nm⟩=some t:=by
 have h1:=refF_eq l ⟨op,zR,nm⟩;simp only at h1;rw[h] at h1;by_cases hb:sigB op=true
 ·rw[if_pos hb] at h1;exact⟨hb,h1.symm⟩
 ·rw[if_neg hb] at h1;cases h1
theorem nam_te {l:List Sg} {op:Int} {nm:ByteArray} {t:Ty} (hn:nameOk nm=true) (h24:¬op=24) (h:refF l op nm=some t):TE l t [⟨op,zR,nm⟩]:=by
 obtain⟨h1,h2⟩:=ref_sig h;refine TE.nam ?_ hn h2;unfold sigB at h1;rw[Bool.or_eq_true,decide_eq_true_eq,decide_eq_true_eq] at h1;exact h1.resolve_right h24
theorem zD (w:World) (o:Obj):Below w.heap.size w (w.alloc o).drew:=have h:=zB w o;⟨h.os,h.tape,h.output,h.size,h.block⟩
theorem wleaf_any (l:List Sg) (A:Option Addr) (k c D u K:Nat) (t:Bool) (m d:Int) (w:World) (hs:SgR w D A k l) (hd:DS w D u) (hu:u<=w.heap.size) (ht:TyK K t m d):
  Calls Tryz.prog 144 #[.slice A k c,.pointer (some ⟨D,0,none⟩),.agg #[.bool t,.int .i64 m,.int .i64 d]] w (NdRet (TK l t m d K) D u w):=by
 obtain⟨W,hW⟩:=zE (w.alloc (.cells #[.bool t,.int .i64 m,.int .i64 d] 34));obtain⟨B,hB⟩:=zE w.heap.size;have HK:Hid (Blk W B 34 [.bool t,.int .i64 m,.int .i64 d]):=by show Blk _ _ _ _;rw[hW,hB];exact Blk.new w _ _
 have HBW:Hid (Below w.heap.size w W):=by show Below _ _ _;rw[hW];exact zB _ _
 have HBB:=zH hB;have HSG:=zH (hs.onl (Onl.of_below HBW.out));have HD:=zH (hd.below HBW.out);have HDB:=zH hd.lt;have HU:=zH hu;have HT:=zH ht;have hk100:=hs.max;clear hs hd hu ht;go_enter Tryz.func144,Tryz.ntmps144
 go_upto_region 1 with fail
 simp only[<-hW,<-hB]
 clear hW hB;go_wp2
 go_loopg [7,8] k (fun g ov iv wr=>∃(j:Nat) (ns:List Nd),j+g=k/\iv=.int .i64 j/\Hid (wr.ownsRow W.heap.size 49 5 ov ns.length (nds ns))/\ns.length<=j/\Hid (∀n∈ns,TE l ⟨t,m,d⟩ [n])/\Hid (Below W.heap.size W wr))
 case atStart=>exact⟨0,[],by omega,rfl,World.ownsRow_nil _ _ _ _,Nat.le_refl _,fun _ h=>(by cases h),Below.refl _ _⟩
 case round=>
  obtain⟨j,ns,hj,rfl,hown,hol,hte,hbr⟩:=hrel;by_cases hlt:j<k
  ·have hjl:j<l.length:=by rw[<-HSG.out.len];exact hlt
   obtain⟨b,off,hA,hb,hc⟩:=Rd.row Sg.cells 5 (fun _=>rfl) (by omega) HSG.out.rd hjl;subst hA;have HNM:=zH (HSG.out.nm _ (List.getElem_mem hjl));generalize l[j]=s at*;obtain⟨sop,snm,⟨st,sm,sd⟩⟩:=s;have HC:Hid (∀X,Below W.heap.size W X->X.cell? ⟨b,off+j*5,none⟩=some (.int .i64 sop)/\X.cell? ⟨b,off+j*5+1,none⟩=some (.string snm)):=fun X hX=>⟨(hX.cell (p:=⟨b,off+j*5,none⟩) hb).trans (hc 0 _ rfl),(hX.cell (p:=⟨b,off+j*5+1,none⟩) hb).trans (hc 1 _ rfl)⟩
   have HF:Hid (∀X,Below W.heap.size W X->Calls Tryz.prog 180 #[.slice (some ⟨b,off,none⟩) k c,.int .i64 sop,.string snm] X (FindQ (refF l sop snm) X)):=fun X hX=>findQ l _ k c sop snm X HSG.out.len (by have:=HSG.out.max;unfold maxLen;omega) (HSG.out.rd.below hX)
   have hj0:(0:Int)<=(j:Int):=by omega
   have hj1:(j:Int)<(k:Int):=by omega
   clear hb hc hjl
   go_upto_region 5 with fail
   go_cut [9,10] from 18 to 33 (fun av ov wc=>∃X t2 m2 d2 o2,av=.pointer (some ⟨X,0,none⟩)/\ov=.bool o2/\Hid (o2=true->refF l sop snm=some ⟨t2,m2,d2⟩)/\Hid (Blk wc X 34 [.bool t2,.int .i64 m2,.int .i64 d2])/\Hid (Below wr.heap.size wr wc))
   case first=>
    refine wp_region_noPanic ?_;refine wp_region_held_drew (S:=fun w'=>w'.cell? ⟨b,off+j*5,none⟩=some (.int .i64 sop)/\w'.cell? ⟨b,off+j*5+1,none⟩=some (.string snm)) (by kernel_rfl) (HC.out _ (bstep hbr.out (drewN_below _ _ 1))) (fun hHeld=>?_);refine tkZ 0 ?_;refine tkZ 1 ?_;refine tkZ 2 ?_;refine tkZ 3 ?_;refine tkZ 4 ?_;refine tkZ 5 ?_;refine tkZ 6 ?_;refine tkZ 7 ?_;refine tkZ 8 ?_;refine tkZ 9 ?_;refine tkZ 10 ?_;refine tkR2 11 15 (fun K hK=>?_) (fun K hK=>?_)
    ·go_simp;refine (HF.out _ (bstep hbr.out (drewN_below _ _ 1))).mono ?_;rintro e w6 ⟨t2,m2,d2,o2,rfl,hq6,hb6⟩;have HQ6:=zH hq6;clear hq6;have HB6:=zH (bstep (drewN_below _ _ 1) hb6);have hb7:=hb6;clear hb6;go_wp2_with fail;refine tkK hK (HC.out _ (bstep hbr.out HB6.out)) (fun hHeld=>?_);clear hK K;refine tkZ 12 ?_;refine tkZ 13 ?_;refine tkZ 14 ?_;refine tkR 15 (fun K hK=>?_);go_simp;go_wp2_with fail;refine tkK hK (HC.out _ (bstep hbr.out (bstep HB6.out (zB _ _)))) (fun hHeld=>?_);clear hK K;have HKX:=zH (Blk.new w6 34 #[.bool false,.int .i64 0,.int .i64 0]);have HB7:=zH (bstep HB6.out (zB w6 (.cells #[.bool false,.int .i64 0,.int .i64 0] 34)));have hX:=HB6.out.size;generalize w6.alloc (.cells #[.bool false,.int .i64 0,.int .i64 0] 34)=w7 at*;generalize w6.heap.size=X at*;have hkc:=HKX.out.cells;have hkf:=HKX.out.froz;have HBZ:=zH (((HB7.out.setCell (p:=⟨X,0,none⟩) hX (.bool t2)).setCell (p:=⟨X,1,none⟩) hX (.int .i64 m2)).setCell (p:=⟨X,2,none⟩) hX (.int .i64 d2));have HKZ:=zH (((HKX.out.set 0 (.bool t2)).set 1 (.int .i64 m2)).set 2 (.int .i64 d2));refine tkR 16 (fun K hK=>?_);go_simp;go_wp2_with fail;refine tkK hK (HC.out _ (bstep hbr.out HBZ.out)) (fun hHeld=>?_);clear hK K;refine tkZ 17 ?_;refine wpAnyH_done (by kernel_rfl) ?_ _;refine NoPanic.normal ?_;go_wp2
     go_meet
     case rel=>exact⟨X,t2,m2,d2,o2,rfl,rfl,HQ6,HKZ,HBZ⟩
    ·go_simp;go_wp2_with fail;refine tkK hK (HC.out _ (bstep hbr.out (bstep (drewN_below _ _ 1) (zB _ _)))) (fun hHeld=>?_);clear hK K;have HKX:=zH (Blk.new wr 34 #[.bool false,.int .i64 0,.int .i64 0]).drew;have HB5:=zH (zD wr (.cells #[.bool false,.int .i64 0,.int .i64 0] 34));obtain⟨X,hXe⟩:=zE wr.heap.size;have hX:=Nat.le_of_eq hXe.symm;generalize (wr.alloc (.cells #[.bool false,.int .i64 0,.int .i64 0] 34)).drew=w5 at*;rw[<-hXe] at HKX⊢;clear hXe;refine tkR 11 (fun K hK=>?_);go_simp;refine (HF.out _ (bstep hbr.out (HB5.out))).mono ?_;rintro e w6 ⟨t2,m2,d2,o2,rfl,hq6,hb6⟩;have HQ6:=zH hq6;clear hq6;have HB6:=zH (bstep (HB5.out) hb6);have hb7:=hb6;clear hb6;go_wp2_with fail;refine tkK hK (HC.out _ (bstep hbr.out HB6.out)) (fun hHeld=>?_);clear hK K;refine tkZ 12 ?_;refine tkZ 13 ?_;refine tkZ 14 ?_;replace HKX:=zH (HKX.out.below hb7 HKX.out.lt);have HB7:=HB6;have hkc:=HKX.out.cells;have hkf:=HKX.out.froz;have HBZ:=zH (((HB7.out.setCell (p:=⟨X,0,none⟩) hX (.bool t2)).setCell (p:=⟨X,1,none⟩) hX (.int .i64 m2)).setCell (p:=⟨X,2,none⟩) hX (.int .i64 d2));have HKZ:=zH (((HKX.out.set 0 (.bool t2)).set 1 (.int .i64 m2)).set 2 (.int .i64 d2));refine tkR 16 (fun K hK=>?_);go_simp;go_wp2_with fail;refine tkK hK (HC.out _ (bstep hbr.out HBZ.out)) (fun hHeld=>?_);clear hK K;refine tkZ 17 ?_;refine wpAnyH_done (by kernel_rfl) ?_ _;refine NoPanic.normal ?_;go_wp2
     go_meet
     case rel=>exact⟨X,t2,m2,d2,o2,rfl,rfl,HQ6,HKZ,HBZ⟩
   case rest=>
    obtain⟨X,t2,m2,d2,o2,rfl,rfl,HQ6,hx,hbc⟩:=hcut;obtain⟨dq,hdq⟩:=zF (decide ((⟨t2,m2,d2⟩:Ty)=⟨t,m,d⟩));have HE0:=fun W=>eql_ty ⟨t2,m2,d2⟩ ⟨t,m,d⟩ W
    simp only[hdq,Ty.v] at HE0;have HBC:=zH (bstep hbr.out hbc.out);have HOWN:=zH (own_below hown.out hbc.out);have hxc:=hx.out.cells;have hbk:=(HK.out.below HBC.out HK.out.lt).cells;obtain⟨hc0,hc1⟩:=HC.out _ HBC.out;have hsx:(sop !=24)= !decide (sop=24):=by by_cases h:sop=24<;>simp[h]
    have hsy:(sop==24)=decide (sop=24):=by by_cases h:sop=24<;>simp[h]
    have HDQ:=zH hdq;clear hdq hbc hx hown hbr;by_cases hall:o2=true/\¬sop=24/\dq=true
    ·obtain⟨rfl,h24,rfl⟩:=hall;have HTE:Hid (TE l ⟨t,m,d⟩ [⟨sop,zR,snm⟩]):=nam_te HNM.out h24 ((HQ6.out rfl).trans (congrArg some (of_decide_eq_true HDQ.out)));clear HQ6 HDQ HNM;rw[decide_eq_false h24] at hsx hsy;have hsx:(sop !=24)=true:=hsx
     go_upto_region 7 with fail
     refine wp_region_noPanic ?_;refine wp_region_held_drew (S:=fun w'=>w'.cell? ⟨b,off+j*5,none⟩=some (.int .i64 sop)/\w'.cell? ⟨b,off+j*5+1,none⟩=some (.string snm)) (by kernel_rfl) (HC.out _ (bstep HBC.out (drewN_below _ _ 1))) (fun hHeld=>?_);refine tkZ 0 ?_;refine tkZ 1 ?_;refine tkZ 2 ?_;refine tkZ 3 ?_;refine tkZ 4 ?_;refine tkZ 5 ?_;refine tkZ 6 ?_;refine tkZ 7 ?_;refine tkZ 8 ?_;refine tkZ 9 ?_;refine tkZ 10 ?_;refine tkZ 11 ?_;refine tkR 12 (fun K hK=>?_);go_simp;go_wp2_with fail;refine tkK hK (HC.out _ (bstep HBC.out (bstep (drewN_below _ _ 1) (zB _ _)))) (fun hHeld=>?_);clear hK K;refine tkR 13 (fun K hK=>?_);refine step_push (wc.drewN 1) #[.int .i64 sop,.bool false,.string ⟨#[]⟩,.string ⟨#[]⟩,.string snm] (by rfl) _ _ 40 (by rfl) W.heap.size 49 (.agg #[.int .i64 0,.bool false,.string ⟨#[]⟩,.string ⟨#[]⟩,.string ⟨#[]⟩]) 5 64 1 Tryz.underlying40 info_node rfl (by decide) u7 ns.length (nds ns) (by rfl) HOWN.out (by rfl) rfl ?_ ?_ ?_ ?_ ?_
     any_goals first|(unfold maxLen;omega)|omega
     ·exact List.all_eq_true.1 rfl
     ·exact HBC.out.size
     intro v' w9 hown hb9;have HB9:=zH (HBC.out.trans ((drewN_below W.heap.size wc 1).trans hb9));have HO9:=zH hown;clear hown hb9;refine tkK hK (HC.out _ HB9.out) (fun hHeld=>?_);clear hK K;refine tkZ 14 ?_;refine wpAnyH_done (by kernel_rfl) ?_ _;refine NoPanic.normal ?_;go_wp2
     go_roundg (k-(j+1))
     case measure=>omega
     case rel=>
      refine⟨j+1,ns++[(⟨sop,⟨false,⟨#[]⟩,⟨#[]⟩⟩,snm⟩:Nd)],by omega,by go_num,?_,by simp;omega,fun n hn=>?_,HB9⟩
      ·show World.ownsRow _ _ _ _ _ _ _;rw[nds_append,List.length_append];exact HO9.out
      ·rcases List.mem_append.1 hn with hn|hn
       ·exact hte.out n hn
       ·rw[List.mem_singleton.1 hn];exact HTE.out
    ·have hx:(o2&& !decide (sop=24)&&dq)=false:=by
      by_cases h24:sop=24
      ·rw[decide_eq_true h24];simp
      ·rw[decide_eq_false h24];cases o2<;>cases dq<;>first|rfl|exact absurd ⟨rfl,h24,rfl⟩ hall
     obtain⟨h4,hh4⟩:=zF (decide (sop=24));rw[hh4] at hsx hsy hx;clear hh4 hall HDQ HQ6;cases o2<;>cases h4<;>cases dq<;>cases hx
     all_goals
      simp only[Bool.not_true,Bool.not_false] at hsx;go_wp2
      go_roundg (k-(j+1))
     all_goals first|(case measure=>omega)|(case rel=>exact⟨j+1,ns,by omega,by go_num,HOWN,by omega,hte,HBC⟩)
  ·obtain rfl:j=k:=by omega
   have hw:IntKind.i64.wrap ((ns.length:Int)+2)=(ns.length:Int)+2:=IntWalk.i64_in _ (by omega);have HDW:=zH (HD.out.below hbr.out);have HOB:=zH (Onl.of_below (G:=D) (bstep HBW.out hbr.out));have HNX:=zH (next_any wr D u ((ns.length:Int)+2) HDW.out (by omega) (by omega));have HKB:=zH (HK.out.below hbr.out HK.out.lt);have HLT:Hid (D<W.heap.size):=by show _<_;have:=HBW.out.size;have:=HDB.out;omega
   clear hbr;obtain⟨A1,c1,rfl,_⟩:=own_rd hown.out;go_wp2_with fail;refine HNX.out.mono ?_;rintro e w1 ⟨r,hr,rfl,hd1,ho1⟩;have HO1:=zH (onl_row hown.out ho1 HLT.out);have HON:=zH (HOB.out.trans ho1);have HD1:=zH hd1;have hbk:=(ho1.blk HKB.out (by have:=HDB.out;have:=HBB.out;omega)).cells;have hsz:w.heap.size<=w1.heap.size:=HON.out.size;clear hown hd1 ho1 HNX HKB hw;by_cases hrl:r<ns.length
   ·have hrl':(r:Int)<(ns.length:Int):=by omega
    obtain⟨_,_,_,hrd⟩:=own_hd HO1.out;obtain⟨g,of,hA,hb,hc0,hc1,hc2,hc3,hc4⟩:=hrd.nd hrl;subst hA;have HTE:=zH (hte.out _ (List.getElem_mem hrl));clear hte;generalize ns[r]=n at*;obtain⟨op,⟨neg,num,den⟩,name⟩:=n;simp only at hc0 hc1 hc2 hc3 hc4;clear hr hrd;have hr0:(0:Int)<=(r:Int):=by omega
    go_wp2;go_ret;exact⟨_,[⟨op,⟨neg,num,den⟩,name⟩],rfl,⟨HTE.out,HT.out.one⟩,own_one w1 _ _ hsz,HD1.out.below (zB _ _),HON.out.trans (Onl.of_below (zB _ _))⟩
   ·have hrl':¬(r:Int)<(ns.length:Int):=by omega
    cases t
    ·go_wp2_with fail;refine (wconst_any l K D u m d w1 HD1.out (Nat.le_trans HU.out hsz) HT.out.num).mono ?_;rintro e w2 ⟨v,n2,rfl,hl,ho,hd2,hon⟩;go_wp2;go_ret;exact⟨v,n2,rfl,hl,own_lower ho hsz,hd2,HON.out.trans hon⟩
    ·go_wp2_with fail;refine (next_any w1 D u 2 HD1.out (by omega) (by omega)).mono ?_;rintro e w2 ⟨q,hq,rfl,hd2,ho2⟩;have HON:=zH (HON.out.trans ho2);have HD2:=zH hd2;clear hd2 ho2 hbk;go_wp2_with fail;refine (sOf_any (q:Int) w2 (by omega) (by omega)).mono ?_;rintro e w3 ⟨rfl,hb3⟩;have HON:=zH (HON.out.trans (Onl.of_below hb3));have HD3:=zH (HD2.out.below hb3);clear hb3
     have HV:Hid (ofI (q:Int)=ofI 0∨ofI (q:Int)=ofI 1):=by
      rcases (by omega:q=0∨q=1) with rfl|rfl
      ·exact .inl rfl
      ·exact .inr rfl
     clear hq;generalize ofI (q:Int)=va at*;obtain⟨neg,num,den⟩:=va;unfold Ra.v;go_wp2;go_ret;exact⟨_,[⟨4,⟨neg,num,den⟩,⟨#[]⟩⟩],rfl,⟨by obtain⟨rfl,rfl⟩:=HT.out.tru;exact TE.tru HV.out,HT.out.one⟩,own_one w3 _ _ HON.out.size,HD3.out.below (zB _ _),HON.out.trans (Onl.of_below (zB _ _))⟩
theorem infoBr:(Tryz.prog.info? 93).map (fun i=>(i.zero,i.size,i.bytes))=some (some (.agg #[.bool false,.string ⟨#[]⟩,.string ⟨#[]⟩,.bool false,.string ⟨#[]⟩,.string ⟨#[]⟩]),6,80):=by kernel_rfl
structure BrK (fs:List Nat) (f:Nat) (l:List Bk):Prop where
 a:l.map Bk.fr=fs.map (fun (n:Nat)=>ofI (n:Int))
 b:∃r,fs=0::r
 c:fs.Pairwise (·<·)
 d:∀n∈fs,n<=f
 e:∀b∈l,fitsR b.rt=true
theorem BrK.push {fs:List Nat} {f:Nat} {l:List Bk} (h:BrK fs f l) {g:Nat} (hg:f<g) {r:Ra} (hr:fitsR r=true):BrK (fs++[g]) g (l++[⟨ofI (g:Int),r⟩]):=by
 obtain⟨r0,hr0⟩:=h.b;refine⟨by rw[List.map_append,List.map_append,h.a];rfl,⟨r0++[g],by rw[hr0];rfl⟩,List.pairwise_append.2 ⟨h.c,List.pairwise_singleton _ _,fun a ha b hb=>?_⟩,fun n hn=>?_,fun b hb=>?_⟩
 ·rw[List.mem_singleton.1 hb];exact Nat.lt_of_le_of_lt (h.d a ha) hg
 ·rcases List.mem_append.1 hn with hn|hn
  ·exact Nat.le_trans (h.d n hn) (Nat.le_of_lt hg)
  ·rw[List.mem_singleton.1 hn];exact Nat.le_refl _
 ·rcases List.mem_append.1 hb with hb|hb
  ·exact h.e b hb
  ·rw[List.mem_singleton.1 hb];exact hr
def BrRet (D u:Nat) (w:World) (e:Ending) (w':World):Prop:=∃(h:Hd) (l:List Bk),e=.returned (.slice h.a h.n h.c)/\BrG l/\w'.ownsRow w.heap.size 93 6 (.slice h.a h.n h.c) l.length (l.flatMap Bk.cells)/\DS w' D u/\Onl D w w'
theorem wbrackets_any (D u:Nat) (ri:Bool) (w:World) (hd:DS w D u) (hu:u<=w.heap.size):
  Calls Tryz.prog 53 #[.pointer (some ⟨D,0,none⟩),.bool ri] w (BrRet D u w):=by
 have h:DW w D u w:=⟨hd,Onl.refl _ _,hd.lt,hu⟩
 clear hd hu;go_enter Tryz.func53,Tryz.ntmps53
 go_upto_if 10 with fail
 go_cut [6] from 10 to 10 (fun lv wc=>∃z:Int,lv=.int .i64 z/\-2<=z/\z<=0/\DW w D u wc)
 case first=>
  cases ri
  all_goals
   go_wp2
   go_meet
  ·case rel=>exact⟨-2,rfl,by omega,by omega,h⟩
  ·case rel=>exact⟨0,rfl,by omega,by omega,h⟩
 case rest=>
  clear h;obtain⟨z,rfl,hz1,hz2,h⟩:=hcut;go_wp2_with fail;refine (sOf_any 0 wc (by omega) (by omega)).mono ?_;rintro e w1 ⟨rfl,hb⟩;have HK0:Hid (∀r,fitsR r=true->BrK [0] 0 [⟨ofI 0,r⟩]):=fun r hr=>⟨rfl,⟨[],rfl⟩,List.pairwise_singleton _ _,fun n hn=>by rw[List.mem_singleton.1 hn];exact Nat.le_refl _,fun b hb=>by rw[List.mem_singleton.1 hb];exact hr⟩
  generalize ofI 0=va at*;obtain⟨an,au,ad⟩:=va;unfold Ra.v;replace h:=h.below hb;clear hb;go_wp2_with fail;refine (h.next 5 (by omega) (by omega)).mono ?_;rintro e w2 ⟨r,hr,rfl,h',_⟩;clear h;go_wp2_with fail;refine (wfr (r:Int) 10 w2 (by omega) (by omega) (by omega) (by omega)).mono ?_;rintro e w3 ⟨bn,bu,bd,rfl,hfit,hb⟩;have HK1:=zH (HK0.out _ hfit);clear HK0 hfit;have h:=h'.below hb;clear hb h' hr
  go_upto_region 6 with fail
  have ho:=own_new w3 #[.bool an,.string au,.string ad,.bool bn,.string bu,.string bd] 93 6 1 w.heap.size rfl (by omega) h.on.size;generalize hX:w3.alloc _=X at ho⊢;have h':=h.below (zA hX).2;clear hX h;generalize w3.heap.size=C at ho⊢;go_wp2
  go_loopg [5,7,8] 2 (fun g fv ov kv wr=>∃(j fz:Nat) (bs:List Bk),j+g=2/\kv=.int .i64 j/\fv=.int .i64 fz/\fz<=100*j/\bs.length=j+1/\Hid (∃fs,BrK fs fz bs)/\wr.ownsRow w.heap.size 93 6 ov (j+1) (bs.flatMap Bk.cells)/\DW w D u wr)
  case atStart=>exact⟨0,0,[⟨⟨an,au,ad⟩,⟨bn,bu,bd⟩⟩],by omega,rfl,rfl,by omega,rfl,⟨_,HK1.out⟩,ho,h'⟩
  case round=>
   clear ho h' HK1;obtain⟨j,fz,bs,hj,rfl,rfl,hf1,hbl,hbk,ho,h⟩:=hrel;go_wp2_with fail;refine (h.next 2 (by omega) (by omega)).mono ?_;rintro e w1 ⟨r,hr,rfl,h',hx⟩;replace ho:=h.row ho hx;clear h hx;by_cases hlt:(j:Int)<1+(r:Int)
   ·go_wp2_with fail;refine (h'.next 100 (by omega) (by omega)).mono ?_;rintro e w2 ⟨q,hq,rfl,h,hx⟩;replace ho:=h'.row ho hx;clear h' hx
    go_upto_region 10 with fail
    go_wp2_with fail;refine (sOf_any _ w2 (by omega) (by omega)).mono ?_;rintro e w3 ⟨rfl,hb⟩;obtain⟨g2,hg2⟩:=zE (fz+1+q);have e2:(fz:Int)+1+(q:Int)=(g2:Int):=by omega
    rw[e2];have HK1:Hid (∀r,fitsR r=true->∃fs,BrK fs g2 (bs++[⟨ofI (g2:Int),r⟩])):=fun r hr=>hbk.out.imp' _ (fun _ h=>h.push (by omega) hr)
    have hg3:g2<=100*j+100:=by omega
    clear e2 hg2;obtain⟨va,hva⟩:=zF (ofI (g2:Int));rw[hva] at HK1⊢;clear hva;obtain⟨an,au,ad⟩:=va;unfold Ra.v;replace ho:=own_below ho hb;have h':=h.below hb;clear hb h;go_wp2_with fail;refine (h'.next 6 (by omega) (by omega)).mono ?_;rintro e w4 ⟨s,hs,rfl,h,hx⟩;replace ho:=h'.row ho hx;clear h' hx;go_wp2_with fail;refine (wfr _ 10 w4 (by omega) (by omega) (by omega) (by omega)).mono ?_;rintro e w5 ⟨bn,bu,bd,rfl,hfit,hb⟩;have HK2:=zH (HK1.out _ hfit);clear HK1 hfit;replace ho:=own_below ho hb;have h':=h.below hb;clear hb h;go_wp2_with (at_builtin;go_must (refine zP infoBr Tryz.underlying37 ho (by omega) h'.on.size ?_));intro v' w' ho hb;have h:=h'.low hb;clear hb h';go_wp2
    go_roundg (2-(j+1))
    case measure=>omega
    case rel=>exact⟨j+1,g2,bs++[⟨⟨an,au,ad⟩,⟨bn,bu,bd⟩⟩],by omega,by go_num,rfl,by omega,by simp[hbl],HK2,by rw[List.flatMap_append];exact ho,h⟩
   ·obtain⟨A1,c1,rfl,_⟩:=own_rd ho;go_wp2;go_ret;obtain⟨fs,hfs⟩:=hbk.out;exact⟨⟨A1,j+1,c1⟩,bs,rfl,⟨⟨fs,hfs.a,hfs.b,hfs.c,fun n hn=>by have:=hfs.d n hn;omega⟩,hfs.e,by omega⟩,by rw[hbl];exact ho,h'.ds,h'.on⟩
def RtB (l:List Sg) (t:Bool) (m d:Int) (s:ByteArray):Prop:=nameOk s=true/\sigOf l ⟨24,zR,s⟩=some ⟨t,m,d⟩
def StrRet (P:ByteArray->Prop) (D u:Nat) (w:World) (e:Ending) (w':World):Prop:=∃(s:ByteArray) (o:Bool),e=.returned (.tuple #[.string s,.bool o])/\(o=true->P s)/\DS w' D u/\Onl D w w'
theorem wrated_any (l:List Sg) (A:Option Addr) (k c D u:Nat) (t:Bool) (m d:Int) (w:World) (hs:SgR w D A k l) (hd:DS w D u):
  Calls Tryz.prog 147 #[.slice A k c,.pointer (some ⟨D,0,none⟩),.agg #[.bool t,.int .i64 m,.int .i64 d]] w (StrRet (RtB l t m d) D u w):=by
 obtain⟨W,hW⟩:=zE (w.alloc (.cells #[.bool t,.int .i64 m,.int .i64 d] 34));obtain⟨B,hB⟩:=zE w.heap.size;have HK:Hid (Blk W B 34 [.bool t,.int .i64 m,.int .i64 d]):=by show Blk _ _ _ _;rw[hW,hB];exact Blk.new w _ _
 have HBW:Hid (Below w.heap.size w W):=by show Below _ _ _;rw[hW];exact zB _ _
 have HBB:=zH hB;have HSG:=zH (hs.onl (Onl.of_below HBW.out));have HD:=zH (hd.below HBW.out);have HDB:=zH hd.lt;have hk100:=hs.max;clear hs hd;go_enter Tryz.func147,Tryz.ntmps147
 go_upto_region 1 with fail
 simp only[<-hW,<-hB]
 clear hW hB;go_wp2
 go_loopg [8,9] k (fun g ov iv wr=>∃(j:Nat) (ss:List ByteArray),j+g=k/\iv=.int .i64 j/\Hid (wr.ownsRow W.heap.size 9 1 ov ss.length (strs ss))/\ss.length<=j/\Hid (∀s∈ss,RtB l t m d s)/\Hid (Below W.heap.size W wr))
 case atStart=>exact⟨0,[],by omega,rfl,World.ownsRow_nil _ _ _ _,Nat.le_refl _,fun _ h=>(by cases h),Below.refl _ _⟩
 case round=>
  obtain⟨j,ss,hj,rfl,hown,hol,hte,hbr⟩:=hrel;by_cases hlt:j<k
  ·have hjl:j<l.length:=by rw[<-HSG.out.len];exact hlt
   obtain⟨b,off,hA,hb,hc⟩:=Rd.row Sg.cells 5 (fun _=>rfl) (by omega) HSG.out.rd hjl;subst hA;have HNM:=zH (HSG.out.nm _ (List.getElem_mem hjl));generalize l[j]=s at*;obtain⟨sop,snm,⟨st,sm,sd⟩⟩:=s;have HC:Hid (∀X,Below W.heap.size W X->X.cell? ⟨b,off+j*5,none⟩=some (.int .i64 sop)/\X.cell? ⟨b,off+j*5+1,none⟩=some (.string snm)):=fun X hX=>⟨(hX.cell (p:=⟨b,off+j*5,none⟩) hb).trans (hc 0 _ rfl),(hX.cell (p:=⟨b,off+j*5+1,none⟩) hb).trans (hc 1 _ rfl)⟩
   have HF:Hid (∀X,Below W.heap.size W X->Calls Tryz.prog 180 #[.slice (some ⟨b,off,none⟩) k c,.int .i64 24,.string snm] X (FindQ (refF l 24 snm) X)):=fun X hX=>findQ l _ k c 24 snm X HSG.out.len (by have:=HSG.out.max;unfold maxLen;omega) (HSG.out.rd.below hX)
   have hj0:(0:Int)<=(j:Int):=by omega
   have hj1:(j:Int)<(k:Int):=by omega
   clear hb hc hjl
   go_upto_region 5 with fail
   go_cut [10,11] from 18 to 28 (fun av ov wc=>∃X t2 m2 d2 o2,av=.pointer (some ⟨X,0,none⟩)/\ov=.bool o2/\Hid (o2=true->refF l 24 snm=some ⟨t2,m2,d2⟩)/\Hid (Blk wc X 34 [.bool t2,.int .i64 m2,.int .i64 d2])/\Hid (Below wr.heap.size wr wc))
   case first=>
    obtain⟨hc0,hc1⟩:=HC.out _ hbr.out;go_wp2_with fail;refine (HF.out _ hbr.out).mono ?_;rintro e w6 ⟨t2,m2,d2,o2,rfl,hq6,hb6⟩;have HQ6:=zH hq6;clear hq6;have HKZ:=zH (Blk.new w6 34 #[.bool t2,.int .i64 m2,.int .i64 d2]);have HBZ:=zH (bstep hb6 (zB w6 (.cells #[.bool t2,.int .i64 m2,.int .i64 d2] 34)));clear hb6 hc0 hc1;go_wp2
    go_meet
    case rel=>exact⟨_,t2,m2,d2,o2,rfl,rfl,HQ6,HKZ,HBZ⟩
   case rest=>
    obtain⟨X,t2,m2,d2,o2,rfl,rfl,HQ6,hx,hbc⟩:=hcut;obtain⟨dq,hdq⟩:=zF (decide ((⟨t2,m2,d2⟩:Ty)=⟨t,m,d⟩));have HE0:=fun W=>eql_ty ⟨t2,m2,d2⟩ ⟨t,m,d⟩ W
    simp only[hdq,Ty.v] at HE0;have HBC:=zH (bstep hbr.out hbc.out);have HOWN:=zH (own_below hown.out hbc.out);have hxc:=hx.out.cells;have hbk:=(HK.out.below HBC.out HK.out.lt).cells;obtain⟨hc0,hc1⟩:=HC.out _ HBC.out;have hsy:(sop==24)=decide (sop=24):=by by_cases h:sop=24<;>simp[h]
    have HDQ:=zH hdq;clear hdq hbc hx hown hbr;by_cases hall:o2=true/\sop=24/\dq=true
    ·obtain⟨rfl,rfl,rfl⟩:=hall;have HTE:Hid (RtB l t m d snm):=⟨HNM.out,(ref_sig ((HQ6.out rfl).trans (congrArg some (of_decide_eq_true HDQ.out)))).2⟩
     clear HQ6 HDQ HNM;have hcz:=HBC.out.size;go_wp2_with (at_builtin;go_must (refine wpList_push wc #[.string snm] rfl _ _ 120 rfl W.heap.size 9 _ 1 16 1 Tryz.underlying120 info_strU rfl (by decide) u8 ss.length (strs ss) rfl HOWN.out (by rfl) rfl ?_ ?_ ?_ ?_ ?_))
     any_goals first|rfl|(unfold maxLen;omega)|omega
     intro v' w' hown' hb';have HO9:=zH hown';have HB9:=zH (HBC.out.trans hb');clear hown' hb';go_wp2
     go_roundg (k-(j+1))
     case measure=>omega
     case rel=>
      refine⟨j+1,ss++[snm],by omega,by go_num,?_,by simp;omega,fun n hn=>?_,HB9⟩
      ·show World.ownsRow _ _ _ _ _ _ _;rw[strs_append,List.length_append];exact HO9.out
      ·rcases List.mem_append.1 hn with hn|hn
       ·exact hte.out n hn
       ·rw[List.mem_singleton.1 hn];exact HTE.out
    ·clear HDQ HQ6;by_cases h24:sop=24
     all_goals
      first|rw[decide_eq_true h24] at hsy|rw[decide_eq_false h24] at hsy
      cases o2<;>cases dq
     any_goals (simp[h24] at hall;done)
     all_goals
      try clear hall
      go_wp2
      go_roundg (k-(j+1))
     all_goals first|(case measure=>omega)|(case rel=>exact⟨j+1,ss,by omega,by go_num,HOWN,by omega,hte,HBC⟩)
  ·obtain rfl:j=k:=by omega
   have HDW:=zH (HD.out.below hbr.out);have HOB:=zH (Onl.of_below (G:=D) (bstep HBW.out hbr.out));have HLT:Hid (D<W.heap.size):=by show _<_;have:=HBW.out.size;have:=HDB.out;omega
   clear hbr;by_cases h0:ss.length=0
   ·have h0':(ss.length:Int)=0:=by omega
    have h0b:((ss.length:Int)==0)=true:=beq_iff_eq.2 h0';obtain⟨A1,c1,rfl,_⟩:=own_rd hown.out;go_wp2;go_ret2;exact⟨_,_,rfl,fun h=>(by cases h),HDW.out,HOB.out⟩
   ·have h0':¬(ss.length:Int)=0:=by omega
    have h0b:((ss.length:Int)==0)=false:=beq_eq_false_iff_ne.2 h0';have HNX:=zH (next_any wr D u (ss.length:Int) HDW.out (by omega) (by omega));obtain⟨A1,c1,rfl,_⟩:=own_rd hown.out;go_wp2_with fail;refine HNX.out.mono ?_;rintro e w1 ⟨r,hr,rfl,hd1,ho1⟩;have HO1:=zH (onl_row hown.out ho1 HLT.out);have HON:=zH (HOB.out.trans ho1);have HD1:=zH hd1;clear hown hd1 ho1 HNX;have hr1:r<ss.length:=by omega
    obtain⟨_,_,hv,_,_,hrd,_⟩:=own_rd HO1.out;injection hv with hv1 hv2 hv3;subst hv1 hv3;obtain⟨g,of,hA,hb,hc⟩:=Rd.row strC 1 (fun _=>rfl) (by omega) hrd hr1;subst hA;have hc0:=hc 0 _ rfl;rw[Nat.mul_one,Nat.add_zero] at hc0;have hr0:(0:Int)<=(r:Int):=by omega
    have HTE:=zH (hte.out _ (List.getElem_mem hr1));clear hc hrd hv2 hte;go_wp2;go_ret2;exact⟨_,_,rfl,fun _=>HTE.out,HD1.out,HON.out⟩
theorem wNum_any (m d:Int) (w:World):Calls Tryz.prog 18 #[.int .i64 m,.int .i64 d] w fun e w'=>e=.returned (.agg #[.bool false,.int .i64 m,.int .i64 d])/\Below w.heap.size w w':=by
 go_enter Tryz.func18,Tryz.ntmps18;go_wp2;exact bodyPost_ret (v:=.agg #[.bool false,.int .i64 m,.int .i64 d]) (by simp[results,Tryz.results18,go_sem]) rfl ⟨rfl,zB _ _⟩
theorem wTruth_any (w:World):Calls Tryz.prog 54 #[] w fun e w'=>e=.returned (.agg #[.bool true,.int .i64 0,.int .i64 0])/\Below w.heap.size w w':=by
 go_enter Tryz.func54,Tryz.ntmps54;go_wp2;exact bodyPost_ret (v:=.agg #[.bool true,.int .i64 0,.int .i64 0]) (by simp[results,Tryz.results54,go_sem]) rfl ⟨rfl,zB _ _⟩
def K5 (i:Int) (t:Bool) (m d:Int):Prop:=(i=0/\t=false/\m=1/\d=0)∨(i=1/\t=false/\m=0/\d=1)∨(i=2/\t=false/\m=0/\d=0)∨(i=3/\t=true/\m=0/\d=0)∨(i=4/\t=false/\m=1/\d= -1)
def KindRet (i:Int) (w:World) (e:Ending) (w':World):Prop:=∃t m d,e=.returned (.agg #[.bool t,.int .i64 m,.int .i64 d])/\K5 i t m d/\Below w.heap.size w w'
theorem wKind_any (q:Int) (h0:-9223372036854775808<=q) (h1:q<=9223372036854775807) (w:World):Calls Tryz.prog 44 #[.int .i64 q] w (KindRet (q % 5) w):=by
 obtain⟨W,hW⟩:=zE (w.alloc (.cells #[.bool false,.int .i64 0,.int .i64 0] 34));have HK:=zH (Blk.new w 34 #[.bool false,.int .i64 0,.int .i64 0]);have HB:=zH (zB w (.cells #[.bool false,.int .i64 0,.int .i64 0] 34));rw[<-hW] at HK HB;obtain⟨B,hB⟩:=zE w.heap.size;rw[<-hB] at HK;have HX:=zH (Nat.le_of_eq hB.symm);have HM:=zH (fun W=>wMod_any q 5 W h0 h1 (by omega) (by omega));obtain⟨r,hr,hrq⟩:∃r:Nat,r<5/\q % 5=r:=⟨(q % 5).toNat,by omega,by omega⟩
 rw[hrq] at HM⊢;clear hrq h0 h1;go_enter Tryz.func44,Tryz.ntmps44
 go_upto_region 1 with fail
 simp only[<-hW,<-hB]
 clear hW hB;go_wp2_with fail;refine (wNum_any 1 0 W).mono ?_;rintro e w1 ⟨rfl,hb1⟩;replace HB:=zH (bstep HB.out hb1);replace HK:=zH (HK.out.below hb1 HK.out.lt);clear hb1;go_wp2_with fail;refine (wNum_any 0 1 w1).mono ?_;rintro e w2 ⟨rfl,hb1⟩;replace HB:=zH (bstep HB.out hb1);replace HK:=zH (HK.out.below hb1 HK.out.lt);clear hb1;go_wp2_with fail;refine (wNum_any 0 0 w2).mono ?_;rintro e w3 ⟨rfl,hb1⟩;replace HB:=zH (bstep HB.out hb1);replace HK:=zH (HK.out.below hb1 HK.out.lt);clear hb1;go_wp2_with fail;refine (wTruth_any w3).mono ?_;rintro e w4 ⟨rfl,hb1⟩;replace HB:=zH (bstep HB.out hb1);replace HK:=zH (HK.out.below hb1 HK.out.lt);clear hb1;go_wp2_with fail;refine (wNum_any 1 (-1) w4).mono ?_;rintro e w5 ⟨rfl,hb1⟩;replace HB:=zH (bstep HB.out hb1);replace HK:=zH (HK.out.below hb1 HK.out.lt);clear hb1;go_wp2_with fail;refine (HM.out w5).mono ?_;rintro e w6 ⟨rfl,rfl⟩;have hkc:=HK.out.cells;have hkf:=HK.out.froz
 obtain⟨t,m,d,hT,hix⟩:∃t m d,Hid (K5 (r:Int) t m d)/\(Instr.index 159 (.agg #[.bool false,.int .i64 1,.int .i64 0,.bool false,.int .i64 0,.int .i64 1,.bool false,.int .i64 0,.int .i64 0,.bool true,.int .i64 0,.int .i64 0,.bool false,.int .i64 1,.int .i64 (-1)]) (.int .i64 (r:Int))).run Tryz.prog w5=.ok (.agg #[.bool t,.int .i64 m,.int .i64 d]) w5:=by
  rcases (by omega:r=0∨r=1∨r=2∨r=3∨r=4) with rfl|rfl|rfl|rfl|rfl
  ·exact⟨false,1,0,.inl ⟨rfl,rfl,rfl,rfl⟩,by kernel_rfl⟩
  ·exact⟨false,0,1,.inr (.inl ⟨rfl,rfl,rfl,rfl⟩),by kernel_rfl⟩
  ·exact⟨false,0,0,.inr (.inr (.inl ⟨rfl,rfl,rfl,rfl⟩)),by kernel_rfl⟩
  ·exact⟨true,0,0,.inr (.inr (.inr (.inl ⟨rfl,rfl,rfl,rfl⟩))),by kernel_rfl⟩
  ·exact⟨false,1,-1,.inr (.inr (.inr (.inr ⟨rfl,rfl,rfl,rfl⟩))),by kernel_rfl⟩
 clear hr HM;go_wp2;exact bodyPost_ret (v:=.agg #[.bool t,.int .i64 m,.int .i64 d]) (by simp[results,Tryz.results44,go_sem,hkc]) rfl ⟨t,m,d,rfl,hT.out,((HB.out.setCell (p:=⟨B,0,none⟩) HX.out _).setCell (p:=⟨B,1,none⟩) HX.out _).setCell (p:=⟨B,2,none⟩) HX.out _⟩
structure MS (w:World) (B D u:Nat) (A:Option Addr) (k:Nat) (l:List Sg) (t:Bool) (m d:Int) (W:World):Prop where
 b:Blk W B 34 [.bool t,.int .i64 m,.int .i64 d]
 s:SgR W D A k l
 ds:DS W D u
 on:Onl D w W
 hB:D<B
 hD:D<w.heap.size
 hu:u<=w.heap.size
def MadeC (K:Nat) (n:Int):Prop:=∀(l:List Sg) (A:Option Addr) (k c D u:Nat) (t:Bool) (m d:Int) (w:World),SgR w D A k l->DS w D u->u<=w.heap.size->TyK 1 t m d->
 Calls Tryz.prog 103 #[.slice A k c,.pointer (some ⟨D,0,none⟩),.agg #[.bool t,.int .i64 m,.int .i64 d],.int .i64 n] w (NdRet (TK l t m d K) D u w)
def MRow (w:World) (P:List Nd->Prop) (X:World) (r:List Nd × Hd):Prop:=X.ownsRow w.heap.size 49 5 (.slice r.2.a r.2.n r.2.c) r.1.length (nds r.1)/\P r.1
section
variable {w X X':World} {B D u k K c:Nat} {P:List Nd->Prop} {n:Int} {A:Option Addr} {l:List Sg} {t:Bool} {m d:Int}
theorem MS.onl (h:MS w B D u A k l t m d X) (hd:DS X' D u) (ho:Onl D X X'):MS w B D u A k l t m d X':=
 ⟨ho.blk h.b (by have:=h.hB;omega),h.s.onl ho,hd,h.on.trans ho,h.hB,h.hD,h.hu⟩
theorem MS.below (h:MS w B D u A k l t m d X) (hb:Below X.heap.size X X'):MS w B D u A k l t m d X':=h.onl (h.ds.below hb) (Onl.of_below hb)
theorem MS.cells (h:MS w B D u A k l t m d X):X.cell? ⟨B,0,none⟩=some (.bool t)/\X.cell? ⟨B,1,none⟩=some (.int .i64 m)/\X.cell? ⟨B,2,none⟩=some (.int .i64 d):=⟨h.b.cells 0,h.b.cells 1,h.b.cells 2⟩
theorem MRow.onl {r:List Nd × Hd} (h:MRow w P X r) (ho:Onl D X X') (hD:D<w.heap.size):MRow w P X' r:=⟨onl_row h.1 ho hD,h.2⟩
theorem MS.next (h:MS w B D u A k l t m d X) (q:Int) (h1:1<=q) (h2:q<=1000):Calls Tryz.prog 52 #[.pointer (some ⟨D,0,none⟩),.int .i64 q] X fun e X'=>∃r:Nat,(r:Int)<q/\e=.returned (.int .i64 r)/\MS w B D u A k l t m d X'/\Onl D X X':=
 (next_any X D u q h.ds h1 (by omega)).mono fun _ _ ⟨r,hr,he,hd,ho⟩=>⟨r,hr,he,h.onl hd ho,ho⟩
theorem MS.made (h:MS w B D u A k l t m d X) (HM:MadeC K n) (c:Nat) (t':Bool) (m' d':Int) (ht:TyK 1 t' m' d'):
  Calls Tryz.prog 103 #[.slice A k c,.pointer (some ⟨D,0,none⟩),.agg #[.bool t',.int .i64 m',.int .i64 d'],.int .i64 n] X fun e X'=>∃r:List Nd × Hd,e=.returned (.slice r.2.a r.2.n r.2.c)/\MRow w (TK l t' m' d' K) X' r/\MS w B D u A k l t m d X'/\Onl D X X':=by
 refine (HM l A k c D u t' m' d' X h.s h.ds (Nat.le_trans h.hu h.on.size) ht).mono ?_;rintro e X' ⟨v,ns,rfl,h1,h2,h3,h4⟩;obtain⟨A1,c1,rfl,_⟩:=own_rd h2;exact⟨(ns,⟨A1,ns.length,c1⟩),rfl,⟨own_lower h2 h.on.size,h1⟩,h.onl h3 h4,h4⟩
theorem MS.after (h:MS w B D u A k l t m d X) (hK:K<=1000) (nod:Nd) (rs:List (List Nd × Hd)) (h3:rs.length<=3) (hr:∀r∈rs,MRow w (fun ns=>ns.length<=K) X r) (hP:P ((rs.map Prod.fst).flatten++[nod])):
  Calls Tryz.prog 145 #[.agg nod.cells.toArray,.slice (some ⟨X.heap.size,0,none⟩) rs.length rs.length] (X.alloc (.cells (rs.map fun r=>Value.slice r.2.a r.2.n r.2.c).toArray 40)) fun e X'=>∃v,e=.returned v/\NdRet P D u w (.returned v) X'/\MS w B D u A k l t m d X'/\Below X.heap.size X X':=by
 have hb:=zB X (.cells (rs.map fun r=>Value.slice r.2.a r.2.n r.2.c).toArray 40);refine (wafter_any nod K X.heap.size rs.length 40 rs _ rfl h3 hK (Blk.new X _ _) (fun r h=>?_)).mono ?_
 ·obtain⟨h1,h2⟩:=hr r h;obtain⟨q1,q2,q3,q4⟩:=own_hd (own_below h1 hb);exact⟨⟨q1,by omega,q3,q4⟩,h2⟩
 ·rintro e w' ⟨v,ns,rfl,h1,h2,h4⟩;have hb2:=bstep hb h4;exact⟨v,rfl,⟨v,ns,rfl,h1 ▸ hP,own_lower h2 (Nat.le_trans h.on.size hb.size),h.ds.below hb2,h.on.trans (Onl.of_below hb2)⟩,h.below hb2,hb2⟩
theorem MS.a1 (h:MS w B D u A k l t m d X) (hK:K<=1000) {op:Int} {ng:Bool} {nu de nm:ByteArray} {r1:List Nd × Hd} {t1:Bool} {m1 d1:Int} (q1:MRow w (TK l t1 m1 d1 K) X r1) (hT:∀a,TE l ⟨t1,m1,d1⟩ a->TE l ⟨t,m,d⟩ ([a].flatten++[(⟨op,⟨ng,nu,de⟩,nm⟩:Nd)])):
  Calls Tryz.prog 145 #[.agg #[.int .i64 op,.bool ng,.string nu,.string de,.string nm],.slice (some ⟨X.heap.size,0,none⟩) 1 1] (X.alloc (.cells #[.slice r1.2.a r1.2.n r1.2.c] 40)) fun e X'=>∃v,e=.returned v/\NdRet (TK l t m d (3*K+1)) D u w (.returned v) X'/\MS w B D u A k l t m d X'/\Below X.heap.size X X':=
 h.after hK ⟨op,⟨ng,nu,de⟩,nm⟩ [r1] (by simp) (fun r hr=>(by simp at hr;subst hr;exact⟨q1.1,q1.2.2⟩)) ⟨hT _ q1.2.1,by have:=q1.2.2;simp;omega⟩
theorem MS.a2 (h:MS w B D u A k l t m d X) (hK:K<=1000) {op:Int} {ng:Bool} {nu de nm:ByteArray} {r1 r2:List Nd × Hd} {t1 t2:Bool} {m1 d1 m2 d2:Int} (q1:MRow w (TK l t1 m1 d1 K) X r1) (q2:MRow w (TK l t2 m2 d2 K) X r2) (hT:∀a b,TE l ⟨t1,m1,d1⟩ a->TE l ⟨t2,m2,d2⟩ b->TE l ⟨t,m,d⟩ ([a,b].flatten++[(⟨op,⟨ng,nu,de⟩,nm⟩:Nd)])):
  Calls Tryz.prog 145 #[.agg #[.int .i64 op,.bool ng,.string nu,.string de,.string nm],.slice (some ⟨X.heap.size,0,none⟩) 2 2] (X.alloc (.cells #[.slice r1.2.a r1.2.n r1.2.c,.slice r2.2.a r2.2.n r2.2.c] 40)) fun e X'=>∃v,e=.returned v/\NdRet (TK l t m d (3*K+1)) D u w (.returned v) X'/\MS w B D u A k l t m d X'/\Below X.heap.size X X':=
 h.after hK ⟨op,⟨ng,nu,de⟩,nm⟩ [r1,r2] (by simp) (fun r hr=>(by simp at hr;rcases hr with rfl|rfl<;>first|exact⟨q1.1,q1.2.2⟩|exact⟨q2.1,q2.2.2⟩)) ⟨hT _ _ q1.2.1 q2.2.1,by have:=q1.2.2;have:=q2.2.2;simp;omega⟩
theorem MS.a3 (h:MS w B D u A k l t m d X) (hK:K<=1000) {op:Int} {ng:Bool} {nu de nm:ByteArray} {r1 r2 r3:List Nd × Hd} {t1 t2 t3:Bool} {m1 d1 m2 d2 m3 d3:Int} (q1:MRow w (TK l t1 m1 d1 K) X r1) (q2:MRow w (TK l t2 m2 d2 K) X r2) (q3:MRow w (TK l t3 m3 d3 K) X r3) (hT:∀a b c,TE l ⟨t1,m1,d1⟩ a->TE l ⟨t2,m2,d2⟩ b->TE l ⟨t3,m3,d3⟩ c->TE l ⟨t,m,d⟩ ([a,b,c].flatten++[(⟨op,⟨ng,nu,de⟩,nm⟩:Nd)])):
  Calls Tryz.prog 145 #[.agg #[.int .i64 op,.bool ng,.string nu,.string de,.string nm],.slice (some ⟨X.heap.size,0,none⟩) 3 3] (X.alloc (.cells #[.slice r1.2.a r1.2.n r1.2.c,.slice r2.2.a r2.2.n r2.2.c,.slice r3.2.a r3.2.n r3.2.c] 40)) fun e X'=>∃v,e=.returned v/\NdRet (TK l t m d (3*K+1)) D u w (.returned v) X'/\MS w B D u A k l t m d X'/\Below X.heap.size X X':=
 h.after hK ⟨op,⟨ng,nu,de⟩,nm⟩ [r1,r2,r3] (by simp) (fun r hr=>(by simp at hr;rcases hr with rfl|rfl|rfl<;>first|exact⟨q1.1,q1.2.2⟩|exact⟨q2.1,q2.2.2⟩|exact⟨q3.1,q3.2.2⟩)) ⟨hT _ _ _ q1.2.1 q2.2.1 q3.2.1,by have:=q1.2.2;have:=q2.2.2;have:=q3.2.2;simp;omega⟩
theorem MS.leaf (h:MS w B D u A k l t m d X) (c:Nat) (ht:TyK K t m d):Calls Tryz.prog 144 #[.slice A k c,.pointer (some ⟨D,0,none⟩),.agg #[.bool t,.int .i64 m,.int .i64 d]] X (NdRet (TK l t m d K) D u w):=by
 refine (wleaf_any l A k c D u K t m d X h.s h.ds (Nat.le_trans h.hu h.on.size) ht).mono ?_;rintro e w' ⟨v,ns,h1,h2,h3,h4,h5⟩;exact⟨v,ns,h1,h2,own_lower h3 h.on.size,h4,h.on.trans h5⟩
end
theorem K5.lo {r:Nat} {t:Bool} {m d:Int} (h:K5 ((r:Int) % 5) t m d) (hr:r<3):t=false/\TyK 1 t m d:=by
 unfold K5 at h;rcases h with⟨_,rfl,rfl,rfl⟩|⟨_,rfl,rfl,rfl⟩|⟨_,rfl,rfl,rfl⟩|⟨h,_⟩|⟨h,_⟩
 ·exact⟨rfl,.inr ⟨rfl,.inl ⟨Nat.le_refl _,.inl ⟨rfl,rfl⟩⟩⟩⟩
 ·exact⟨rfl,.inr ⟨rfl,.inl ⟨Nat.le_refl _,.inr (.inl ⟨rfl,rfl⟩)⟩⟩⟩
 ·exact⟨rfl,.inr ⟨rfl,.inl ⟨Nat.le_refl _,.inr (.inr ⟨rfl,rfl⟩)⟩⟩⟩
 ·omega
 ·omega
theorem wmade_zero (n:Int) (hn:n<=0) (K:Nat) (l:List Sg) (A:Option Addr) (k c D u:Nat) (t:Bool) (m d:Int) (w:World) (hs:SgR w D A k l) (hd:DS w D u) (hu:u<=w.heap.size) (ht:TyK K t m d):
  Calls Tryz.prog 103 #[.slice A k c,.pointer (some ⟨D,0,none⟩),.agg #[.bool t,.int .i64 m,.int .i64 d],.int .i64 n] w (NdRet (TK l t m d K) D u w):=by
 go_enter Tryz.func103,Tryz.ntmps103
 go_upto_region 1 with fail
 generalize hW:w.alloc _=W;obtain⟨hk,hb0⟩:=zA hW;have h:MS w w.heap.size D u A k l t m d W:=⟨hk,hs.onl (Onl.of_below hb0),hd.below hb0,Onl.of_below hb0,hd.lt,hd.lt,hu⟩
 have hc:=h.cells;clear hW hk;generalize hB:w.heap.size=B at h hc hb0⊢;go_wp2_with fail;refine (h.leaf c ht).mono ?_;rintro e w1 ⟨v,ns,rfl,h1⟩;go_wp2;go_ret;exact⟨v,ns,rfl,h1⟩
theorem wmade_step (n K:Nat) (hn:n<=1) (hK0:1<=K) (hK:K<=100) (HM:MadeC K n):MadeC (3*K+1) ((n:Int)+1):=by
 intro l A k c D u t m d w hs hd hu ht;have hK2:K<=1000:=by omega
 have htK:=ht.mono (show 1<=3*K+1 by omega);have h1n:¬((n:Int)+1<=0):=by omega
 clear hK0 hK;go_enter Tryz.func103,Tryz.ntmps103
 go_upto_region 1 with fail
 generalize hW:w.alloc _=W;obtain⟨hk,hb0⟩:=zA hW;have h:MS w w.heap.size D u A k l t m d W:=⟨hk,hs.onl (Onl.of_below hb0),hd.below hb0,Onl.of_below hb0,hd.lt,hd.lt,hu⟩
 have hc:=h.cells;clear hW hk hs hd hu hb0;generalize hB:w.heap.size=B at h hc⊢;clear hB;go_wp2_with fail;refine (h.next 5 (by omega) (by omega)).mono ?_;rintro e w1 ⟨r1,hr1,rfl,h',_⟩;clear h hc;have h:=h';have hc:=h.cells;clear h';by_cases h0:r1=0
 ·subst h0;go_wp2_with fail;refine (h.leaf c htK).mono ?_;rintro e w2 ⟨v,ns,rfl,hf⟩;go_wp2;go_ret;exact⟨v,ns,rfl,hf⟩
 have h0b:((r1:Int)==0)=false:=beq_eq_false_iff_ne.2 (by omega);have h0p:¬(r1:Int)=0:=by omega
 clear h0 hr1;cases t
 ·have hu:=ht.unit;go_wp2_with fail;refine (h.next 7 (by omega) (by omega)).mono ?_;rintro e w1 ⟨r2,hr2,rfl,h',_⟩;clear h hc;have h:=h';have hc:=h.cells;clear h';rcases (by omega:r2=0∨r2=1∨r2=2∨r2=3∨r2=4∨r2=5∨r2=6) with rfl|rfl|rfl|rfl|rfl|rfl|rfl
  iterate 2
   ·go_wp2_with fail;refine (h.next 4 (by omega) (by omega)).mono ?_;rintro e w1 ⟨r3,hr3,rfl,h',_⟩;clear h hc;have h:=h';have hc:=h.cells;clear h'
    obtain⟨q,hq9,hq⟩:∃q:Int,Hid (q=9∨q=10∨q=13∨q=14)/\∀W,Sem.run Tryz.prog (Instr.index 207 (.agg #[.int .i64 9,.int .i64 10,.int .i64 13,.int .i64 14]) (.int .i64 (r3:Int))) W=Result.ok (.int .i64 q) W:=by
     rcases (by omega:r3=0∨r3=1∨r3=2∨r3=3) with rfl|rfl|rfl|rfl
     ·exact⟨9,.inl rfl,fun _=>by first|rfl|kernel_rfl⟩
     ·exact⟨10,.inr (.inl rfl),fun _=>by first|rfl|kernel_rfl⟩
     ·exact⟨13,.inr (.inr (.inl rfl)),fun _=>by first|rfl|kernel_rfl⟩
     ·exact⟨14,.inr (.inr (.inr rfl)),fun _=>by first|rfl|kernel_rfl⟩
    have hCS:=fun X (h:MS w B D u A k l false m d X)=>h.cells
    go_upto_region 20 with fail
    refine reS (MS w B D u A k l false m d) 99 (h.below (drewN_below _ _ 1)) (fun w1 _ h=>?_)
    iterate 6 refine reA ?_
    refine reZ 7 ?_;refine reZ 8 ?_;refine reZ 9 ?_;refine reZ 10 ?_;refine reC 6 (h.made HM c false m d ht) ?_;rintro e w1 ⟨r5,rfl,qr5,h,ho⟩;refine⟨_,rfl,h,fun h=>?_⟩;refine reC 11 (h.made HM c false m d ht) ?_;rintro e w1 ⟨r6,rfl,qr6,h,ho⟩;replace qr5:=qr5.onl ho h.hD;refine⟨_,rfl,h,fun h=>?_⟩;refine reV 12 (fun _=>h.below (zB _ _)) (fun _=>?_);refine reC 13 (h.a2 hK2 qr5 qr6 (fun a b ha hb=>TE.sum hq9.out rfl ha hb)) ?_;rintro e w1 ⟨v,rfl,hf,h,_⟩;refine⟨_,rfl,h,fun h=>?_⟩;refine reZ 14 ?_;refine reE ?_;go_wp2;go_ret;exact hf
  ·go_wp2_with fail;refine (h.made HM c false m d ht).mono ?_;rintro e w1 ⟨r5,rfl,qr5,h',ho⟩;clear h hc ho;have h:=h';have hc:=h.cells;clear h';go_wp2_with fail;refine (wNum_any 0 0 _).mono ?_;rintro e w1 ⟨rfl,hb⟩;replace qr5:=qr5.onl (Onl.of_below hb) h.hD;have h':=h.below hb;clear h hc hb;have h:=h';have hc:=h.cells;clear h';go_wp2_with fail;refine (h.made HM c false 0 0 TyK.plain).mono ?_;rintro e w1 ⟨r6,rfl,qr6,h',ho⟩;replace qr5:=qr5.onl ho h'.hD;clear h hc ho;have h:=h';have hc:=h.cells;clear h';go_wp2_with fail;refine (h.a2 hK2 qr5 qr6 (fun a b ha hb=>TE.mul (.inl rfl) rfl hu ha hb)).mono ?_;rintro e w1 ⟨v,rfl,hf,h,_⟩;go_wp2;go_ret;exact hf
  ·go_wp2_with fail;refine (h.made HM c false m d ht).mono ?_;rintro e w1 ⟨r5,rfl,qr5,h',ho⟩;clear h hc ho;have h:=h';have hc:=h.cells;clear h';go_wp2_with fail;refine (wNum_any 0 0 _).mono ?_;rintro e w1 ⟨rfl,hb⟩;replace qr5:=qr5.onl (Onl.of_below hb) h.hD;have h':=h.below hb;clear h hc hb;have h:=h';have hc:=h.cells;clear h';go_wp2_with fail;refine (h.made HM c false 0 0 TyK.plain).mono ?_;rintro e w1 ⟨r6,rfl,qr6,h',ho⟩;replace qr5:=qr5.onl ho h'.hD;clear h hc ho;have h:=h';have hc:=h.cells;clear h';go_wp2_with fail;refine (h.a2 hK2 qr5 qr6 (fun a b ha hb=>TE.mul (.inr rfl) rfl hu ha hb)).mono ?_;rintro e w1 ⟨v,rfl,hf,h,_⟩;go_wp2;go_ret;exact hf
  ·have hCS:=fun X (h:MS w B D u A k l false m d X)=>h.cells
   go_upto_region 26 with fail
   refine reS (MS w B D u A k l false m d) 99 (h.below (drewN_below _ _ 1)) (fun w1 _ h=>?_)
   iterate 3 refine reA ?_
   refine reZ 4 ?_;refine reZ 6 ?_;refine reZ 7 ?_;refine reZ 8 ?_;refine reZ 9 ?_;refine reZ 11 ?_;refine reZ 12 ?_;refine reZ 13 ?_;refine reZ 14 ?_;refine reC 3 (wTruth_any _) ?_;rintro e w1 ⟨rfl,hb⟩;replace h:=h.below hb;refine⟨_,rfl,h,fun h=>?_⟩;refine reC 5 (h.made HM c true 0 0 TyK.truth) ?_;rintro e w1 ⟨r5,rfl,qr5,h,ho⟩;refine⟨_,rfl,h,fun h=>?_⟩;refine reC 10 (h.made HM c false m d ht) ?_;rintro e w1 ⟨r6,rfl,qr6,h,ho⟩;replace qr5:=qr5.onl ho h.hD;refine⟨_,rfl,h,fun h=>?_⟩;refine reC 15 (h.made HM c false m d ht) ?_;rintro e w1 ⟨r7,rfl,qr7,h,ho⟩;replace qr5:=qr5.onl ho h.hD;replace qr6:=qr6.onl ho h.hD;refine⟨_,rfl,h,fun h=>?_⟩;refine reV 16 (fun _=>h.below (zB _ _)) (fun _=>?_);refine reC 17 (h.a3 hK2 qr5 qr6 qr7 (fun a b c' ha hb hc=>TE.cond ha hb hc)) ?_;rintro e w1 ⟨v,rfl,hf,h,_⟩;refine⟨_,rfl,h,fun h=>?_⟩;refine reZ 18 ?_;refine reE ?_;go_wp2;go_ret;exact hf
  ·go_wp2_with fail;refine (h.next 3 (by omega) (by omega)).mono ?_;rintro e w1 ⟨r3,hr3,rfl,h',_⟩;clear h hc;have h:=h';have hc:=h.cells;clear h';have hw:IntKind.i64.wrap (21+(r3:Int))=21+(r3:Int):=IntWalk.i64_in _ (by omega);have hCS:=fun X (h:MS w B D u A k l false m d X)=>h.cells
   go_upto_region 29 with fail
   refine reS (MS w B D u A k l false m d) 99 (h.below (drewN_below _ _ 1)) (fun w1 _ h=>?_)
   iterate 2 refine reA ?_
   refine reZ 4 ?_;refine reZ 5 ?_;refine reZ 6 ?_;refine reZ 7 ?_;refine reC 2 (wratio_any D u 1 _ h.ds (Nat.le_trans h.hu h.on.size) (.inr rfl)) ?_;rintro e w1 ⟨⟨qn,qu,qd⟩,rfl,hfit,hpos,hd1,ho1⟩;have HFP:=zH (And.intro hfit (hpos rfl));clear hfit hpos;replace h:=h.onl hd1 ho1;refine⟨.agg #[.bool qn,.string qu,.string qd],rfl,h,fun h=>?_⟩;refine reZ 3 ?_;refine reC 8 (h.made HM c false m d ht) ?_;rintro e w1 ⟨r5,rfl,qr5,h,ho⟩;refine⟨_,rfl,h,fun h=>?_⟩;refine reV 9 (fun _=>h.below (zB _ _)) (fun _=>?_);refine reC 10 (h.a1 hK2 qr5 (fun a ha=>TE.stp (op:=21+(r3:Int)) (by omega) HFP.out.1 HFP.out.2 rfl ha)) ?_;rintro e w1 ⟨v,rfl,hf,h,_⟩;refine⟨_,rfl,h,fun h=>?_⟩;refine reZ 11 ?_;refine reE ?_;go_wp2;go_ret;exact hf
  ·go_wp2_with fail;refine (wrated_any l A k c D u false m d _ h.s h.ds).mono ?_;rintro e w1 ⟨s,o,rfl,hrt,hd1,ho1⟩;have HRT:=zH hrt;clear hrt;have h':=h.onl hd1 ho1;clear hd1 ho1;clear h hc;have h:=h';have hc:=h.cells;clear h';cases o
   ·go_wp2_with fail;refine (h.leaf c htK).mono ?_;rintro e w2 ⟨v,ns,rfl,hf⟩;go_wp2;go_ret;exact⟨v,ns,rfl,hf⟩
   ·replace HRT:=zH (HRT.out rfl);go_wp2_with fail;refine (h.made HM c false m d ht).mono ?_;rintro e w1 ⟨r5,rfl,qr5,h',ho⟩;clear h hc ho;have h:=h';have hc:=h.cells;clear h';go_wp2_with fail;refine (h.a1 hK2 qr5 (fun a ha=>TE.rate HRT.out.1 HRT.out.2 ha)).mono ?_;rintro e w1 ⟨v,rfl,hf,h,_⟩;go_wp2;go_ret;exact hf
 ·obtain⟨rfl,rfl⟩:=ht.tru;go_wp2_with fail;refine (h.next 5 (by omega) (by omega)).mono ?_;rintro e w1 ⟨r2,hr2,rfl,h',_⟩;clear h hc;have h:=h';have hc:=h.cells;clear h';rcases (by omega:r2=0∨r2=1∨r2=2∨r2=3∨r2=4) with rfl|rfl|rfl|rfl|rfl
  iterate 2
   ·go_wp2_with fail;refine (h.next 3 (by omega) (by omega)).mono ?_;rintro e w1 ⟨r3,hr3,rfl,h',_⟩;clear h hc;have h:=h';have hc:=h.cells;clear h';have hr3':r3<3:=by omega
    go_wp2_with fail;refine (wKind_any (r3:Int) (by omega) (by omega) _).mono ?_;rintro e w1 ⟨t2,m2,d2,rfl,hT2,hb⟩;obtain⟨rfl,hT2⟩:=hT2.lo hr3';have h':=h.below hb;clear hb;clear h hc;have h:=h';have hc:=h.cells;clear h'
    go_upto_region 9 with fail
    generalize hX:w1.alloc _=X;obtain⟨hk,hb⟩:=zA hX;have hN:=h.ds.lt;have h':=h.below hb;generalize w1.heap.size=N at hk hN⊢;clear hX hb;clear h hc;have h:=h';have hc:=h.cells;clear h';go_wp2_with fail;refine (h.next 2 (by omega) (by omega)).mono ?_;rintro e w2 ⟨r4,hr4,rfl,h',ho⟩;have hk:=ho.blk hk (by omega);clear ho;clear h hc;have h:=h';have hc:=h.cells;clear h';have hCS:=fun X (h:MS w B D u A k l true 0 0 X/\Blk X N 34 [.bool false,.int .i64 m2,.int .i64 d2])=>And.intro (h.2.cells 0) (And.intro (h.2.cells 1) (h.2.cells 2))
    have hq:∃q,q=16+(r4:Int):=⟨_,rfl⟩
    go_upto_region 10 with fail
    refine reS (fun X=>MS w B D u A k l true 0 0 X/\Blk X N 34 [.bool false,.int .i64 m2,.int .i64 d2]) 99 ⟨h.below (drewN_below _ _ 1),hk.drew⟩ (fun w1 _ h=>?_)
    iterate 6 refine reA ?_
    refine reZ 7 ?_;refine reZ 8 ?_;refine reZ 9 ?_;refine reZ 10 ?_;refine reC 6 (h.1.made HM c false m2 d2 hT2) ?_;rintro e w1 ⟨r5,rfl,qr5,h',ho⟩;refine⟨_,rfl,⟨h',ho.blk h.2 (by omega)⟩,fun h=>?_⟩;clear ho;refine reC 11 (h.1.made HM c false m2 d2 hT2) ?_;rintro e w1 ⟨r6,rfl,qr6,h',ho⟩;replace qr5:=qr5.onl ho h'.hD;refine⟨_,rfl,⟨h',ho.blk h.2 (by omega)⟩,fun h=>?_⟩;clear ho;refine reV 12 (fun _=>⟨h.1.below (zB _ _),h.2.alloc _⟩) (fun _=>?_);refine reC 13 (h.1.a2 hK2 qr5 qr6 (fun a b ha hb=>TE.cmp (op:=16+(r4:Int)) (by omega) rfl ha hb)) ?_;rintro e w1 ⟨v,rfl,hf,h',hb⟩;refine⟨_,rfl,⟨h',h.2.below hb h.2.lt⟩,fun h=>?_⟩;refine reZ 14 ?_;refine reE ?_;go_wp2;go_ret;exact hf
  ·go_wp2_with fail;refine (h.made HM c true 0 0 TyK.truth).mono ?_;rintro e w1 ⟨r5,rfl,qr5,h',ho⟩;clear h hc ho;have h:=h';have hc:=h.cells;clear h';go_wp2_with fail;refine (h.a1 hK2 qr5 (fun a ha=>TE.not ha)).mono ?_;rintro e w1 ⟨v,rfl,hf,h,_⟩;go_wp2;go_ret;exact hf
  ·have hCS:=fun X (h:MS w B D u A k l true 0 0 X)=>h.cells
   go_upto_region 14 with fail
   refine reS (MS w B D u A k l true 0 0) 99 (h.below (drewN_below _ _ 1)) (fun w1 _ h=>?_)
   iterate 5 refine reA ?_
   refine reZ 6 ?_;refine reZ 7 ?_;refine reZ 8 ?_;refine reZ 9 ?_;refine reZ 11 ?_;refine reZ 12 ?_;refine reZ 13 ?_;refine reZ 14 ?_;refine reC 5 (h.made HM c true 0 0 TyK.truth) ?_;rintro e w1 ⟨r5,rfl,qr5,h,ho⟩;refine⟨_,rfl,h,fun h=>?_⟩;refine reC 10 (h.made HM c true 0 0 TyK.truth) ?_;rintro e w1 ⟨r6,rfl,qr6,h,ho⟩;replace qr5:=qr5.onl ho h.hD;refine⟨_,rfl,h,fun h=>?_⟩;refine reC 15 (h.made HM c true 0 0 TyK.truth) ?_;rintro e w1 ⟨r7,rfl,qr7,h,ho⟩;replace qr5:=qr5.onl ho h.hD;replace qr6:=qr6.onl ho h.hD;refine⟨_,rfl,h,fun h=>?_⟩;refine reV 16 (fun _=>h.below (zB _ _)) (fun _=>?_);refine reC 17 (h.a3 hK2 qr5 qr6 qr7 (fun a b c' ha hb hc=>TE.cond ha hb hc)) ?_;rintro e w1 ⟨v,rfl,hf,h,_⟩;refine⟨_,rfl,h,fun h=>?_⟩;refine reZ 18 ?_;refine reE ?_;go_wp2;go_ret;exact hf
  ·have hCS:=fun X (h:MS w B D u A k l true 0 0 X)=>h.cells
   go_upto_region 15 with fail
   refine reS (MS w B D u A k l true 0 0) 99 (h.below (drewN_below _ _ 1)) (fun w1 _ h=>?_)
   iterate 1 refine reA ?_
   refine reZ 4 ?_;refine reZ 5 ?_;refine reZ 6 ?_;refine reZ 7 ?_;refine reZ 9 ?_;refine reZ 10 ?_;refine reZ 11 ?_;refine reZ 12 ?_;refine reC 1 (h.next 2 (by omega) (by omega)) ?_;rintro e w1 ⟨r3,hr3,rfl,h,_⟩;have hw:IntKind.i64.wrap (18+(r3:Int))=18+(r3:Int):=IntWalk.i64_in _ (by omega);refine⟨_,rfl,h,fun h=>?_⟩;refine reZ 2 ?_;refine reZ 3 ?_;refine reC 8 (h.made HM c true 0 0 TyK.truth) ?_;rintro e w1 ⟨r5,rfl,qr5,h,ho⟩;refine⟨_,rfl,h,fun h=>?_⟩;refine reC 13 (h.made HM c true 0 0 TyK.truth) ?_;rintro e w1 ⟨r6,rfl,qr6,h,ho⟩;replace qr5:=qr5.onl ho h.hD;refine⟨_,rfl,h,fun h=>?_⟩;refine reV 14 (fun _=>h.below (zB _ _)) (fun _=>?_);refine reC 15 (h.a2 hK2 qr5 qr6 (fun a b ha hb=>TE.and (op:=18+(r3:Int)) (by omega) ha hb)) ?_;rintro e w1 ⟨v,rfl,hf,h,_⟩;refine⟨_,rfl,h,fun h=>?_⟩;refine reZ 16 ?_;refine reE ?_;go_wp2;go_ret;exact hf
structure IR (w:World) (u:Nat) (r:List Int × Hd):Prop where
 len:r.2.n=r.1.length
 cap:r.2.n<=r.2.c
 max:r.2.c<=maxLen
 rd:Rd w r.2.a (zvs r.1)
 rng:∀x∈r.1,-9223372036854775808<=x/\x<=9223372036854775807
 lt:r.1≠[]->∀ad,r.2.a=some ad->ad.block<u
def rowV (r:List Int × Hd):List Value:=[.slice r.2.a r.2.n r.2.c]
theorem IR.below {w w':World} {u:Nat} {r:List Int × Hd} (h:IR w u r) (hb:Below w.heap.size w w'):IR w' u r:=⟨h.len,h.cap,h.max,h.rd.below hb,h.rng,h.lt⟩
theorem wlist_any (xs:List (List Int × Hd)) (h:Hd) (i u:Nat) (w:World) (hr:RowAt w rowV xs h) (hi:∀r∈xs,IR w u r):
  Calls Tryz.prog 51 #[.slice h.a h.n h.c,.int .i64 (i:Int)] w fun e w'=>∃r,e=.returned (.slice r.2.a r.2.n r.2.c)/\IR w u r/\w=w':=by
 obtain⟨a,n,c⟩:=h;have hlen:=hr.len;simp only at hlen⊢;by_cases hlt:i<xs.length
 ·obtain⟨b,off,hA,hb,hc⟩:=Rd.row rowV 1 (fun _=>rfl) (by omega) hr.rd hlt;simp only at hA;subst hA;have HX:=zH (hi _ (List.getElem_mem hlt));have hc0:=hc 0 _ rfl;rw[Nat.mul_one,Nat.add_zero] at hc0;have h0:(0:Int)<=(i:Int):=by omega
  have h1:(i:Int)<(n:Int):=by omega
  clear hc hr hi;generalize xs[i]=r at*;obtain⟨l,⟨ra,rn,rc⟩⟩:=r;simp only at hc0;go_enter Tryz.func51,Tryz.ntmps51;go_wp2;go_ret;exact⟨(l,⟨ra,rn,rc⟩),rfl,HX.out,rfl⟩
 ·have h1:¬(i:Int)<(n:Int):=by omega
  clear hr hi;go_enter Tryz.func51,Tryz.ntmps51;go_wp2;go_ret;exact⟨[],⟨none,0,0⟩,rfl,⟨rfl,Nat.le_refl _,Nat.zero_le _,.inl rfl,fun _ h=>(by cases h),fun h=>absurd rfl h⟩,rfl⟩
def six2:List ByteArray:=[⟨#[98,97,115,101]⟩,⟨#[114,101,108,105,101,102]⟩,⟨#[99,114,101,100,105,116]⟩,⟨#[116,104,114,101,115,104,111,108,100]⟩,⟨#[116,97,120]⟩,⟨#[116,111,116,97,108]⟩]
theorem wrank_any (nm:ByteArray) (w:World):Calls Tryz.prog 104 #[.string nm] w fun e w'=>∃r:Int,e=.returned (.int .i64 r)/\Below w.heap.size w w':=by
 go_enter Tryz.func104,Tryz.ntmps104
 go_upto_region 1 with fail
 go_cut [3] from 5 to 6 (fun av wc=>∃X,av=.pointer (some ⟨X,0,none⟩)/\Hid (Blk wc X 114 (six2.map Value.string))/\Hid (Below w.heap.size w wc))
 case first=>
  go_wp2
  go_meet
  case rel=>exact⟨_,rfl,Blk.new w 114 (six2.map Value.string).toArray,zB w _⟩
 case rest=>
  obtain⟨X,rfl,HX,HBC⟩:=hcut;go_wp2
  go_loopg [4] 6 (fun g iv wr=>∃j:Nat,j+g=6/\iv=.int .i64 j/\wr=wc)
  case atStart=>exact⟨0,by omega,rfl,rfl⟩
  case round=>
   obtain⟨j,hj,rfl,rfl⟩:=hrel;by_cases hlt:j<6
   ·have hc:=HX.out.cells j;rw[List.getElem?_map,List.getElem?_eq_getElem (show j<six2.length from hlt),Option.map_some] at hc;generalize six2[j]'(show j<six2.length from hlt)=s at*;have h0:(0:Int)<=(j:Int):=by omega
    have h1:(j:Int)<6:=by omega
    by_cases h2:s=nm
    ·subst h2;go_wp2;go_ret;exact⟨_,rfl,HBC.out⟩
    ·have h2b:¬(s.toList=nm.toList):=fun h=>h2 (by rw[ByteArray.toList_eq,ByteArray.toList_eq] at h;exact ByteArray.ext (Array.toList_inj.1 h))
     have h2c:(s.toList==nm.toList)=false:=beq_eq_false_iff_ne.2 h2b;go_wp2
     go_roundg (6-(j+1))
     case measure=>omega
     case rel=>exact⟨j+1,by omega,by go_num,rfl⟩
   ·obtain rfl:j=6:=by omega
    go_wp2;go_ret;exact⟨_,rfl,HBC.out⟩
theorem wFind11_any (xs:List (Pv × Hd)) (f s p:Hd) (nm:ByteArray) (w:World) (hr:RowAt w pvCells xs p):
  Calls Tryz.prog 58 #[lawV f s p,.string nm] w fun e w'=>∃(i:Nat) (o:Bool),e=.returned (.tuple #[.int .i64 i,.bool o])/\(o=true->∃h:i<xs.length,xs[i].1.name=nm)/\Below w.heap.size w w':=by
 obtain⟨fa,fn,fc⟩:=f;obtain⟨sa,sn,sc⟩:=s;obtain⟨pa,pn,pc⟩:=p;unfold lawV;simp only
 have hn:pn=xs.length:=hr.len;have hm:pn<=maxLen:=Nat.le_trans hr.cap hr.max;unfold maxLen at hm;obtain⟨W,hW⟩:=zE (w.alloc (.cells #[.slice fa fn fc,.slice sa sn sc,.slice pa pn pc] 28));obtain⟨B,hB⟩:=zE w.heap.size;have HK:Hid (Blk W B 28 [.slice fa fn fc,.slice sa sn sc,.slice pa pn pc]):=by show Blk _ _ _ _;rw[hW,hB];exact Blk.new w _ _
 have HBW:Hid (Below w.heap.size w W):=by show Below _ _ _;rw[hW];exact zB _ _
 have HR:=zH (hr.below HBW.out).rd;have hkc:=HK.out.cells;have HN:=zH hn;clear hr hn;go_enter Tryz.func58,Tryz.ntmps58
 go_upto_region 1 with fail
 simp only[<-hW,<-hB]
 clear hW hB;go_wp2
 go_loopg [6] pn (fun g iv wr=>∃j:Nat,j+g=pn/\iv=.int .i64 j/\wr=W)
 case atStart=>exact⟨0,by omega,rfl,rfl⟩
 case round=>
  obtain⟨j,hj,rfl,rfl⟩:=hrel;by_cases hlt:j<pn
  ·obtain⟨b,off,hA,hb,hc⟩:=Rd.row pvCells 12 (fun _=>rfl) (by omega) HR.out (show j<xs.length by rw[<-HN.out];exact hlt);subst hA;have hc0:=hc 0 _ rfl;rw[Nat.add_zero] at hc0;have HX:Hid (∃h:j<xs.length,xs[j].1.name=(xs[j]'(show j<xs.length by rw[<-HN.out];exact hlt)).1.name):=⟨by rw[<-HN.out];exact hlt,rfl⟩
   generalize (xs[j]'(show j<xs.length by rw[<-HN.out];exact hlt)).1.name=s at hc0 HX⊢;clear hc;have h0:(0:Int)<=(j:Int):=by omega
   have h1:(j:Int)<(pn:Int):=by omega
   by_cases h2:s=nm
   ·subst h2;go_wp2;go_ret2;exact⟨j,true,rfl,fun _=>HX.out,HBW.out⟩
   ·have h2b:¬(s.toList=nm.toList):=fun h=>h2 (by rw[ByteArray.toList_eq,ByteArray.toList_eq] at h;exact ByteArray.ext (Array.toList_inj.1 h))
    have h2c:(s.toList==nm.toList)=false:=beq_eq_false_iff_ne.2 h2b;go_wp2
    go_roundg (pn-(j+1))
    case measure=>omega
    case rel=>exact⟨j+1,by omega,by go_num,rfl⟩
  ·obtain rfl:j=pn:=by omega
   go_wp2;go_ret2;exact⟨0,false,rfl,fun h=>(by cases h),HBW.out⟩
theorem wbefore_any (l:List Sg) (A:Option Addr) (k c:Nat) (nm:ByteArray) (fr:Bool) (w:World) (hk:k=l.length) (hm:k<=1000) (hr:Rd w A (sgs l)):
  Calls Tryz.prog 57 #[.slice A k c,.string nm,.bool fr] w fun e w'=>∃v sg,e=.returned v/\sg.length<=1000/\sg.Sublist l/\w'.ownsRow w.heap.size 102 5 v sg.length (sgs sg)/\Below w.heap.size w w':=by
 have HR:=zH hr;have HKL:=zH hk;have HRN:=zH (fun s W=>wrank_any s W);clear hr hk;go_enter Tryz.func57,Tryz.ntmps57;go_wp2
 go_loopg [7,8] k (fun g ov iv wr=>∃(j:Nat) (ns:List Sg),j+g=k/\iv=.int .i64 j/\Hid (wr.ownsRow w.heap.size 102 5 ov ns.length (sgs ns))/\ns.length<=j/\Hid (ns.Sublist (l.take j))/\Hid (Below w.heap.size w wr))
 case atStart=>exact⟨0,[],by omega,rfl,World.ownsRow_nil _ _ _ _,Nat.le_refl _,List.nil_sublist _,Below.refl _ _⟩
 case round=>
  obtain⟨j,ns,hj,rfl,hown,hol,hsb,hbr⟩:=hrel;by_cases hlt:j<k
  ·obtain⟨b,off,hA,hb,hc⟩:=Rd.row Sg.cells 5 (fun _=>rfl) (by omega) HR.out (show j<l.length by rw[<-HKL.out];exact hlt);subst hA;have HTK:=zH (List.take_succ_eq_append_getElem (show j<l.length by rw[<-HKL.out];exact hlt));generalize l[j]'(show j<l.length by rw[<-HKL.out];exact hlt)=s at*;obtain⟨sop,snm,⟨st,sm,sd⟩⟩:=s;have HC:Hid (∀X,Below w.heap.size w X->∀i v,(Sg.cells ⟨sop,snm,⟨st,sm,sd⟩⟩)[i]?=some v->X.cell? ⟨b,off+j*5+i,none⟩=some v):=fun X hX i v hv=>(hX.cell (p:=⟨b,off+j*5+i,none⟩) hb).trans (hc i v hv)
   have hj0:(0:Int)<=(j:Int):=by omega
   have hj1:(j:Int)<(k:Int):=by omega
   clear hb hc;have d0:=HC.out _ hbr.out 0 _ rfl;have d1:=HC.out _ hbr.out 1 _ rfl;rw[Nat.add_zero] at d0
   go_upto_region 5 with fail
   go_cut [9] from 16 to 41 (fun lv wc=>∃q,lv=.bool q/\Hid (Below wr.heap.size wr wc))
   case first=>
    by_cases h6:sop=6
    ·subst h6;go_wp2_with fail;refine (HRN.out snm wr).mono ?_;rintro e w1 ⟨r1,rfl,hb1⟩;go_wp2_with fail;refine (HRN.out nm w1).mono ?_;rintro e w2 ⟨r2,rfl,hb2⟩;have HB2:=zH (bstep hb1 hb2);clear hb1 hb2;by_cases hrr:r1≥r2
     all_goals
      go_wp2
      go_meet
     all_goals (case rel=>exact⟨_,rfl,HB2⟩)
    ·have h6b:(sop==6)=false:=beq_eq_false_iff_ne.2 h6;by_cases h8:sop=8
     ·subst h8;go_wp2_with fail;refine (HRN.out snm wr).mono ?_;rintro e w1 ⟨r1,rfl,hb1⟩;go_wp2_with fail;refine (HRN.out nm w1).mono ?_;rintro e w2 ⟨r2,rfl,hb2⟩;have HB2:=zH (bstep hb1 hb2);clear hb1 hb2;by_cases hrr:r1≥r2
      all_goals
       go_wp2
       go_meet
      all_goals (case rel=>exact⟨_,rfl,HB2⟩)
     ·have h8b:(sop==8)=false:=beq_eq_false_iff_ne.2 h8;go_wp2
      go_meet
      case rel=>exact⟨_,rfl,Below.refl _ _⟩
   case rest=>
    obtain⟨q,rfl,hbc⟩:=hcut;have HBC:=zH (hbr.out.trans (hbc.out.mono hbr.out.size));have HOWN:=zH (own_below hown.out hbc.out);clear d0 d1 hown hbr hbc;have d0:=HC.out _ HBC.out 0 _ rfl;have d1:=HC.out _ HBC.out 1 _ rfl;have d2:=HC.out _ HBC.out 2 _ rfl;have d3:=HC.out _ HBC.out 3 _ rfl;have d4:=HC.out _ HBC.out 4 _ rfl;rw[Nat.add_zero] at d0;have hcz:=HBC.out.size;by_cases hall:fr=true∨q=false
    ·have hqq:(fr|| !q)=true:=by rcases hall with rfl|rfl<;>simp
     cases fr<;>cases q
     all_goals try exact absurd hqq (by decide)
     all_goals
      clear hqq hall;go_wp2_with (at_builtin;go_must (refine wpList_push wc #[.int .i64 sop,.string snm,.bool st,.int .i64 sm,.int .i64 sd] rfl _ _ 61 rfl w.heap.size 102 _ 5 48 1 Tryz.underlying61 info_sig rfl (by decide) u7 ns.length (sgs ns) rfl HOWN.out (by rfl) rfl ?_ ?_ ?_ ?_ ?_))
      any_goals first|(unfold maxLen;omega)|omega
      ·exact⟨rfl,rfl,rfl,rfl,rfl⟩
      intro v' w' hown' hb';have HO9:=zH hown';have HB9:=zH (HBC.out.trans hb');clear hown' hb' d0 d1 d2 d3 d4;go_wp2
      go_roundg (k-(j+1))
     all_goals first|(case measure=>omega)|(case rel=>
      refine⟨j+1,ns++[(⟨sop,snm,⟨st,sm,sd⟩⟩:Sg)],by omega,by go_num,?_,by simp;omega,by show List.Sublist _ _;rw[HTK.out];exact hsb.out.append (List.Sublist.refl _),HB9⟩;show World.ownsRow _ _ _ _ _ _ _;rw[sgs_append,List.length_append];exact HO9.out)
    ·obtain⟨rfl,rfl⟩:fr=false/\q=true:=by cases fr<;>cases q<;>simp at hall⊢
     clear hall;go_wp2
     go_roundg (k-(j+1))
     case measure=>omega
     case rel=>exact⟨j+1,ns,by omega,by go_num,HOWN,by omega,by show List.Sublist _ _;rw[HTK.out];exact hsb.out.trans (List.sublist_append_left _ _),HBC⟩
  ·obtain rfl:j=k:=by omega
   go_wp2;go_ret;exact⟨_,ns,rfl,by omega,by have h:=hsb.out;rw[HKL.out,List.take_length] at h;exact h,hown.out,hbr.out⟩
theorem made2:MadeC 13 2:=wmade_step 1 4 (by omega) (by omega) (by omega) (wmade_step 0 1 (by omega) (by omega) (by omega) (wmade_zero 0 (by omega) 1))
theorem wMade8_any (l:List Sg) (A:Option Addr) (k c:Nat) (r:List Int × Hd) (t:Bool) (m d:Int) (w:World) (hk:k=l.length) (hm:k<=1000) (hr:Rd w A (sgs l)) (hA:∀ad,A=some ad->ad.block<w.heap.size) (hi:IR w w.heap.size r) (hn:∀s∈l,nameOk s.name=true) (ht:TyK 5 t m d):
  Calls Tryz.prog 56 #[.slice A k c,.agg #[.bool t,.int .i64 m,.int .i64 d],.slice r.2.a r.2.n r.2.c] w (NsRet (TK l t m d 13) w):=by
 go_enter Tryz.func56,Tryz.ntmps56
 go_upto_region 1 with fail
 generalize hW:w.alloc _=W;obtain⟨hb,hg⟩:=zA hW;have hBD:w.heap.size<W.heap.size:=hb.lt;clear hW;generalize hB:w.heap.size=B at hb hBD⊢
 go_upto_region 2 with fail
 generalize hW:W.alloc _=W2;obtain⟨hd0,hg2⟩:=zA hW;have hb:=hb.below hg2 hb.lt;have hg3:=bstep hg hg2;have hs:SgR W2 W.heap.size A k l:=⟨hk,hm,hr.below hg3,fun ad e=>by have:=hA ad e;have:=hg.size;omega,hn⟩
 have hds:DS W2 W.heap.size (W.heap.size+1):=⟨_,_,_,_,0,⟨hd0,hi.len,Nat.le_trans hi.cap hi.max,hi.rd.below hg3,hi.rng,fun hn ad e=>by have:=hi.lt hn ad e;have:=hg.size;omega,Nat.zero_le _⟩,Nat.lt_succ_self _,fun hn ad e=>by have:=hi.lt hn ad e;have:=hg.size;omega⟩
 have hu:W.heap.size+1<=W2.heap.size:=hd0.lt;have hwD:=hg.size;clear hW hk hm hr hA hi hn hd0 hg hg2;generalize W.heap.size=D at hs hds hu hBD hwD⊢;have hc:=fun X (h:Below W2.heap.size W2 X)=>And.intro ((hb.below h hb.lt).cells 0) (And.intro ((hb.below h hb.lt).cells 1) ((hb.below h hb.lt).cells 2))
 have hb2:=Below.refl W2.heap.size W2
 go_upto_region 3 with fail
 go_cut [29] from 12 to 28 (fun lv X=>(∃q:Bool,lv=.bool q/\Hid (q=false->TyK 1 t m d))/\Below W2.heap.size W2 X)
 case first=>
  refine reS (Below W2.heap.size W2) 99 hb2.drew (fun w1 _ hS=>?_);cases t
  ·refine reZ 0 ?_;refine reZ 1 ?_;refine reZ 2 ?_;refine reZ 3 ?_;refine reZ 4 ?_;refine reC 5 (wKind_any 0 (by omega) (by omega) _) ?_;rintro e w1 ⟨t1,m1,d1,rfl,hT,hb⟩;obtain⟨rfl,hT⟩:=K5.lo (r:=0) hT (by omega);refine⟨_,rfl,bstep hS hb,fun hS=>?_⟩;clear hb;obtain⟨q1,hq1⟩:=zF (!decide ((⟨false,m,d⟩:Ty)=⟨false,m1,d1⟩));have HE:=fun W=>neq_ty ⟨false,m,d⟩ ⟨false,m1,d1⟩ W
   simp only[hq1,Ty.v] at HE
   have HQ1:Hid (q1=false->TyK 1 false m d):=fun h=>by
    obtain⟨rfl,rfl⟩:m=m1/\d=d1:=by simpa using hq1.trans h
    exact hT
   clear hq1 hT;refine reZ 6 ?_;clear HE;cases q1
   ·refine reZ 7 ?_;refine reZ 8 ?_;refine reN 9 ?_;refine reN 10 ?_;refine reN 11 ?_;refine reZ 12 ?_;refine reZ 13 ?_;refine reN 14 ?_;refine reN 15 ?_;refine reN 16 ?_;refine reZ 17 ?_;refine reE ?_;go_wp2
    go_meet
    case rel=>exact⟨⟨_,rfl,fun _=>HQ1.out trivial⟩,hS⟩
   ·refine reZ 7 ?_;refine reZ 8 ?_;refine reZ 9 ?_;refine reC 10 (wKind_any 1 (by omega) (by omega) _) ?_;rintro e w1 ⟨t2,m2,d2,rfl,hT,hb⟩;obtain⟨rfl,hT⟩:=K5.lo (r:=1) hT (by omega);refine⟨_,rfl,bstep hS hb,fun hS=>?_⟩;clear hb;obtain⟨q2,hq2⟩:=zF (!decide ((⟨false,m,d⟩:Ty)=⟨false,m2,d2⟩));have HE:=fun W=>neq_ty ⟨false,m,d⟩ ⟨false,m2,d2⟩ W
    simp only[hq2,Ty.v] at HE
    have HQ2:Hid (q2=false->TyK 1 false m d):=fun h=>by
     obtain⟨rfl,rfl⟩:m=m2/\d=d2:=by simpa using hq2.trans h
     exact hT
    clear hq2 hT;refine reZ 11 ?_;clear HE;cases q2
    ·refine reZ 12 ?_;refine reZ 13 ?_;refine reN 14 ?_;refine reN 15 ?_;refine reN 16 ?_;refine reZ 17 ?_;refine reE ?_;go_wp2
     go_meet
     case rel=>exact⟨⟨_,rfl,fun _=>HQ2.out trivial⟩,hS⟩
    ·refine reZ 12 ?_;refine reZ 13 ?_;refine reZ 14 ?_;refine reC 15 (wKind_any 2 (by omega) (by omega) _) ?_;rintro e w1 ⟨t3,m3,d3,rfl,hT,hb⟩;obtain⟨rfl,hT⟩:=K5.lo (r:=2) hT (by omega);refine⟨_,rfl,bstep hS hb,fun hS=>?_⟩;clear hb;obtain⟨q3,hq3⟩:=zF (!decide ((⟨false,m,d⟩:Ty)=⟨false,m3,d3⟩));have HE:=fun W=>neq_ty ⟨false,m,d⟩ ⟨false,m3,d3⟩ W
     simp only[hq3,Ty.v] at HE
     have HQ3:Hid (q3=false->TyK 1 false m d):=fun h=>by
      obtain⟨rfl,rfl⟩:m=m3/\d=d3:=by simpa using hq3.trans h
      exact hT
     clear hq3 hT;refine reZ 16 ?_;clear HE;cases q3
     ·refine reZ 17 ?_;refine reE ?_;go_wp2
      go_meet
      case rel=>exact⟨⟨_,rfl,fun _=>HQ3.out trivial⟩,hS⟩
     ·refine reZ 17 ?_;refine reE ?_;go_wp2
      go_meet
      case rel=>exact⟨⟨_,rfl,fun h=>by cases h⟩,hS⟩
  ·refine reZ 0 ?_;refine reZ 1 ?_;refine reZ 2 ?_;refine reZ 3 ?_;refine reN 4 ?_;refine reN 5 ?_;refine reN 6 ?_;refine reZ 7 ?_;refine reZ 8 ?_;refine reN 9 ?_;refine reN 10 ?_;refine reN 11 ?_;refine reZ 12 ?_;refine reZ 13 ?_;refine reN 14 ?_;refine reN 15 ?_;refine reN 16 ?_;refine reZ 17 ?_;refine reE ?_;go_wp2
   go_meet
   case rel=>exact⟨⟨_,rfl,fun _=>.inl ⟨Nat.le_refl _,rfl,ht.tru⟩⟩,hS⟩
 case rest=>
  obtain⟨⟨q,rfl,HQ⟩,hX⟩:=hcut;obtain⟨c0,c1,c2⟩:=hc _ hX;clear hc;cases q
  ·go_wp2_with fail;refine (made2 l A k c D (D+1) t m d wc (hs.onl (Onl.of_below hX)) (hds.below hX) (Nat.le_trans hu hX.size) (HQ.out trivial)).mono ?_;rintro e w1 ⟨v,ns,rfl,h1,h2,h3,h4⟩;go_wp2;go_ret;exact⟨v,ns,rfl,h1,own_lower h2 (Nat.le_trans hg3.size hX.size),(bstep hg3 hX).trans (h4.below hwD (Nat.le_trans hg3.size hX.size))⟩
  ·go_wp2_with fail;refine (wmade_zero 0 (by omega) 13 l A k c D (D+1) t m d wc (hs.onl (Onl.of_below hX)) (hds.below hX) (Nat.le_trans hu hX.size) (ht.mono (by omega))).mono ?_;rintro e w1 ⟨v,ns,rfl,h1,h2,h3,h4⟩;go_wp2;go_ret;exact⟨v,ns,rfl,h1,own_lower h2 (Nat.le_trans hg3.size hX.size),(bstep hg3 hX).trans (h4.below hwD (Nat.le_trans hg3.size hX.size))⟩
def SV (w0:World) (R:Nat) (fv sv pv:Value) (X:World):Prop:=Blk X R 28 [fv,sv,pv]/\Below w0.heap.size w0 X
section
variable {w0 X X':World} {R:Nat} {l:Lw} {ss:List (Sc × Hd)} {ps:List (Pv × Hd)} {fv sv pv v:Value} {e:TypeId} {s n:Nat} {xs:List Value}
theorem PT.svd (h:PT w0 X R l ss ps fv sv pv):SV w0 R fv sv pv X.drew:=⟨h.blk.drew,h.bl.drew⟩
theorem PT.hR (h:PT w0 X R l ss ps fv sv pv):R+1<=X.heap.size:=h.blk.lt
theorem PT.grow (h:PT w0 X R l ss ps fv sv pv) (ho:X.ownsRow (R+1) e s v n xs) (he:28≠e) (hg:X.grownBy X' v.ownBlock):SV w0 R fv sv pv X':=
 ⟨(TF.grown ho hg).blk h.blk he,h.bl.grown hg h.bl.size (fun k hk=>by have h1:=(ho.lt k hk).1;have h2:=h.r;omega)⟩
end
theorem SV.alloc {w0 X:World} {R:Nat} {fv sv pv:Value} (h:SV w0 R fv sv pv X) (o:Obj):SV w0 R fv sv pv (X.alloc o):=⟨h.1.alloc o,h.2.alloc h.2.size o⟩
structure IS (W X:World) (t:TypeId) (cs:List Value) (e:TypeId) (s:Nat) (v:Value) (n:Nat) (xs:List Value):Prop where
 bl:Below W.heap.size W X
 b:Blk X W.heap.size t cs
 o:X.ownsRow (W.heap.size+1) e s v n xs
section
variable {W X X':World} {t:TypeId} {cs:List Value} {e:TypeId} {s n:Nat} {v v':Value} {xs ys:List Value}
theorem IS.below (h:IS W X t cs e s v n xs) (hb:Below X.heap.size X X'):IS W X' t cs e s v n xs:=⟨bstep h.bl hb,h.b.below hb h.b.lt,own_below h.o hb⟩
theorem IS.hW (h:IS W X t cs e s v n xs):W.heap.size+1<=X.heap.size:=h.b.lt
theorem IS.blk (h:IS W X t cs e s v n xs) (he:t≠e) (hg:X.grownBy X' v.ownBlock):Blk X' W.heap.size t cs:=(TF.grown h.o hg).blk h.b he
theorem IS.blg (h:IS W X t cs e s v n xs) (hg:X.grownBy X' v.ownBlock):Below W.heap.size W X':=h.bl.grown hg h.bl.size (fun k hk=>by have h1:=(h.o.lt k hk).1;omega)
theorem IS.push (h:IS W X t cs e s v n xs) (he:t≠e) (hg:X.grownBy X' v.ownBlock) (ho:X'.ownsRow (W.heap.size+1) e s v' (n+1) ys) (i:Nat):IS W (X'.setCell ⟨W.heap.size,i,none⟩ v') t (cs.set i v') e s v' (n+1) ys:=
 ⟨(h.blg hg).setCell (p:=⟨W.heap.size,i,none⟩) (Nat.le_refl _) _,(h.blk he hg).set i v',own_set ho i v'⟩
theorem IS.put (h:IS W X t cs e s v n xs) (i:Nat) (u:Value):IS W (X.setCell ⟨W.heap.size,i,none⟩ u) t (cs.set i u) e s v n xs:=
 ⟨h.bl.setCell (p:=⟨W.heap.size,i,none⟩) (Nat.le_refl _) _,h.b.set i u,own_set h.o i u⟩
end
theorem blk_gr {w w':World} {b:Nat} {t:TypeId} {cs:List Value} {v:Option Nat} (hb:Blk w b t cs) (hg:w.grownBy w' v) (hl:∀k,v=some k->k<b):Blk w' b t cs:=hb.of_block (hg.block b hb.lt (fun e=>Nat.lt_irrefl _ (hl b e.symm)))
def sFact:ByteArray:=⟨#[102,97,99,116,32]⟩
def sSch:ByteArray:=⟨#[115,99,104,101,100,117,108,101,32]⟩
def sPrv:ByteArray:=⟨#[112,114,111,118,105,115,105,111,110,32]⟩
def sChg:ByteArray:=⟨#[32,99,104,97,114,103,101]⟩
def sStp:ByteArray:=⟨#[32,115,116,101,112,32]⟩
def sCap:ByteArray:=⟨#[32,99,97,112,32]⟩
def sSp:ByteArray:=⟨#[32]⟩
def sNl:ByteArray:=⟨#[10]⟩
def sCs:ByteArray:=⟨#[58,32]⟩
def sSep (k:Nat):ByteArray:=if k=0 then ⟨#[58]⟩ else ⟨#[44]⟩
def bodyT (e:List Nd):ByteArray:=⟨(if checkE e=0 then textE e else []).toArray⟩
def declW (d:Dc):List ByteArray:=[sFact,d.name,sSp,tyText d.ty,sNl]
def schW (s:Sc):List ByteArray:=[sSch,s.name,sSp,tyText ⟨false,s.money,s.days⟩]
def bkW (k:Nat) (b:Bk):List ByteArray:=[sSep k,sSp,textR b.fr,sSp,textR b.rt]
def bksL:Nat->List Bk->List UInt8
 |_,[]=>[]
 |k,b::r=>bytesL (bkW k b)++bksL (k+1) r
def schL (s:Sc):List UInt8:=bytesL (schW s)++bksL 0 s.brs++bytesL [sNl]
def pvW (p:Pv):List ByteArray:=[sPrv,p.name,sSp,tyText p.ty]
def stW (p:Pv):List ByteArray:=[sStp,textR p.step,sCap,textR p.cap]
def pvL (p:Pv):List UInt8:=bytesL (pvW p)++(if p.charge then bytesL [sChg] else [])++(if plainP p then [] else bytesL (stW p))++bytesL [sCs,bodyT p.body,sNl]
def declL (d:Dc):List UInt8:=bytesL (declW d)
def textL (l:Lw):List UInt8:=l.facts.flatMap declL++l.schs.flatMap schL++l.provs.flatMap pvL
structure WS (B b:Nat) (w0 w:World) (bs:List UInt8):Prop where
 ib:Lib.IsBuilder 80 5 B b (lc bs) w
 bl:Below B w0 w
 hb:B<=w0.heap.size
theorem WS.size {B b:Nat} {w0 w:World} {bs:List UInt8} (h:WS B b w0 w bs):B<=w.heap.size:=Nat.le_trans h.hb h.bl.size
theorem WS.grow {B b:Nat} {w0 w w':World} {bs:List UInt8} (h:WS B b w0 w bs) (hb:Below w.heap.size w w'):WS B b w0 w' bs:=
 ⟨isb_below h.ib hb,h.bl.trans (hb.mono h.size),h.hb⟩
theorem WS.lt {B b:Nat} {w0 w:World} {bs:List UInt8} (h:WS B b w0 w bs):b<w.heap.size:=isb_lt h.ib
theorem WS.words {B b:Nat} {w0 w:World} {bs:List UInt8} (h:WS B b w0 w bs) (l:List ByteArray) (g n:Nat) (hg:Blk w g 9 (strs l)) (hgb:b<g) (hn:n=l.length) (hm:n<=1000) (h0:l≠[]) (hlen:bs.length+(bytesL l).length<=100000000000000):
  Calls Tryz.prog 81 #[.pointer (some ⟨b,0,none⟩),.slice (some ⟨g,0,none⟩) n n] w fun e w'=>e=.returned (.tuple #[])/\(WS B b w0 w' (bs++bytesL l)/\BF b w w'):=by
 refine (uWords_any B b g n n bs l w h.ib hg (by omega) hn hm h0 hlen h.size).mono ?_;rintro e w' ⟨rfl,hx,hb,hf⟩;exact⟨rfl,⟨.inr hx,h.bl.trans hb,h.hb⟩,hf⟩
end Go.Proofs.YtimokmplkpbmdaaGreatDoor
