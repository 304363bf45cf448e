/- A part of the proof: Up Uu. -/
import Derived.Deep.RegionHeld3
import Derived.Deep.Cut
import Derived.Deep.CutRange
import Derived.Test.YtfajelpcfnfjkaaGreatDoorA00
import Derived.Test.YtfajelpcfnfjkaaGreatDoorA29
import Derived.Test.YtfajelpcfnfjkaaGreatDoorA33
import Derived.Test.YtfajelpcfnfjkaaGreatDoorA38
import Derived.Test.YtfajelpcfnfjkaaGreatDoorA39
import Derived.Test.YtfajelpcfnfjkaaGreatDoorA40
set_option linter.unusedVariables false
set_option linter.unusedSimpArgs false
namespace Go.Proofs.YtfajelpcfnfjkaaGreatDoor
open Go.RowKit
theorem info_prov:(Tryz.prog.info? 48).map (fun i=>(i.zero,i.size,i.bytes))=some (some (.agg #[.string ⟨#[]⟩,.bool false,.int .i64 0,.int .i64 0,.slice none 0 0,.bool false,.bool false,.string ⟨#[]⟩,.string ⟨#[]⟩,.bool false,.string ⟨#[]⟩,.string ⟨#[]⟩]),12,152):=by kernel_rfl
def sCharge:ByteArray:=⟨#[99,104,97,114,103,101]⟩
def sStep:ByteArray:=⟨#[115,116,101,112]⟩
def sCap1:ByteArray:=⟨#[99,97,112]⟩
def provTl (ch sp:Bool) (x y:ByteArray):List ByteArray:=(if ch then [sCharge] else [])++(if sp then [sStep,x,sCap1,y] else [])
set_option maxRecDepth 100000 in
set_option maxHeartbeats 3200000 in
theorem uProv_any (w0 w:World) (R g:Nat) (l:Lw) (ss:List (Sc × Hd)) (ps:List (Pv × Hd)) (fv sv pv:Value) (wd nm s rest x y:ByteArray) (t:Ty) (ch sp:Bool) (st cp:Ra) (body:List Nd) (h:PT w0 w R l ss ps fv sv pv) (hL:LaidK w) (ht:tyIn t=true) (hs:s=tyText t) (hn:ps.length≤1000)
  (hr:rest.data.toList.length≤1048576) (hb:parseE rest.data.toList=(body,0)) (hx:sp=true→x.size≤1048576∧y.size≤1048576∧ratParse x=(st,true)∧ratParse y=(cp,true)) (hz:sp=false→st=zR∧cp=zR) (m:Nat) (hm:m=(provTl ch sp x y).length) (hg:Blk w g 9 (strs (wd::nm::s::provTl ch sp x y))):
  Calls Tryz.prog 76 #[.pointer (some ⟨R,0,none⟩),.slice (some ⟨g,1,none⟩) (m+2:Nat) (m+2:Nat),.string rest] w fun e w'=>e=.returned (.tuple #[])∧(∃v' hd,PT w0 w' R ⟨l.facts,l.schs,l.provs++[⟨nm,t,ch,st,cp,body⟩]⟩ ss (ps++[(⟨nm,t,ch,st,cp,body⟩,hd)]) fv sv v')∧FR R w w':=by
 have HT:=Lib.hid (fun W (hb:Below w.heap.size w W)=>hs ▸ uTypeOf_any t W (hL.below hb) ht);have HPT:=Lib.hid h;have HLK:Hid (∀W,Below w.heap.size w W→LaidK W):=fun W hb=>hL.below hb
 have HG:Hid (∀W,Below w.heap.size w W→Blk W g 9 (strs (wd::nm::s::provTl ch sp x y))):=fun W hb=>hg.below hb hg.lt
 have HSS:Hid (∀W,Below w.heap.size w W→W.cell? ⟨g,1,none⟩=some (.string nm)∧W.cell? ⟨g,2,none⟩=some (.string s)):=fun W hb=>⟨(HG.out W hb).cells 1,(HG.out W hb).cells 2⟩
 have HX:=Lib.hid hx
 have HPA:Hid (∀W,Below w.heap.size w W→Calls Tryz.prog 77 #[.string rest] W (RetEsF (body,0) W)):=fun W hb'=>by
  have k:=eParse_new rest.data.toList body W (hL.below hb').e hr hb;exact k
 have HM:=Lib.hid must_yes;have HRW:Hid (R<w.heap.size):=h.blk.lt;have HSN:Hid (∀k,pv.ownBlock=some k→k<w.heap.size):=fun k hk=>(h.p.lt k hk).2
 obtain⟨tt,tm,td⟩:=t;obtain⟨p1,p2,p3⟩:=st;obtain⟨q1,q2,q3⟩:=cp;have HZ:=Lib.hid hz;have HMM:=Lib.hid hm;unfold Ty.v at HT;simp only at HT;have hm0:(0:Int)<(m:Int)+2:=by omega
 have hm1:(1:Int)<(m:Int)+2:=by omega
 have hm2d:decide ((2:Int)≤(m:Int)+2)=true:=decide_eq_true (by omega);clear h hL ht hs hg hx hr hb hz hm;go_enter Tryz.func76,Tryz.ntmps76;go_wp2_with fail;refine (HM.out w).mono ?_;rintro e w1 ⟨rfl,hw1⟩;have hw2:=hw1.symm;clear hw1;subst hw2
 go_upto_region 1 with fail
 go_cut [6] from 13 to 20 (fun v wc=>∃C,v=.pointer (some ⟨C,0,none⟩)∧Hid (w.heap.size≤C)∧Hid (Blk wc C 48 [.string nm,.bool tt,.int .i64 tm,.int .i64 td,.slice none 0 0,.bool false,.bool false,.string ⟨#[]⟩,.string ⟨#[]⟩,.bool false,.string ⟨#[]⟩,.string ⟨#[]⟩])∧Hid (Below w.heap.size w wc))
 case first=>
  refine wp_region_noPanic ?_;refine wp_region_held_drew (S:=(fun w'=>w'.cell? ⟨g,1,none⟩=some (.string nm)∧w'.cell? ⟨g,2,none⟩=some (.string s))) (by kernel_rfl) (HSS.out _ (Below.drew (Below.refl _ w))) (fun hHeld=>?_);refine tkY 0 ?_ rfl ?_ ?_;rotate_left
  ·intro w hSw;(try dsimp only at hSw);go_simp
   all_goals with_reducible rfl
  try simp only[Act.put,tk1,tk2,tk3,tk4,tk5,tk6]
  refine tkY 1 ?_ rfl ?_ ?_;rotate_left
  ·intro w hSw;(try dsimp only at hSw);go_simp
   all_goals with_reducible rfl
  try simp only[Act.put,tk1,tk2,tk3,tk4,tk5,tk6]
  refine tkY 2 ?_ rfl ?_ ?_;rotate_left
  ·intro w hSw;(try dsimp only at hSw);go_simp
   all_goals with_reducible rfl
  try simp only[Act.put,tk1,tk2,tk3,tk4,tk5,tk6]
  refine tkY 3 ?_ rfl ?_ ?_;rotate_left
  ·intro w hSw;(try dsimp only at hSw);go_simp
   all_goals with_reducible rfl
  try simp only[Act.put,tk1,tk2,tk3,tk4,tk5,tk6]
  refine tkY 4 ?_ rfl ?_ ?_;rotate_left
  ·intro w hSw;(try dsimp only at hSw);go_simp
   all_goals with_reducible rfl
  try simp only[Act.put,tk1,tk2,tk3,tk4,tk5,tk6]
  refine tkY 5 ?_ rfl ?_ ?_;rotate_left
  ·intro w hSw;(try dsimp only at hSw);go_simp
   all_goals with_reducible rfl
  try simp only[Act.put,tk1,tk2,tk3,tk4,tk5,tk6]
  refine wpAnyH_ready (rs:=[6,8]) (by kernel_rfl) (by simp) ?_;refine AllReadyH.cons rfl (fun K hK=>?_) (AllReadyH.cons rfl (fun K hK=>?_) AllReadyH.nil)
  ·go_simp;refine (HT.out _ (drewN_below w.heap.size w 1)).mono ?_;rintro e w10 ⟨rfl,hb10⟩;have HB10:=Lib.hid (bstep (drewN_below w.heap.size w 1) hb10);go_wp2_with fail;refine hK.out _ _ ?_ (fun hHeld=>?_)
   ·exact HSS.out _ HB10.out
   clear hK K
   try simp only[Act.put,tk1,tk2,tk3,tk4,tk5,tk6]
   refine tkY 7 ?_ rfl ?_ ?_;rotate_left
   ·intro w hSw;(try dsimp only at hSw);go_simp
    all_goals with_reducible rfl
   try simp only[Act.put,tk1,tk2,tk3,tk4,tk5,tk6]
   refine wpAnyH_ready (rs:=[8]) (by kernel_rfl) (by simp) ?_;refine AllReadyH.cons rfl (fun K hK=>?_) AllReadyH.nil;go_simp
   skip
   go_wp2_with fail;refine hK.out _ _ ?_ (fun hHeld=>?_)
   ·exact HSS.out _ (HB10.out.alloc HB10.out.size _)
   clear hK K
   try simp only[Act.put,tk1,tk2,tk3,tk4,tk5,tk6]
   obtain⟨W1,hW1⟩:∃W1,W1=w10.alloc (.cells #[.string ⟨#[]⟩,.bool false,.int .i64 0,.int .i64 0,.slice none 0 0,.bool false,.bool false,.string ⟨#[]⟩,.string ⟨#[]⟩,.bool false,.string ⟨#[]⟩,.string ⟨#[]⟩] 48):=⟨_,rfl⟩
   obtain⟨C,hC⟩:∃C,C=w10.heap.size:=⟨_,rfl⟩
   have HKC:Hid (Blk W1 C 48 [.string ⟨#[]⟩,.bool false,.int .i64 0,.int .i64 0,.slice none 0 0,.bool false,.bool false,.string ⟨#[]⟩,.string ⟨#[]⟩,.bool false,.string ⟨#[]⟩,.string ⟨#[]⟩]):=by show Blk _ _ _ _;rw[hW1,hC];exact Blk.new w10 _ _
   have HB1:Hid (Below w.heap.size w W1):=by show Below _ _ _;rw[hW1];exact HB10.out.alloc HB10.out.size _
   have HCW:Hid (w.heap.size≤C):=by show _≤C;rw[hC];exact HB10.out.size
   simp only[←hW1,←hC]
   clear hW1 hC;refine wpAnyH_ready (rs:=[9]) (by kernel_rfl) (by simp) ?_;refine AllReadyH.cons rfl (fun K hK=>?_) AllReadyH.nil;have hkc:=HKC.out.cells;have hkf:=HKC.out.froz;go_simp
   skip
   go_wp2_with fail;refine hK.out _ _ ?_ (fun hHeld=>?_)
   ·exact HSS.out _ ((((((((((((HB1.out.setCell (p:=⟨C,0,none⟩) HCW.out _).setCell (p:=⟨C,1,none⟩) HCW.out _).setCell (p:=⟨C,2,none⟩) HCW.out _).setCell (p:=⟨C,3,none⟩) HCW.out _).setCell (p:=⟨C,4,none⟩) HCW.out _).setCell (p:=⟨C,5,none⟩) HCW.out _).setCell (p:=⟨C,6,none⟩) HCW.out _).setCell (p:=⟨C,7,none⟩) HCW.out _).setCell (p:=⟨C,8,none⟩) HCW.out _).setCell (p:=⟨C,9,none⟩) HCW.out _).setCell (p:=⟨C,10,none⟩) HCW.out _).setCell (p:=⟨C,11,none⟩) HCW.out _)
   clear hK K
   try simp only[Act.put,tk1,tk2,tk3,tk4,tk5,tk6]
   refine wpAnyH_done (by kernel_rfl) ?_ _;refine NoPanic.normal ?_;go_wp2
   go_meet
   case rel=>exact⟨C,rfl,HCW,((((((((((((HKC.out.set 0 (.string nm)).set 1 (.bool tt)).set 2 (.int .i64 tm)).set 3 (.int .i64 td)).set 4 (.slice none 0 0)).set 5 (.bool false)).set 6 (.bool false)).set 7 (.string ⟨#[]⟩)).set 8 (.string ⟨#[]⟩)).set 9 (.bool false)).set 10 (.string ⟨#[]⟩)).set 11 (.string ⟨#[]⟩)),((((((((((((HB1.out.setCell (p:=⟨C,0,none⟩) HCW.out _).setCell (p:=⟨C,1,none⟩) HCW.out _).setCell (p:=⟨C,2,none⟩) HCW.out _).setCell (p:=⟨C,3,none⟩) HCW.out _).setCell (p:=⟨C,4,none⟩) HCW.out _).setCell (p:=⟨C,5,none⟩) HCW.out _).setCell (p:=⟨C,6,none⟩) HCW.out _).setCell (p:=⟨C,7,none⟩) HCW.out _).setCell (p:=⟨C,8,none⟩) HCW.out _).setCell (p:=⟨C,9,none⟩) HCW.out _).setCell (p:=⟨C,10,none⟩) HCW.out _).setCell (p:=⟨C,11,none⟩) HCW.out _)⟩
  ·go_simp
   skip
   go_wp2_with fail;refine hK.out _ _ ?_ (fun hHeld=>?_)
   ·exact HSS.out _ ((drewN_below w.heap.size w 1).alloc (drewN_below w.heap.size w 1).size (.cells #[.string ⟨#[]⟩,.bool false,.int .i64 0,.int .i64 0,.slice none 0 0,.bool false,.bool false,.string ⟨#[]⟩,.string ⟨#[]⟩,.bool false,.string ⟨#[]⟩,.string ⟨#[]⟩] 48))
   clear hK K
   try simp only[Act.put,tk1,tk2,tk3,tk4,tk5,tk6]
   refine wpAnyH_ready (rs:=[6]) (by kernel_rfl) (by simp) ?_;refine AllReadyH.cons rfl (fun K hK=>?_) AllReadyH.nil;go_simp;refine (HT.out _ ((drewN_below w.heap.size w 1).alloc (drewN_below w.heap.size w 1).size (.cells #[.string ⟨#[]⟩,.bool false,.int .i64 0,.int .i64 0,.slice none 0 0,.bool false,.bool false,.string ⟨#[]⟩,.string ⟨#[]⟩,.bool false,.string ⟨#[]⟩,.string ⟨#[]⟩] 48))).mono ?_;rintro e w10 ⟨rfl,hb10⟩;have HB10:=Lib.hid (bstep ((drewN_below w.heap.size w 1).alloc (drewN_below w.heap.size w 1).size (.cells #[.string ⟨#[]⟩,.bool false,.int .i64 0,.int .i64 0,.slice none 0 0,.bool false,.bool false,.string ⟨#[]⟩,.string ⟨#[]⟩,.bool false,.string ⟨#[]⟩,.string ⟨#[]⟩] 48)) hb10);go_wp2_with fail;refine hK.out _ _ ?_ (fun hHeld=>?_)
   ·exact HSS.out _ HB10.out
   clear hK K
   try simp only[Act.put,tk1,tk2,tk3,tk4,tk5,tk6]
   refine tkY 7 ?_ rfl ?_ ?_;rotate_left
   ·intro w hSw;(try dsimp only at hSw);go_simp
    all_goals with_reducible rfl
   try simp only[Act.put,tk1,tk2,tk3,tk4,tk5,tk6]
   obtain⟨C,hC⟩:∃C,C=w.heap.size:=⟨_,rfl⟩
   have HKC:Hid (Blk w10 C 48 [.string ⟨#[]⟩,.bool false,.int .i64 0,.int .i64 0,.slice none 0 0,.bool false,.bool false,.string ⟨#[]⟩,.string ⟨#[]⟩,.bool false,.string ⟨#[]⟩,.string ⟨#[]⟩]):=by show Blk _ _ _ _;rw[hC];exact (Blk.new (w.drewN 1) 48 #[.string ⟨#[]⟩,.bool false,.int .i64 0,.int .i64 0,.slice none 0 0,.bool false,.bool false,.string ⟨#[]⟩,.string ⟨#[]⟩,.bool false,.string ⟨#[]⟩,.string ⟨#[]⟩]).below hb10 (Blk.new (w.drewN 1) 48 #[.string ⟨#[]⟩,.bool false,.int .i64 0,.int .i64 0,.slice none 0 0,.bool false,.bool false,.string ⟨#[]⟩,.string ⟨#[]⟩,.bool false,.string ⟨#[]⟩,.string ⟨#[]⟩]).lt
   have HCW:Hid (w.heap.size≤C):=Nat.le_of_eq hC.symm;simp only[←hC]
   clear hC;refine wpAnyH_ready (rs:=[9]) (by kernel_rfl) (by simp) ?_;refine AllReadyH.cons rfl (fun K hK=>?_) AllReadyH.nil;have hkc:=HKC.out.cells;have hkf:=HKC.out.froz;go_simp
   skip
   go_wp2_with fail;refine hK.out _ _ ?_ (fun hHeld=>?_)
   ·exact HSS.out _ ((((((((((((HB10.out.setCell (p:=⟨C,0,none⟩) HCW.out _).setCell (p:=⟨C,1,none⟩) HCW.out _).setCell (p:=⟨C,2,none⟩) HCW.out _).setCell (p:=⟨C,3,none⟩) HCW.out _).setCell (p:=⟨C,4,none⟩) HCW.out _).setCell (p:=⟨C,5,none⟩) HCW.out _).setCell (p:=⟨C,6,none⟩) HCW.out _).setCell (p:=⟨C,7,none⟩) HCW.out _).setCell (p:=⟨C,8,none⟩) HCW.out _).setCell (p:=⟨C,9,none⟩) HCW.out _).setCell (p:=⟨C,10,none⟩) HCW.out _).setCell (p:=⟨C,11,none⟩) HCW.out _)
   clear hK K
   try simp only[Act.put,tk1,tk2,tk3,tk4,tk5,tk6]
   refine wpAnyH_done (by kernel_rfl) ?_ _;refine NoPanic.normal ?_;go_wp2
   go_meet
   case rel=>exact⟨C,rfl,HCW,((((((((((((HKC.out.set 0 (.string nm)).set 1 (.bool tt)).set 2 (.int .i64 tm)).set 3 (.int .i64 td)).set 4 (.slice none 0 0)).set 5 (.bool false)).set 6 (.bool false)).set 7 (.string ⟨#[]⟩)).set 8 (.string ⟨#[]⟩)).set 9 (.bool false)).set 10 (.string ⟨#[]⟩)).set 11 (.string ⟨#[]⟩)),((((((((((((HB10.out.setCell (p:=⟨C,0,none⟩) HCW.out _).setCell (p:=⟨C,1,none⟩) HCW.out _).setCell (p:=⟨C,2,none⟩) HCW.out _).setCell (p:=⟨C,3,none⟩) HCW.out _).setCell (p:=⟨C,4,none⟩) HCW.out _).setCell (p:=⟨C,5,none⟩) HCW.out _).setCell (p:=⟨C,6,none⟩) HCW.out _).setCell (p:=⟨C,7,none⟩) HCW.out _).setCell (p:=⟨C,8,none⟩) HCW.out _).setCell (p:=⟨C,9,none⟩) HCW.out _).setCell (p:=⟨C,10,none⟩) HCW.out _).setCell (p:=⟨C,11,none⟩) HCW.out _)⟩
 case rest=>
  obtain⟨C,rfl,HCW,HKC1,HB1⟩:=hcut
  go_upto_region 2 with fail
  go_cut [1] from 21 to 22 (fun v w'=>∃A2,v=.slice A2 (m:Nat) (m:Nat)∧Hid (m≠0→A2=some ⟨g,3,none⟩)∧w'=wc)
  case first=>
   rcases Nat.eq_zero_or_pos m with h0|h0
   ·subst h0;go_wp2
    go_meet
    case rel=>exact⟨_,rfl,fun h=>absurd rfl h,rfl⟩
   ·obtain⟨k,rfl⟩:∃k,m=k+1:=⟨m-1,by omega⟩
    go_wp2
    go_meet
    case rel=>exact⟨_,rfl,fun h=>rfl,rfl⟩
  case rest=>
   obtain⟨A2,rfl,HA2,rfl⟩:=hcut
   go_upto_region 3 with fail
   go_cut [31] from 23 to 31 (fun v w'=>v=.bool ch∧w'=wc)
   case first=>
    have h3:=(HG.out _ HB1.out).cells 3;cases ch<;>cases sp
    ·obtain rfl:m=0:=HMM.out;go_wp2
     go_meet
     case rel=>exact⟨rfl,rfl⟩
    ·obtain rfl:m=4:=HMM.out;obtain rfl:=HA2.out (by decide);replace h3:wc.cell? ⟨g,3,none⟩=some (.string ⟨#[115,116,101,112]⟩):=h3;go_wp2
     go_meet
     case rel=>exact⟨rfl,rfl⟩
    ·obtain rfl:m=1:=HMM.out;obtain rfl:=HA2.out (by decide);replace h3:wc.cell? ⟨g,3,none⟩=some (.string ⟨#[99,104,97,114,103,101]⟩):=h3;go_wp2
     go_meet
     case rel=>exact⟨rfl,rfl⟩
    ·obtain rfl:m=5:=HMM.out;obtain rfl:=HA2.out (by decide);replace h3:wc.cell? ⟨g,3,none⟩=some (.string ⟨#[99,104,97,114,103,101]⟩):=h3;go_wp2
     go_meet
     case rel=>exact⟨rfl,rfl⟩
   case rest=>
    obtain⟨rfl,rfl⟩:=hcut
    go_upto_if 31 with fail
    go_cut [1] from 32 to 34 (fun v w'=>∃(A3:Option Addr) (q o3:Nat),v=.slice A3 q q∧Hid (q=if sp then 4 else 0)∧Hid (o3=if ch then 4 else 3)∧Hid (sp=true→A3=some ⟨g,o3,none⟩)∧Hid (Blk w' C 48 [.string nm,.bool tt,.int .i64 tm,.int .i64 td,.slice none 0 0,.bool ch,.bool false,.string ⟨#[]⟩,.string ⟨#[]⟩,.bool false,.string ⟨#[]⟩,.string ⟨#[]⟩])∧Hid (Below w.heap.size w w'))
    case first=>
     cases ch
     ·go_wp2
      go_meet
      case rel=>
       refine⟨A2,m,3,rfl,?_,rfl,fun h=>HA2.out ?_,HKC1,HB1⟩
       ·show _=_;rw[HMM.out];cases sp<;>rfl
       ·subst h;rw[HMM.out];show (4:Nat)≠0;decide
     ·have hkc:=HKC1.out.cells;have hkf:=HKC1.out.froz;cases sp
      ·obtain rfl:m=1:=HMM.out;obtain rfl:=HA2.out (by decide)
       go_upto_region 4 with fail
       go_region;go_wp2
       go_meet
       case rel=>exact⟨_,0,4,rfl,rfl,rfl,(fun h=>by cases h),HKC1.out.set 5 _,(HB1.out.setCell (p:=⟨C,5,none⟩) HCW.out _).drew⟩
      ·obtain rfl:m=5:=HMM.out;obtain rfl:=HA2.out (by decide)
       go_upto_region 4 with fail
       go_region;go_wp2
       go_meet
       case rel=>exact⟨_,4,4,rfl,rfl,rfl,(fun _=>rfl),HKC1.out.set 5 _,(HB1.out.setCell (p:=⟨C,5,none⟩) HCW.out _).drew⟩
    case rest=>
     obtain⟨A3,q,o3,rfl,HQ4,HO3,HA3,HKC3,HB3⟩:=hcut;clear HKC1 HB1 HMM HA2
     go_upto_if 37 with fail
     go_cut [] from 38 to 63 (fun w'=>Hid (Blk w' C 48 [.string nm,.bool tt,.int .i64 tm,.int .i64 td,.slice none 0 0,.bool ch,.bool p1,.string p2,.string p3,.bool q1,.string q2,.string q3])∧Hid (Below w.heap.size w w'))
     case first=>
      cases sp
      ·obtain rfl:q=0:=HQ4.out;obtain⟨e1,e2⟩:=HZ.out rfl;injection e1 with e1 e3 e4;injection e2 with e2 e5 e6;subst e1 e2 e3 e4 e5 e6;go_wp2
       go_meet
       case rel=>exact⟨HKC3,HB3⟩
      ·obtain rfl:q=4:=HQ4.out;obtain rfl:=HA3.out rfl;obtain⟨hx1,hy1,hrx,hry⟩:=HX.out rfl
       have HC4:Hid (∀W,Below w.heap.size w W→W.cell? ⟨g,o3,none⟩=some (.string ⟨#[115,116,101,112]⟩)∧W.cell? ⟨g,o3+1,none⟩=some (.string x)∧W.cell? ⟨g,o3+2,none⟩=some (.string ⟨#[99,97,112]⟩)∧W.cell? ⟨g,o3+3,none⟩=some (.string y)):=fun W hb=>by
        have k:=(HG.out W hb).cells;cases ch
        ·obtain rfl:o3=3:=HO3.out;exact⟨k 3,k 4,k 5,k 6⟩
        ·obtain rfl:o3=4:=HO3.out;exact⟨k 4,k 5,k 6,k 7⟩
       have HNX:Hid (∀W,Laid W→Calls Tryz.prog 75 #[.string x] W fun e w'=>e=.returned (.agg #[.bool p1,.string p2,.string p3])∧Below W.heap.size W w'):=fun W hL=>by
        have k:=uNumber_any x W hL hx1 (by rw[hrx]);rw[hrx] at k;exact k
       have HNY:Hid (∀W,Laid W→Calls Tryz.prog 75 #[.string y] W fun e w'=>e=.returned (.agg #[.bool q1,.string q2,.string q3])∧Below W.heap.size W w'):=fun W hL=>by
        have k:=uNumber_any y W hL hy1 (by rw[hry]);rw[hry] at k;exact k
       clear hx1 hy1 hrx hry;have h3:=(HC4.out _ HB3.out).1;have h5:=(HC4.out _ HB3.out).2.2.1;obtain⟨W4,hW4⟩:∃W4,W4=wc:=⟨_,rfl⟩
       subst hW4;have HM4:=Lib.hid (HM.out W4);go_wp2_with fail;refine HM4.out.mono ?_;rintro e w5 ⟨rfl,hw5⟩;have hw6:=hw5.symm;clear hw5;subst hw6;have HKC4:=Lib.hid HKC3.out;have HBW4:=Lib.hid HB3.out;have HN1:=Lib.hid (fun W' (hb:Below W4.heap.size W4 W')=>HNX.out W' (HLK.out _ (bstep HBW4.out hb)).e.base);have HN2:=Lib.hid (fun W' (hb:Below W4.heap.size W4 W')=>HNY.out W' (HLK.out _ (bstep HBW4.out hb)).e.base);have HSB:Hid (∀W',Below w.heap.size w W'→W'.cell? ⟨g,o3+1,none⟩=some (.string x)∧W'.cell? ⟨g,o3+3,none⟩=some (.string y)):=fun W' hb=>⟨(HC4.out _ hb).2.1,(HC4.out _ hb).2.2.2⟩
       have HS7:Hid (∀W',Below W4.heap.size W4 W'→W'.cell? ⟨g,o3+1,none⟩=some (.string x)∧W'.cell? ⟨g,o3+3,none⟩=some (.string y)):=fun W' hb=>HSB.out _ (bstep HBW4.out hb)
       clear h3 h5 HNX HNY HKC3 HB3
       go_upto_region 7 with fail
       refine wp_region_noPanic ?_;refine wp_region_held_drew (S:=(fun w'=>w'.cell? ⟨g,o3+1,none⟩=some (.string x)∧w'.cell? ⟨g,o3+3,none⟩=some (.string y))) (by kernel_rfl) (HS7.out _ (drewN_below W4.heap.size W4 1)) (fun hHeld=>?_);refine tkY 0 ?_ rfl ?_ ?_;rotate_left
       ·intro w hSw;(try dsimp only at hSw);go_simp
        all_goals with_reducible rfl
       try simp only[Act.put,tk1,tk2,tk3,tk4,tk5,tk6]
       refine tkY 1 ?_ rfl ?_ ?_;rotate_left
       ·intro w hSw;(try dsimp only at hSw);go_simp
        all_goals with_reducible rfl
       try simp only[Act.put,tk1,tk2,tk3,tk4,tk5,tk6]
       refine tkY 2 ?_ rfl ?_ ?_;rotate_left
       ·intro w hSw;(try dsimp only at hSw);go_simp
        all_goals with_reducible rfl
       try simp only[Act.put,tk1,tk2,tk3,tk4,tk5,tk6]
       refine tkY 4 ?_ rfl ?_ ?_;rotate_left
       ·intro w hSw;(try dsimp only at hSw);go_simp
        all_goals with_reducible rfl
       try simp only[Act.put,tk1,tk2,tk3,tk4,tk5,tk6]
       refine tkY 5 ?_ rfl ?_ ?_;rotate_left
       ·intro w hSw;(try dsimp only at hSw);go_simp
        all_goals with_reducible rfl
       try simp only[Act.put,tk1,tk2,tk3,tk4,tk5,tk6]
       refine tkY 6 ?_ rfl ?_ ?_;rotate_left
       ·intro w hSw;(try dsimp only at hSw);go_simp
        all_goals with_reducible rfl
       try simp only[Act.put,tk1,tk2,tk3,tk4,tk5,tk6]
       refine wpAnyH_ready (rs:=[3]) (by kernel_rfl) (by simp) ?_;refine AllReadyH.cons rfl (fun K hK=>?_) AllReadyH.nil;go_simp;refine (HN1.out _ (drewN_below W4.heap.size W4 1)).mono ?_;rintro e w5 ⟨rfl,hb5⟩;have HB5:=Lib.hid (bstep (drewN_below W4.heap.size W4 1) hb5);go_wp2_with fail;refine hK.out _ _ ?_ (fun hHeld=>?_)
       ·exact HS7.out _ HB5.out
       clear hK K
       try simp only[Act.put,tk1,tk2,tk3,tk4,tk5,tk6]
       refine tkY 8 ?_ rfl ?_ ?_;rotate_left
       ·intro w hSw;(try dsimp only at hSw);go_simp
        all_goals with_reducible rfl
       try simp only[Act.put,tk1,tk2,tk3,tk4,tk5,tk6]
       refine wpAnyH_ready (rs:=[7]) (by kernel_rfl) (by simp) ?_;refine AllReadyH.cons rfl (fun K hK=>?_) AllReadyH.nil;go_simp;refine (HN2.out _ HB5.out).mono ?_;rintro e w6 ⟨rfl,hb6⟩;have HB6:=Lib.hid (bstep HB5.out hb6);go_wp2_with fail;refine hK.out _ _ ?_ (fun hHeld=>?_)
       ·exact HS7.out _ HB6.out
       clear hK K
       try simp only[Act.put,tk1,tk2,tk3,tk4,tk5,tk6]
       have HKC6:Hid (Blk w6 C 48 [.string nm,.bool tt,.int .i64 tm,.int .i64 td,.slice none 0 0,.bool ch,.bool false,.string ⟨#[]⟩,.string ⟨#[]⟩,.bool false,.string ⟨#[]⟩,.string ⟨#[]⟩]):=HKC4.out.below HB6.out HKC4.out.lt;have hkc:=HKC6.out.cells;have hkf:=HKC6.out.froz;refine wpAnyH_ready (rs:=[9]) (by kernel_rfl) (by simp) ?_;refine AllReadyH.cons rfl (fun K hK=>?_) AllReadyH.nil;go_simp
       skip
       go_wp2_with fail;refine hK.out _ _ ?_ (fun hHeld=>?_)
       ·exact HSB.out _ ((((bstep HBW4.out HB6.out).setCell (p:=⟨C,6,none⟩) HCW.out _).setCell (p:=⟨C,7,none⟩) HCW.out _).setCell (p:=⟨C,8,none⟩) HCW.out _)
       clear hK K
       try simp only[Act.put,tk1,tk2,tk3,tk4,tk5,tk6]
       refine tkY 10 ?_ rfl ?_ ?_;rotate_left
       ·intro w hSw;(try dsimp only at hSw);go_simp
        all_goals with_reducible rfl
       try simp only[Act.put,tk1,tk2,tk3,tk4,tk5,tk6]
       have hkc:=(((HKC6.out.set 6 (.bool p1)).set 7 (.string p2)).set 8 (.string p3)).cells;have hkf:=(((HKC6.out.set 6 (.bool p1)).set 7 (.string p2)).set 8 (.string p3)).froz;refine wpAnyH_ready (rs:=[11]) (by kernel_rfl) (by simp) ?_;refine AllReadyH.cons rfl (fun K hK=>?_) AllReadyH.nil;go_simp
       skip
       go_wp2_with fail;refine hK.out _ _ ?_ (fun hHeld=>?_)
       ·exact HSB.out _ (((((((bstep HBW4.out HB6.out).setCell (p:=⟨C,6,none⟩) HCW.out _).setCell (p:=⟨C,7,none⟩) HCW.out _).setCell (p:=⟨C,8,none⟩) HCW.out _).setCell (p:=⟨C,9,none⟩) HCW.out _).setCell (p:=⟨C,10,none⟩) HCW.out _).setCell (p:=⟨C,11,none⟩) HCW.out _)
       clear hK K
       try simp only[Act.put,tk1,tk2,tk3,tk4,tk5,tk6]
       refine wpAnyH_done (by kernel_rfl) ?_ _;refine NoPanic.normal ?_;go_wp2
       go_meet
       case rel=>exact⟨((((((HKC6.out.set 6 (.bool p1)).set 7 (.string p2)).set 8 (.string p3)).set 9 (.bool q1)).set 10 (.string q2)).set 11 (.string q3)),(((((((bstep HBW4.out HB6.out).setCell (p:=⟨C,6,none⟩) HCW.out _).setCell (p:=⟨C,7,none⟩) HCW.out _).setCell (p:=⟨C,8,none⟩) HCW.out _).setCell (p:=⟨C,9,none⟩) HCW.out _).setCell (p:=⟨C,10,none⟩) HCW.out _).setCell (p:=⟨C,11,none⟩) HCW.out _)⟩
     case rest=>
      obtain⟨HKC5,HB5⟩:=hcut;clear HKC3 HB3 HX HZ HQ4 HO3 HA3;go_wp2_with fail;refine (HPA.out _ HB5.out).mono ?_;rintro e w7 ⟨Ab,nb,cb,rfl,hes,hb7,hown7⟩;obtain rfl:nb=body.length:=hes.len;have HB7:=Lib.hid (bstep HB5.out hb7);have HKC7:Hid (Blk w7 C 48 [.string nm,.bool tt,.int .i64 tm,.int .i64 td,.slice none 0 0,.bool ch,.bool p1,.string p2,.string p3,.bool q1,.string q2,.string q3]):=HKC5.out.below hb7 HKC5.out.lt;have HO7:Hid (w7.ownsRow (C+1) 56 5 (.slice Ab body.length cb) body.length (nds body)):=own_lower hown7 (by have:=HKC5.out.lt;omega);have HM7:=Lib.hid (HM.out w7);clear hes hb7 hown7;simp only
      go_wp2_with fail;refine HM7.out.mono ?_;rintro e w8 ⟨rfl,hw8⟩;have hw9:=hw8.symm;clear hw8;subst hw9;have hkc:=HKC7.out.cells;have hkf:=HKC7.out.froz
      go_upto_region 11 with fail
      have hkC0:Blk (w7.setCell ⟨C,4,none⟩ (.slice Ab body.length cb)) C 48 [.string nm,.bool tt,.int .i64 tm,.int .i64 td,.slice Ab body.length cb,.bool ch,.bool p1,.string p2,.string p3,.bool q1,.string q2,.string q3]:=HKC7.out.set 4 _;have hbr0:Below w.heap.size w (w7.setCell ⟨C,4,none⟩ (.slice Ab body.length cb)):=HB7.out.setCell (p:=⟨C,4,none⟩) HCW.out _;have hoW0:=own_setB HO7.out (Nat.lt_succ_self C) 4 (.slice Ab body.length cb);generalize w7.setCell ⟨C,4,none⟩ (.slice Ab body.length cb)=wr at*;have hkC:=Lib.hid hkC0;have HBR:=Lib.hid hbr0;have HO:=Lib.hid hoW0;have HP:=Lib.hid (HPT.out.below hbr0);have HRC:Hid (R<C):=by have h1:=HRW.out;have h2:=HCW.out;show R<C;omega
      have HS11:Hid (∀W',Below wr.heap.size wr W'→W'.cell? ⟨C,0,none⟩=some (.string nm)∧W'.cell? ⟨C,1,none⟩=some (.bool tt)∧W'.cell? ⟨C,2,none⟩=some (.int .i64 tm)∧W'.cell? ⟨C,3,none⟩=some (.int .i64 td)∧W'.cell? ⟨C,4,none⟩=some (.slice Ab body.length cb)∧W'.cell? ⟨C,5,none⟩=some (.bool ch)∧W'.cell? ⟨C,6,none⟩=some (.bool p1)∧W'.cell? ⟨C,7,none⟩=some (.string p2)∧W'.cell? ⟨C,8,none⟩=some (.string p3)∧W'.cell? ⟨C,9,none⟩=some (.bool q1)∧W'.cell? ⟨C,10,none⟩=some (.string q2)∧W'.cell? ⟨C,11,none⟩=some (.string q3)):=fun W' hb=>⟨(hkC.out.below hb hkC.out.lt).cells 0,(hkC.out.below hb hkC.out.lt).cells 1,(hkC.out.below hb hkC.out.lt).cells 2,(hkC.out.below hb hkC.out.lt).cells 3,(hkC.out.below hb hkC.out.lt).cells 4,(hkC.out.below hb hkC.out.lt).cells 5,(hkC.out.below hb hkC.out.lt).cells 6,(hkC.out.below hb hkC.out.lt).cells 7,(hkC.out.below hb hkC.out.lt).cells 8,(hkC.out.below hb hkC.out.lt).cells 9,(hkC.out.below hb hkC.out.lt).cells 10,(hkC.out.below hb hkC.out.lt).cells 11⟩
      clear hkC0 hbr0 hoW0 HKC7 HB7 HO7 HKC5 HB5 HM7 hkc hkf;refine wp_region_noPanic ?_;refine wp_region_held_drew (S:=(fun w'=>w'.cell? ⟨C,0,none⟩=some (.string nm)∧w'.cell? ⟨C,1,none⟩=some (.bool tt)∧w'.cell? ⟨C,2,none⟩=some (.int .i64 tm)∧w'.cell? ⟨C,3,none⟩=some (.int .i64 td)∧w'.cell? ⟨C,4,none⟩=some (.slice Ab body.length cb)∧w'.cell? ⟨C,5,none⟩=some (.bool ch)∧w'.cell? ⟨C,6,none⟩=some (.bool p1)∧w'.cell? ⟨C,7,none⟩=some (.string p2)∧w'.cell? ⟨C,8,none⟩=some (.string p3)∧w'.cell? ⟨C,9,none⟩=some (.bool q1)∧w'.cell? ⟨C,10,none⟩=some (.string q2)∧w'.cell? ⟨C,11,none⟩=some (.string q3))) (by kernel_rfl) (HS11.out _ (drewN_below wr.heap.size wr 1)) (fun hHeld=>?_);refine tkY 0 ?_ rfl ?_ ?_;rotate_left
      ·intro w hSw;(try dsimp only at hSw);go_simp
       all_goals with_reducible rfl
      try simp only[Act.put,tk1,tk2,tk3,tk4,tk5,tk6]
      refine tkY 1 ?_ rfl ?_ ?_;rotate_left
      ·intro w hSw;(try dsimp only at hSw);go_simp
       all_goals with_reducible rfl
      try simp only[Act.put,tk1,tk2,tk3,tk4,tk5,tk6]
      refine tkY 2 ?_ rfl ?_ ?_;rotate_left
      ·intro w hSw;(try dsimp only at hSw);go_simp
       all_goals with_reducible rfl
      try simp only[Act.put,tk1,tk2,tk3,tk4,tk5,tk6]
      refine tkY 3 ?_ rfl ?_ ?_;rotate_left
      ·intro w hSw;(try dsimp only at hSw);go_simp
       all_goals with_reducible rfl
      try simp only[Act.put,tk1,tk2,tk3,tk4,tk5,tk6]
      refine tkY 5 ?_ rfl ?_ ?_;rotate_left
      ·intro w hSw;(try dsimp only at hSw);go_simp
       all_goals with_reducible rfl
      try simp only[Act.put,tk1,tk2,tk3,tk4,tk5,tk6]
      refine wpAnyH_ready (rs:=[4,6]) (by kernel_rfl) (by simp) ?_;refine AllReadyH.cons rfl (fun K hK=>?_) (AllReadyH.cons rfl (fun K hK=>?_) AllReadyH.nil)
      ·have hc4:(wr).cell? ⟨R,2,none⟩=some pv:=(HP.out.below (Below.refl _ _)).blk.cells 2;go_simp
       skip
       go_wp2_with fail;refine hK.out _ _ ?_ (fun hHeld=>?_)
       ·exact HS11.out _ (drewN_below wr.heap.size wr 1)
       clear hK K
       try simp only[Act.put,tk1,tk2,tk3,tk4,tk5,tk6]
       refine wpAnyH_ready (rs:=[6]) (by kernel_rfl) (by simp) ?_;refine AllReadyH.cons rfl (fun K hK=>?_) AllReadyH.nil;go_simp
       skip
       go_wp2_with fail;refine hK.out _ _ ?_ (fun hHeld=>?_)
       ·exact HS11.out _ ((drewN_below wr.heap.size wr 1).alloc (drewN_below wr.heap.size wr 1).size _)
       clear hK K
       try simp only[Act.put,tk1,tk2,tk3,tk4,tk5,tk6]
       refine wpAnyH_ready (rs:=[7]) (by kernel_rfl) (by simp) ?_;refine AllReadyH.cons rfl (fun K hK=>?_) AllReadyH.nil;refine step_push_at wr.drew #[.string nm,.bool tt,.int .i64 tm,.int .i64 td,.slice Ab body.length cb,.bool ch,.bool p1,.string p2,.string p3,.bool q1,.string q2,.string q3] (by rfl) _ _ 27 (by rfl) (R+1) 48 (.agg #[.string ⟨#[]⟩,.bool false,.int .i64 0,.int .i64 0,.slice none 0 0,.bool false,.bool false,.string ⟨#[]⟩,.string ⟨#[]⟩,.bool false,.string ⟨#[]⟩,.string ⟨#[]⟩]) 12 152 1 Tryz.underlying27 info_prov rfl (by decide) pv ps.length (ps.flatMap pvCells) (by rfl) HP.out.p (by rfl) rfl ?_ ?_ ?_ ?_ ?_
       any_goals first|(unfold maxLen;omega)|omega
       ·intro u hu;simp only[List.mem_cons,List.not_mem_nil,or_false] at hu;rcases hu with rfl|rfl|rfl|rfl|rfl|rfl|rfl|rfl|rfl|rfl|rfl|rfl<;>rfl
       ·have h1:=HP.out.blk.lt;show R+1≤wr.heap.size;omega
       intro v' w11 hown hgr _;obtain⟨Av,cv,rfl,_⟩:=own_rd hown;have HQ:=Lib.hid ((HP.out.below (drewN_below wr.heap.size wr 1)).pushP (⟨nm,⟨tt,tm,td⟩,ch,⟨p1,p2,p3⟩,⟨q1,q2,q3⟩,body⟩,⟨Ab,body.length,cb⟩) ⟨rfl,own_lower HO.out (by have:=HRC.out;omega)⟩ hown hgr);have HKR:Hid (Blk w11 R 29 [fv,sv,pv]):=(hgr.block R HP.out.blk.lt (fun e=>by have h1:=(HP.out.p.lt R e.symm).1;omega)).trans HP.out.blk;have HKC:Hid (Blk w11 C 48 [.string nm,.bool tt,.int .i64 tm,.int .i64 td,.slice Ab body.length cb,.bool ch,.bool p1,.string p2,.string p3,.bool q1,.string q2,.string q3]):=(hgr.block C hkC.out.lt (fun e=>by have h1:=HSN.out C e.symm;have h2:=HCW.out;omega)).trans hkC.out;have HFR:Hid (FR R w _):=FR.grown (i:=2) (u:=.slice Av (ps.length+1) cv) (bstep HBR.out (drewN_below wr.heap.size wr 1)) (HP.out.below (drewN_below wr.heap.size wr 1)).p (.inr (.inr rfl)) hgr;clear hown hgr;refine hK.out _ _ ?_ (fun hHeld=>?_)
       ·exact⟨HKC.out.cells 0,HKC.out.cells 1,HKC.out.cells 2,HKC.out.cells 3,HKC.out.cells 4,HKC.out.cells 5,HKC.out.cells 6,HKC.out.cells 7,HKC.out.cells 8,HKC.out.cells 9,HKC.out.cells 10,HKC.out.cells 11⟩
       clear hK K
       try simp only[Act.put,tk1,tk2,tk3,tk4,tk5,tk6]
       refine tkY 8 ?_ rfl ?_ ?_;rotate_left
       ·intro w hSw;(try dsimp only at hSw);go_simp
        all_goals with_reducible rfl
       try simp only[Act.put,tk1,tk2,tk3,tk4,tk5,tk6]
       refine tkY 9 ?_ rfl ?_ ?_;rotate_left
       ·intro w hSw;(try dsimp only at hSw);go_simp
        all_goals with_reducible rfl
       try simp only[Act.put,tk1,tk2,tk3,tk4,tk5,tk6]
       refine wpAnyH_ready (rs:=[10]) (by kernel_rfl) (by simp) ?_;refine AllReadyH.cons rfl (fun K hK=>?_) AllReadyH.nil;have hkc:=HKR.out.cells;have hkf:=HKR.out.froz;go_simp
       skip
       go_wp2_with fail;refine hK.out _ _ ?_ (fun hHeld=>?_)
       ·(have hq:=(HKC.out.other (p:=⟨R,2,none⟩) (by have:=HRC.out;show C≠R;omega) (.slice Av (ps.length+1) cv));exact⟨hq.cells 0,hq.cells 1,hq.cells 2,hq.cells 3,hq.cells 4,hq.cells 5,hq.cells 6,hq.cells 7,hq.cells 8,hq.cells 9,hq.cells 10,hq.cells 11⟩)
       clear hK K
       try simp only[Act.put,tk1,tk2,tk3,tk4,tk5,tk6]
       refine wpAnyH_done (by kernel_rfl) ?_ _;refine NoPanic.normal ?_;go_wp2;go_end0;exact⟨rfl,⟨_,_,HQ.out⟩,HFR.out⟩
      ·go_simp
       skip
       go_wp2_with fail;refine hK.out _ _ ?_ (fun hHeld=>?_)
       ·exact HS11.out _ ((drewN_below wr.heap.size wr 1).alloc (drewN_below wr.heap.size wr 1).size _)
       clear hK K
       try simp only[Act.put,tk1,tk2,tk3,tk4,tk5,tk6]
       refine wpAnyH_ready (rs:=[4]) (by kernel_rfl) (by simp) ?_;refine AllReadyH.cons rfl (fun K hK=>?_) AllReadyH.nil;have hc4:(wr.alloc (.cells #[.string nm,.bool tt,.int .i64 tm,.int .i64 td,.slice Ab body.length cb,.bool ch,.bool p1,.string p2,.string p3,.bool q1,.string q2,.string q3] 48)).cell? ⟨R,2,none⟩=some pv:=(HP.out.below ((Below.refl _ _).alloc (Nat.le_refl _) (.cells #[.string nm,.bool tt,.int .i64 tm,.int .i64 td,.slice Ab body.length cb,.bool ch,.bool p1,.string p2,.string p3,.bool q1,.string q2,.string q3] 48))).blk.cells 2;go_simp
       skip
       go_wp2_with fail;refine hK.out _ _ ?_ (fun hHeld=>?_)
       ·exact HS11.out _ ((drewN_below wr.heap.size wr 1).alloc (drewN_below wr.heap.size wr 1).size (.cells #[.string nm,.bool tt,.int .i64 tm,.int .i64 td,.slice Ab body.length cb,.bool ch,.bool p1,.string p2,.string p3,.bool q1,.string q2,.string q3] 48))
       clear hK K
       try simp only[Act.put,tk1,tk2,tk3,tk4,tk5,tk6]
       refine wpAnyH_ready (rs:=[7]) (by kernel_rfl) (by simp) ?_;refine AllReadyH.cons rfl (fun K hK=>?_) AllReadyH.nil;refine step_push_at wr.drew #[.string nm,.bool tt,.int .i64 tm,.int .i64 td,.slice Ab body.length cb,.bool ch,.bool p1,.string p2,.string p3,.bool q1,.string q2,.string q3] (by rfl) _ _ 27 (by rfl) (R+1) 48 (.agg #[.string ⟨#[]⟩,.bool false,.int .i64 0,.int .i64 0,.slice none 0 0,.bool false,.bool false,.string ⟨#[]⟩,.string ⟨#[]⟩,.bool false,.string ⟨#[]⟩,.string ⟨#[]⟩]) 12 152 1 Tryz.underlying27 info_prov rfl (by decide) pv ps.length (ps.flatMap pvCells) (by rfl) HP.out.p (by rfl) rfl ?_ ?_ ?_ ?_ ?_
       any_goals first|(unfold maxLen;omega)|omega
       ·intro u hu;simp only[List.mem_cons,List.not_mem_nil,or_false] at hu;rcases hu with rfl|rfl|rfl|rfl|rfl|rfl|rfl|rfl|rfl|rfl|rfl|rfl<;>rfl
       ·have h1:=HP.out.blk.lt;show R+1≤wr.heap.size;omega
       intro v' w11 hown hgr _;obtain⟨Av,cv,rfl,_⟩:=own_rd hown;have HQ:=Lib.hid ((HP.out.below (drewN_below wr.heap.size wr 1)).pushP (⟨nm,⟨tt,tm,td⟩,ch,⟨p1,p2,p3⟩,⟨q1,q2,q3⟩,body⟩,⟨Ab,body.length,cb⟩) ⟨rfl,own_lower HO.out (by have:=HRC.out;omega)⟩ hown hgr);have HKR:Hid (Blk w11 R 29 [fv,sv,pv]):=(hgr.block R HP.out.blk.lt (fun e=>by have h1:=(HP.out.p.lt R e.symm).1;omega)).trans HP.out.blk;have HKC:Hid (Blk w11 C 48 [.string nm,.bool tt,.int .i64 tm,.int .i64 td,.slice Ab body.length cb,.bool ch,.bool p1,.string p2,.string p3,.bool q1,.string q2,.string q3]):=(hgr.block C hkC.out.lt (fun e=>by have h1:=HSN.out C e.symm;have h2:=HCW.out;omega)).trans hkC.out;have HFR:Hid (FR R w _):=FR.grown (i:=2) (u:=.slice Av (ps.length+1) cv) (bstep HBR.out (drewN_below wr.heap.size wr 1)) (HP.out.below (drewN_below wr.heap.size wr 1)).p (.inr (.inr rfl)) hgr;clear hown hgr;refine hK.out _ _ ?_ (fun hHeld=>?_)
       ·exact⟨HKC.out.cells 0,HKC.out.cells 1,HKC.out.cells 2,HKC.out.cells 3,HKC.out.cells 4,HKC.out.cells 5,HKC.out.cells 6,HKC.out.cells 7,HKC.out.cells 8,HKC.out.cells 9,HKC.out.cells 10,HKC.out.cells 11⟩
       clear hK K
       try simp only[Act.put,tk1,tk2,tk3,tk4,tk5,tk6]
       refine tkY 8 ?_ rfl ?_ ?_;rotate_left
       ·intro w hSw;(try dsimp only at hSw);go_simp
        all_goals with_reducible rfl
       try simp only[Act.put,tk1,tk2,tk3,tk4,tk5,tk6]
       refine tkY 9 ?_ rfl ?_ ?_;rotate_left
       ·intro w hSw;(try dsimp only at hSw);go_simp
        all_goals with_reducible rfl
       try simp only[Act.put,tk1,tk2,tk3,tk4,tk5,tk6]
       refine wpAnyH_ready (rs:=[10]) (by kernel_rfl) (by simp) ?_;refine AllReadyH.cons rfl (fun K hK=>?_) AllReadyH.nil;have hkc:=HKR.out.cells;have hkf:=HKR.out.froz;go_simp
       skip
       go_wp2_with fail;refine hK.out _ _ ?_ (fun hHeld=>?_)
       ·(have hq:=(HKC.out.other (p:=⟨R,2,none⟩) (by have:=HRC.out;show C≠R;omega) (.slice Av (ps.length+1) cv));exact⟨hq.cells 0,hq.cells 1,hq.cells 2,hq.cells 3,hq.cells 4,hq.cells 5,hq.cells 6,hq.cells 7,hq.cells 8,hq.cells 9,hq.cells 10,hq.cells 11⟩)
       clear hK K
       try simp only[Act.put,tk1,tk2,tk3,tk4,tk5,tk6]
       refine wpAnyH_done (by kernel_rfl) ?_ _;refine NoPanic.normal ?_;go_wp2;go_end0;exact⟨rfl,⟨_,_,HQ.out⟩,HFR.out⟩
inductive Ln
 |f (d:Dc)
 |s (x:Sc)
 |p (x:Pv)
def Lw.add (l:Lw):Ln→Lw
 |.f d=>⟨l.facts++[d],l.schs,l.provs⟩
 |.s x=>⟨l.facts,l.schs++[x],l.provs⟩
 |.p x=>⟨l.facts,l.schs,l.provs++[x]⟩
def kFact:ByteArray:=⟨#[102,97,99,116]⟩
def kSched:ByteArray:=⟨#[115,99,104,101,100,117,108,101]⟩
def kProv:ByteArray:=⟨#[112,114,111,118,105,115,105,111,110]⟩
def LineOk (s:ByteArray):Ln→Prop
 |.f d=>∃rest,LineW s [kFact,d.name,tyText d.ty] rest false∧nameOk d.name=true∧tyIn d.ty=true
 |.s x=>∃rest,LineW s [kSched,x.name,tyText ⟨false,x.money,x.days⟩] rest true∧nameOk x.name=true∧tyIn ⟨false,x.money,x.days⟩=true∧RestB rest x.brs
 |.p x=>∃(rest:ByteArray) (sp:Bool) (a b:ByteArray),LineW s (kProv::x.name::tyText x.ty::provTl x.charge sp a b) rest true∧nameOk x.name=true∧tyIn x.ty=true∧rest.data.toList.length≤1048576∧parseE rest.data.toList=(x.body,0)∧
   (sp=true→a.size≤1048576∧b.size≤1048576∧ratParse a=(x.step,true)∧ratParse b=(x.cap,true))∧(sp=false→x.step=zR∧x.cap=zR)
theorem line_any (w0 w:World) (R:Nat) (l:Lw) (s:ByteArray) (ln:Ln) (h:PX w0 w R l) (hL:LaidK w) (hf:l.facts.length≤1000) (hs:l.schs.length≤1000) (hp:l.provs.length≤1000) (ho:LineOk s ln):
  Calls Tryz.prog 17 #[.pointer (some ⟨R,0,none⟩),.string s] w fun e w'=>e=.returned (.bool true)∧PX w0 w' R (l.add ln)∧FR R w w':=by
 have hpx:=h;obtain⟨ss,ps,fv,sv,pv,hPT⟩:=h;have hsn:ss.length=l.schs.length:=by rw[←hPT.sl,List.length_map]
 have hpn:ps.length=l.provs.length:=by rw[←hPT.pl,List.length_map]
 cases ln with
 |f d=>
  obtain⟨rest,hw,hn,ht⟩:=ho;obtain⟨nm,t⟩:=d;refine line_core w0 w R l _ s rest kFact nm [tyText t] 0 false hpx hL hw rfl hn 0 _ (.inl ⟨rfl,rfl,rfl,rfl⟩) (fun W G hb hG=>?_);refine (uFact_any w0 W R G 2 l ss ps fv sv pv nm (tyText t) rest t (hPT.below hb) (hL.below hb) ht rfl hf ⟨_,hG,rfl,rfl⟩).mono ?_;rintro e w' ⟨h1,⟨v',h2⟩,h3⟩;exact⟨h1,⟨_,_,_,_,_,h2⟩,h3⟩
 |s x=>
  obtain⟨rest,hw,hn,ht,hr⟩:=ho;obtain⟨nm,tm,td,brs⟩:=x;refine line_core w0 w R l _ s rest kSched nm [tyText ⟨false,tm,td⟩] 0 true hpx hL hw rfl hn 1 _ (.inr (.inl ⟨rfl,rfl,rfl,rfl⟩)) (fun W G hb hG=>?_);refine (uSched_any w0 W R G 2 l ss ps fv sv pv nm (tyText ⟨false,tm,td⟩) rest tm td brs (hPT.below hb) (hL.below hb) ht rfl (by omega) hr ⟨_,hG,rfl,rfl⟩).mono ?_;rintro e w' ⟨h1,⟨v',hd,h2⟩,h3⟩;exact⟨h1,⟨_,_,_,_,_,h2⟩,h3⟩
 |p x=>
  obtain⟨rest,sp,a,b,hw,hn,ht,hr,hb',hx,hz⟩:=ho;obtain⟨nm,t,ch,st,cp,body⟩:=x;refine line_core w0 w R l _ s rest kProv nm (tyText t::provTl ch sp a b) (provTl ch sp a b).length true hpx hL hw rfl hn 2 _ (.inr (.inr ⟨rfl,rfl,rfl,rfl⟩)) (fun W G hb hG=>?_);refine (uProv_any w0 W R G l ss ps fv sv pv kProv nm (tyText t) rest a b t ch sp st cp body (hPT.below hb) (hL.below hb) ht rfl (by omega) hr hb' hx hz _ rfl hG).mono ?_;rintro e w' ⟨h1,⟨v',hd,h2⟩,h3⟩;exact⟨h1,⟨_,_,_,_,_,h2⟩,h3⟩
end Go.Proofs.YtfajelpcfnfjkaaGreatDoor
