/- tithinglaw07.ExprArgs is true of every input: the tied card of its row, proved. Conditions: the package-level variables that the row lists hold what the program's own text lays in them. -/
import Derived.Deep.QuietTactic
import Derived.BigQuiet
import Derived.SevenTiedAt
import Derived.Test.YtbicehdehiakgaaGreatDoorTie
import Derived.Test.YtbicehdehiakgaaGreatDoorCards
import Derived.Test.YtbicehdehiakgaaGreatDoorG37
import Derived.Test.YtbicehdehiakgaaGreatDoorG38
import Derived.Test.YtbicehdehiakgaaGreatDoorH00
set_option linter.unusedVariables false
set_option linter.unusedSimpArgs false
namespace Go.Proofs.YtbicehdehiakgaaGreatDoor
open Go.RowKit
theorem argsE_len (e:List Nd):(argsE e).length=e.length:=runA_length _ _ _
theorem ndsD (e:List Nd) (s:Nat):nds (e.drop s)=(nds e).drop (s*5):=by
 unfold nds
 induction s generalizing e with
 |zero=>simp
 |succ s ih=>
  cases e with
  |nil=>simp
  |cons n e=>
   rw[List.drop_succ_cons,ih,List.flatMap_cons,show (s+1)*5=s*5+5 by omega,←List.drop_drop];have:(n.cells++List.flatMap Nd.cells e).drop 5=List.flatMap Nd.cells e:=rfl;rw[List.drop_drop,Nat.add_comm,←List.drop_drop,this]
theorem ndsT (e:List Nd) (s:Nat):nds (e.take s)=(nds e).take (s*5):=by
 have h:=ndsD e s;have h2:nds e=nds (e.take s)++nds (e.drop s):=by unfold nds;rw[←List.flatMap_append,List.take_append_drop]
 by_cases hs:s≤e.length
 ·rw[h2,List.take_left' (by rw[nds_length,List.length_take,Nat.min_eq_left hs])]
 ·rw[List.take_of_length_le (by omega),List.take_of_length_le (by rw[nds_length];omega)]
theorem I_set' (xs:List Nat) (k y:Nat):(I xs).set k (.int .i64 (y:Int))=I (xs.set k y):=by simp[I,List.map_set]
theorem I_at {w:World} {b:Nat} {t:TypeId} {xs:List Nat} {k y:Nat} (h:Blk w b t (I xs)) (hk:xs[k]?=some y):w.cell? ⟨b,k,none⟩=some (.int .i64 (y:Int)):=by
 rw[h.cells k];simp[I,hk]
set_option maxRecDepth 100000 in
set_option maxHeartbeats 6400000 in
theorem exprArgs_core (l:List Int) (A1:Option Addr) (l1 c1:Nat) (w:World) (hL:LaidE w) (h1:Zz w l A1 l1 c1):
  Calls Tryz.prog 7 #[.slice A1 l1 c1] w fun e w'=>e=.returned (.bool true)∧Below w.heap.size w w':=by
 have HL:Hid (∀W,Below w.heap.size w W→LaidE W):=fun W hb=>hL.below hb
 have H1:=Lib.hid h1;have HCA:=Lib.hid (madeE_check l);have HFA:=Lib.hid (madeE_fine l);have HLN:=Lib.hid (madeE_len l);clear h1;go_enter Tryz.func7,Tryz.ntmps7;go_wp2_with fail;refine (lsanity_any _ hL).mono ?_;rintro e w1 ⟨rfl,hb1⟩;go_wp2_with fail;refine (made_es (H1.out.below hb1)).mono ?_;rintro e w2 ⟨Aa,na,ca,rfl,ha,hb2⟩;have hb2:=bstep hb1 hb2;clear hb1;generalize madeE l=es at*
 have HAR:Hid (∀W,LaidE W→Es W es Aa na ca→Calls Tryz.prog 23 #[.slice Aa na ca] W (RetArgs true (argsE es) W)):=fun W h1 h2=>by
  have:=eArgs_any es Aa na ca W h1 h2 HFA.out;rw[HCA.out,if_pos rfl] at this;exact this
 go_wp2_with fail;refine (HAR.out _ (HL.out _ hb2) ha).mono ?_;rintro e w3 ⟨Ab,nb,cb,rfl,⟨hat1,_,_,rows,hrd,hll⟩,hb3⟩;have ha:=ha.below hb3;have hl3:=HL.out _ (bstep hb2 hb3);have HB3:Hid (Below w.heap.size w w3):=bstep hb2 hb3;have hna:=ha.len;have hca:=ha.cap;have hmx:=ha.max;obtain rfl:na=nb:=by rw[hat1,argsE_len,ha.len]
 have hn60:na≤60:=by rw[hna];exact HLN.out.1
 have hn1:0<na:=by rw[hna];exact HLN.out.2
 have HA:=Lib.hid ha;have HRD:=Lib.hid hrd;have HLL:=Lib.hid hll;have HNA:=Lib.hid hna;have HL3:=Lib.hid hl3;unfold maxLen at hmx;clear ha hrd hll hna hat1 hb2 hb3 HAR hl3 hL;go_wp2_with (at_make;refine wpList_make_blk _ rfl _ _ 27 rfl 3 (.int .i64 0) 8 Tryz.underlying27 info_int rfl _ _ _ _ na rfl rfl ?_ ?_ (by omega) (by omega) ?_)
 ·rfl
 ·rfl
 intro w4 hf4 hb4;obtain⟨Bf,HBf⟩:∃Bf,Hid (Bf=w3.heap.size):=⟨_,rfl⟩
 rw[←HBf.out] at hf4⊢;go_wp2_with (at_make;refine wpList_make_blk _ rfl _ _ 27 rfl 3 (.int .i64 0) 8 Tryz.underlying27 info_int rfl _ _ _ _ na rfl rfl ?_ ?_ (by omega) (by omega) ?_)
 ·rfl
 ·rfl
 intro w5 hu5 hb5;obtain⟨Bu,HBu⟩:∃Bu,Hid (Bu=w4.heap.size):=⟨_,rfl⟩
 rw[←HBu.out] at hu5⊢;have hBf:=HBf.out;have hBu:=HBu.out;have hf5:=hf4.below hb5 hf4.lt;have hne:Bf≠Bu:=by have:=hf4.lt;omega
 have hlo:w3.heap.size≤Bf:=by omega
 have hlo2:w3.heap.size≤Bu:=by have:=hb4.size;omega
 have HB5:Hid (Below w3.heap.size w3 w5):=bstep hb4 hb5;have HF5:Hid (Blk w5 Bf 3 (I (List.replicate na 0))):=by show Blk _ _ _ _;simpa [I] using hf5
 have HU5:Hid (Blk w5 Bu 3 (I (List.replicate na 0))):=by show Blk _ _ _ _;simpa [I] using hu5
 clear hf4 hb4 hBf hu5 hb5 hBu hf5;go_wp2
 go_loopg [9] na (fun g kv wr=>∃(k:Nat) (st:List (Nat × Nat)) (F U:List Nat),k+g=na∧kv=.int .i64 k∧Hid (AI es k st)∧Hid (FI F na st)∧Hid (UI U na k st)∧Hid (Blk wr Bf 3 (I F))∧Hid (Blk wr Bu 3 (I U))∧Hid (Below w3.heap.size w3 wr))
 case atStart=>
  refine⟨0,[],List.replicate na 0,List.replicate na 0,by omega,rfl,AI.zero HCA.out,⟨by simp,fun p h=>by simp at h⟩,⟨by simp,fun x hx=>?_⟩,HF5,HU5,HB5⟩;rw[List.getElem?_replicate,if_pos hx];simp
 case round=>
  obtain⟨k,st,F,U,hk,rfl,hai,hfi,hui,hfb,hub,hbr⟩:=hrel;clear HF5 HU5 HB5;by_cases hlt:k<na
  ·have hke:k<es.length:=by rw[←HNA.out];exact hlt
   obtain⟨hops,hag,hnx⟩:=hai.out.next hke
   obtain⟨b,off,hA,hb,hc0,_⟩:=HA.out.rd.nd hke;subst hA;obtain⟨v,hv,A9,c9,rfl,h91,h92,h93,_⟩:=HLL.out.row k _ hag;have hpl:k<rows.length:=(List.getElem?_eq_some_iff.1 hv).1;obtain⟨b2,off2,hA2,hb2,hc2⟩:=HRD.out.at_ hpl;subst hA2;have hrow:=hc2 k hpl;rw[(List.getElem?_eq_some_iff.1 hv).2] at hrow;obtain⟨op,hop⟩:∃op,es[k].op=op:=⟨_,rfl⟩
   rw[hop] at hc0 hops h91 h93 hrow hnx;have hal:=shp_ops_le op;have hgA:=fun W=>gArity_any op W
   generalize (shp op).ops=a at*;have hlen:(((st.map Prod.snd).take a).reverse).length=a:=by rw[List.length_reverse,List.length_take,List.length_map,Nat.min_eq_left hops]
   rw[hlen] at h91 hrow;have HR9:=Lib.hid h93;have HGA:=Lib.hid hgA;have HNX:=Lib.hid hnx;have HOPS:=Lib.hid hops;have HROW:Hid (∀W,Below w3.heap.size w3 W→W.cell? ⟨b2,off2+k,none⟩=some (.slice A9 a c9)):=fun W h=>(h.cell hb2).trans hrow
   have hrow1:=HROW.out _ hbr.out;have hop1:=(hbr.out.cell hb).trans hc0;clear hc0 hc2 hrow hv hpl h93 hgA hnx hops hag hop hlen;go_wp2_with fail;go_quiet ((go_at_call 24;refine Calls.quiet_of_same ((HGA.out _).mono (fun _ _ h=>⟨h.1,h.2.symm⟩))));have hfb2:Blk (wr.drewN nq) Bf 3 (I F):=hfb.out.drewN nq;have hub2:Blk (wr.drewN nq) Bu 3 (I U):=hub.out.drewN nq;have hbr2:Below w3.heap.size w3 (wr.drewN nq):=below_drewN hbr.out nq;generalize wr.drewN nq=wq at*;clear hfb hub hbr hrow1 hop1;have hw0:IntKind.i64.wrap ((k:Int)-1)=(k:Int)-1:=IntWalk.i64_in _ (by omega);have hw1:IntKind.i64.wrap ((a:Int)-1)=(a:Int)-1:=IntWalk.i64_in _ (by omega);have hfl:F.length=na:=hfi.out.1;have hul:U.length=na:=hui.out.1;have hc:=hfb2.cells;have hf:=hfb2.froz;have hck:k<(I F).length:=by rw[I_length,hfl];exact hlt
   have hcF:=hfb2.cell hck
   go_upto_region 15 with fail
   have hfb3:Blk (wq.setCell ⟨Bf,k,none⟩ (.int .i64 (k:Int))) Bf 3 (I (F.set k k)):=by rw[←I_set'];exact hfb2.set k _
   have hub3:Blk (wq.setCell ⟨Bf,k,none⟩ (.int .i64 (k:Int))) Bu 3 (I U):=hub2.other (p:=⟨Bf,k,none⟩) (fun h=>hne h.symm) _;have hbr3:Below w3.heap.size w3 (wq.setCell ⟨Bf,k,none⟩ (.int .i64 (k:Int))):=hbr2.setCell (p:=⟨Bf,k,none⟩) hlo _;generalize wq.setCell ⟨Bf,k,none⟩ (.int .i64 (k:Int))=wA at*;clear hfb2 hub2 hbr2 hc hf hcF;have hrow2:=HROW.out _ hbr3;go_wp2
   go_loopg [10,11] a (fun g ev iv wi=>∃(j:Nat) (F U:List Nat),j+g=a∧ev=.int .i64 ((edge (st.drop j):Int)-1)∧iv=.int .i64 ((a:Int)-1-j)∧Hid (FI F na st)∧Hid (F[k]?=some (edge (st.drop j)))∧Hid (UI U na k (st.drop j))∧Hid (Blk wi Bf 3 (I F))∧Hid (Blk wi Bu 3 (I U))∧Hid (Below w3.heap.size w3 wi))
   case atStart=>
    refine⟨0,F.set k k,U,by omega,?_,?_,hfi.out.set (hai.out.stk.lt) k,?_,hui,hfb3,hub3,hbr3⟩
    ·rw[List.drop_zero,←hai.out.stk.eqE]
    ·simp
    ·show _=_;rw[List.drop_zero,←hai.out.stk.eqE,List.getElem?_set_self (by rw[hfl];exact hlt)]
   case round=>
    obtain⟨j,F',U',hj,rfl,rfl,hfi',hFk,hui',hfb',hub',hbr'⟩:=hrel;clear hfb3 hub3 hbr3 hrow2 hck;by_cases hja:j<a
    ·have hjs:j<st.length:=by have:=HOPS.out;omega
     have hdr:=List.drop_eq_getElem_cons hjs;have hst:=hai.out.stk.at_ (j:=j) (by omega);have hpk:=hai.out.stk.lt st[j] (List.getElem_mem hjs);have hmem:=List.getElem_mem hjs;generalize st[j]=p at*;obtain⟨s,t⟩:=p;have hL:=rev_get HOPS.out hja hdr;have he:((edge (st.drop j):Nat):Int)-1=(t:Int):=by rw[hdr];show ((t+1:Nat):Int)-1=_;omega
     have hi:(a:Int)-1-j=((a-1-j:Nat):Int):=by omega
     rw[he,hi];clear he hi;rw[hdr] at hst;obtain⟨_,q2,q3,q4⟩:=hst;simp only at hpk q2 q4;have q3:IsE (sl es s (t+1)):=q3;have hU2:=hui'.out;rw[hdr] at hU2;obtain⟨hU0,hU3⟩:=hU2.pop hpk (by omega) (fun q hq=>by have:=q4.lt q hq;simp only;omega);have hFt:=hfi'.out.2 _ hmem;simp only at hFt hU0 hU3;obtain⟨b3,off3,hA3,hb3,hc3⟩:=HR9.out.at_ (k:=a-1-j) (by rw[I_length];exact (List.getElem?_eq_some_iff.1 hL).1)
     have hin:w3.cell? ⟨b3,off3+(a-1-j),none⟩=some (.int .i64 (t:Int)):=by
      rw[hc3 _ (by rw[I_length];exact (List.getElem?_eq_some_iff.1 hL).1)];congr 1;have:(I (((st.map Prod.snd).take a).reverse))[a-1-j]?=some (.int .i64 (t:Int)):=by unfold I;rw[List.getElem?_map,hL];rfl
      exact (List.getElem?_eq_some_iff.1 this).2
     subst hA3;have hia:a-1-j<a:=by omega
     generalize hi2:a-1-j=i at*;have HI2:=Lib.hid hi2;clear hi2;have htn:t<na:=by omega
     have hcr:=HROW.out _ hbr'.out;have hci:=(hbr'.out.cell hb3).trans hin;have hcU:=I_at hub'.out hU0;have hfU:=hub'.out.froz;have htd:decide ((t:Int)<0)=false:=decide_eq_false (by omega)
     go_upto_region 21 with fail
     have hfbB:Blk (wr.setCell ⟨Bu,t,none⟩ (.int .i64 1)) Bf 3 (I F'):=hfb'.out.other (p:=⟨Bu,t,none⟩) hne _;have hubB:Blk (wr.setCell ⟨Bu,t,none⟩ (.int .i64 1)) Bu 3 (I (U'.set t 1)):=by rw[←I_set'];exact hub'.out.set t _
     have hbrB:Below w3.heap.size w3 (wr.setCell ⟨Bu,t,none⟩ (.int .i64 1)):=hbr'.out.setCell (p:=⟨Bu,t,none⟩) hlo2 _;generalize wr.setCell ⟨Bu,t,none⟩ (.int .i64 1)=wB at*;clear hcU hfU hcr hci;have hcF:=I_at hfbB hFt;have hfF:=hfbB.froz;have hFl:F'.length=na:=hfi'.out.1;have hcK:=hfbB.cell (i:=k) (by rw[I_length,hFl];exact hlt)
     go_upto_region 22 with fail
     have hfbC:Blk (wB.setCell ⟨Bf,k,none⟩ (.int .i64 (s:Int))) Bf 3 (I (F'.set k s)):=by rw[←I_set'];exact hfbB.set k _
     have hubC:Blk (wB.setCell ⟨Bf,k,none⟩ (.int .i64 (s:Int))) Bu 3 (I (U'.set t 1)):=hubB.other (p:=⟨Bf,k,none⟩) (fun h=>hne h.symm) _;have hbrC:Below w3.heap.size w3 (wB.setCell ⟨Bf,k,none⟩ (.int .i64 (s:Int))):=hbrB.setCell (p:=⟨Bf,k,none⟩) hlo _;generalize wB.setCell ⟨Bf,k,none⟩ (.int .i64 (s:Int))=wC at*;clear hcF hfF hcK hfbB hubB hbrB;have hFt2:(F'.set k s)[t]?=some s:=by rw[List.getElem?_set,if_neg (by omega),hFt]
     have hcF2:=I_at hfbC hFt2;have hw4:IntKind.i64.wrap ((t:Int)+1)=(t:Int)+1:=IntWalk.i64_in _ (by omega);go_wp2_with fail
     have hsl:(sl es s (t+1)).length=t+1-s:=by
      have h:=HNA.out;unfold sl;rw[List.length_drop,List.length_take];omega
     have hrs:Rd wC (some ⟨b,off+s*5,none⟩) (nds (sl es s (t+1))):=by
      unfold sl;rw[ndsD,ndsT];exact Rd_drop ((HA.out.rd.below hbrC).take _) _
     refine (check_any (sl es s (t+1)) _ _ _ wC (HL3.out.below hbrC) hsl.symm (by omega) (by unfold maxLen;omega) hrs (fun n hn=>HFA.out n (List.mem_of_mem_take (List.mem_of_mem_drop hn)))).mono ?_;rw[sl_check q3 (by have h:=HNA.out;omega)];rintro e wD ⟨rfl,hbD⟩;have hfbD:=hfbC.below hbD hfbC.lt;have hubD:=hubC.below hbD hubC.lt;have hbrD:Below w3.heap.size w3 wD:=hbrC.trans (hbD.mono hbrC.size);have hcF3:=I_at hfbD hFt2;have hw5:IntKind.i64.wrap ((s:Int)-1)=(s:Int)-1:=IntWalk.i64_in _ (by omega);have hw6:IntKind.i64.wrap ((i:Int)-1)=(i:Int)-1:=IntWalk.i64_in _ (by omega);clear hsl hrs hcF2 hbD hfbC hubC hbrC;go_wp2
     go_roundg (a-(j+1))
     case measure=>omega
     case rel=>
      refine⟨j+1,F'.set k s,U'.set t 1,by omega,?_,?_,hfi'.out.set hai.out.stk.lt s,?_,hU3,hfbD,hubD,hbrD⟩
      ·rw[←q4.eqE]
      ·have h:=HI2.out;congr 1;omega
      ·show _=_;rw[←q4.eqE,List.getElem?_set_self (by rw[hfi'.out.1];exact hlt)]
    ·obtain rfl:j=a:=by omega
     have hw5:IntKind.i64.wrap ((k:Int)+1)=(k:Int)+1:=IntWalk.i64_in _ (by omega);rw[show (j:Int)-1-(j:Int)= -1 by omega];go_wp2
     go_roundg (na-(k+1))
     case measure=>omega
     case rel=>
      refine⟨k+1,_,F',U',by omega,by go_num,HNX.out,?_,hui'.out.push _,hfb',hub',hbr'⟩;exact FI.push ⟨hfi'.out.1,fun p hp=>hfi'.out.2 p (List.mem_of_mem_drop hp)⟩ hFk.out
  ·have hkn:k=na:=by omega
   have hl:AI es es.length st:=by rw[←HNA.out,←hkn];exact hai.out
   obtain⟨n,hn,rfl⟩:=hl.last;have hF0:F[n]?=some 0:=hfi.out.2 (0,n) (by simp);have hnn:na=n+1:=by rw[HNA.out,hn]
   have HU:Hid (∀x,x<na→U[x]?=some (if x=n then 0 else 1)):=fun x hx=>by
    rw[hui.out.2 x hx];congr 1;by_cases h:x=n
    ·simp[h]
    ·simp[h,show x<k by omega]
   have hfl:F.length=na:=hfi.out.1;have hcF:=I_at hfb.out hF0;have hub2:=hub.out;have hbr2:=hbr;subst hkn;clear hai hl hn hfi hui hfb hub hbr hF0;generalize wr=wE at*;have hw0:IntKind.i64.wrap ((k:Int)-1)=(n:Int):=by rw[IntWalk.i64_in _ (by omega)];omega
   go_wp2
   go_loopg [12] k (fun g mv wz=>∃m:Nat,m+g=k∧mv=.int .i64 m∧wz=wE)
   case atStart=>exact⟨0,by omega,rfl,rfl⟩
   case round=>
    obtain⟨m,hm,rfl,rfl⟩:=hrel;by_cases hmn:m<k
    ·have hUm:=HU.out m hmn;by_cases hml:m=n
     ·subst hml;rw[if_pos rfl] at hUm;have hcU:=I_at hub2 hUm;go_wp2
      go_roundg (k-(m+1))
      case measure=>omega
      case rel=>exact⟨m+1,by omega,by go_num,rfl⟩
     ·rw[if_neg hml] at hUm;have hcU:=I_at hub2 hUm;have e3:((m:Int)==(n:Int))=false:=by rw[beq_eq_false_iff_ne];omega
      go_wp2
      go_roundg (k-(m+1))
      case measure=>omega
      case rel=>exact⟨m+1,by omega,by go_num,rfl⟩
    ·go_wp2;go_ret;exact⟨rfl,HB3.out.trans (hbr2.out.mono HB3.out.size)⟩
end Go.Proofs.YtbicehdehiakgaaGreatDoor
namespace Go.Proofs.YtbicehdehiakgaaGreatDoor
open Go.ChangeShapes Go.WideShapes Go.ChangeAt Go.RowKit
theorem exprArgs_types:∀t∈Tryz.f7.params.toList,Tryz.prog.readableRec t=true∧t<Tryz.prog.types.size:=by
 have hall:([27].all fun t=>Tryz.prog.readableRec t&&decide (t<Tryz.prog.types.size))=true:=by kernel_rfl
 rw[Tryz.params7];intro t ht;have hm:t∈[27]:=by simpa using ht
 simpa using List.all_eq_true.1 hall t hm
set_option maxRecDepth 100000 in
theorem exprArgs_lifted (os:Os) (started:os.Started) (H:Type) (enc:TypeId × Value→H):
  ReturnsInHanded {} Tryz.checked os 7 .any (fun w args=>(Rows.exprArgsSpec.pre enc Tryz.prog Tryz.f7 [] false w args∧laidMetH Tryz.prog lds w)∧sizedMet enc Tryz.prog Tryz.f7 (OpenSpec.ofChange Rows.exprArgsSpec) false w args)
   (Rows.exprArgsSpec.post enc Tryz.prog Tryz.f7 false true false false):=by
 refine returns_shaped (C:=Tryz.checked) (X:=fun w _=>laidMetH Tryz.prog lds w) (fun _ _ _ hh h=>h.of_heap hh) Tryz.own started (by kernel_rfl) Tryz.func7
  (ChangeSpec.witness_shaped (enc:=enc) (C:=Tryz.checked) (os:=os) (X:=fun w _=>laidMetH Tryz.prog lds w) false (World.laidAll Tryz.prog os lds) #[.slice none 0 0] 8 (World.laidAll_os _ _ _)
    (World.shaped_of_ZipB (by kernel_rfl) (by kernel_rfl)) (by kernel_rfl) (by kernel_rfl) (by kernel_rfl) (world_met os _)) ?_
 intro W base args ds gs before hval0 hW hL hsh;have hval:∀(j:Nat) t v,Tryz.f7.params[j]?=some t→args[j]?=some v→Value.okWide Tryz.prog W .any base t v:=hval0;have hW':DataW.Whole enc Tryz.prog Tryz.f7.params.toList Rows.exprArgsSpec.vars false W args.toList ds gs before:=hW;obtain⟨p,q,hA0,hV,rfl,_,_⟩:=hW;have hA:DataW.TrodAll enc Tryz.prog W 0 (fun _=>true) true Tryz.f7.params.toList args.toList ds p:=hA0;rw[Tryz.params7] at hA hval;obtain⟨v0,d0,rfl,rfl,h0⟩:=trodAll_one hA;obtain⟨rfl,rfl⟩:=trodVars_none hV;obtain⟨l,A1,n1,c1,rfl,hE1⟩:=zz_of_trod (hval 0 27 v0 rfl rfl) h0;refine (exprArgs_core l A1 n1 c1 W (laidE_of hL hsh) hE1).mono fun e W' ⟨he,hb⟩=>?_
 subst he;exact⟨_,rfl,post_true (H:=H) (enc:=enc) (P:=Tryz.prog) (f:=Tryz.f7) (s:=Rows.exprArgsSpec) (tb:=4) Tryz.laidOut rfl rfl rfl Tryz.underlying4 exprArgs_types hW' hb⟩
theorem exprArgs_holds:Rows.ExprArgsSaid:=
 OpenClaim.holds_of_wide 7 Tryz.f7 rfl rfl rfl rfl rfl rfl rfl ⟨rfl,rfl,rfl,rfl,rfl⟩ rfl rfl rfl rfl rfl (by kernel_rfl) Tryz.func7 (by kernel_rfl)
  (of_decide_eq_true (by kernel_rfl)) (by unfold Func.isWrapper;first|(rw[if_pos (by decide+kernel)];kernel_rfl)|(rw[if_neg (by decide+kernel)];exact⟨rfl,rfl⟩))
  (fun os started H enc _=>exprArgs_lifted os started H enc)
theorem exprArgs_card:Rows.ExprArgsCardSaid:=
 Claim7.holds_tied_plain_at .later [] [.data,.data,.data,.data,.sentinel,.sentinel,.widerDeep,.pinned] true Rows.exprArgsCard.stood.harness true
  exprArgs_holds (fun _ h=>by cases h) (by kernel_rfl) (fun _ h=>by cases h) exprArgs_row_tie rfl ⟨rfl,rfl⟩ (by kernel_rfl) rfl
  (fun f fn hf hfn=>by
    obtain rfl:f=7:=Option.some.inj ((show Tryz.prog.funcNamed "tithing/tithinglaw07.ExprArgs" =some 7 by kernel_rfl).symm.trans hf) |>.symm
    obtain rfl:fn=Tryz.f7:=(Option.some.inj (Tryz.func7.symm.trans hfn)).symm
    exact⟨by kernel_rfl,fun j t ht=>by
     rw[Tryz.params7] at ht;have hm:t∈[27]:=by simpa using Array.mem_of_getElem? ht
     have hall:([27].all fun u=> !Tryz.prog.wantsStandIn u)=true:=by kernel_rfl
     exact (show Tryz.prog.wantsStandIn t=false by simpa using List.all_eq_true.1 hall t hm)⟩)
  (by kernel_rfl)
end Go.Proofs.YtbicehdehiakgaaGreatDoor
