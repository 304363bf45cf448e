/- A part of the proof: Ud Ue Uj Uk W7 W8 Wd W9. -/
import Derived.Deep.RegionHeld3
import Derived.Test.YtmmbjngbeiokeaaGreatDoorF01
import Derived.Test.YtmmbjngbeiokeaaGreatDoorF21
import Derived.Test.YtmmbjngbeiokeaaGreatDoorF23
import Derived.Test.YtmmbjngbeiokeaaGreatDoorF24
import Derived.Test.YtmmbjngbeiokeaaGreatDoorF27
import Derived.Test.YtmmbjngbeiokeaaGreatDoorF29
import Derived.Test.YtmmbjngbeiokeaaGreatDoorF30
import Derived.Test.YtmmbjngbeiokeaaGreatDoorF32
import Derived.Test.YtmmbjngbeiokeaaGreatDoorF33
set_option linter.unusedVariables false
set_option linter.unusedSimpArgs false
set_option maxRecDepth 100000
set_option maxHeartbeats 40000000
namespace Go.Proofs.YtmmbjngbeiokeaaGreatDoor
open Go.RowKit
theorem cc_freshW (b:Nat) (w:World) (h0:w.cell? ⟨b,0,none⟩=some (.pointer none)) (hsh:w.shape? b=some (71,2)) (hfz:w.frozen? ⟨b,0,none⟩=false):
  Calls Tryz.prog 131 #[.pointer (some ⟨b,0,none⟩)] w fun e w'=>e=.returned (.tuple #[])∧w'=w.setCell ⟨b,0,none⟩ (.pointer (some ⟨b,0,none⟩)):=by
 obtain⟨j,hj,hjs⟩:=Option.map_eq_some_iff.1 (show (Tryz.prog.info? 69).map (·.size)=some 2 by kernel_rfl);go_enter Tryz.func131,Tryz.ntmps131;go_wp2;rw[Lib.run_to_unsafe w ⟨b,0,none⟩ Tryz.underlying66 Tryz.underlying248 hj (by rw[hjs];decide) hsh (Nat.zero_lt_succ 1)];simp only[Result.andThen]
 rw[Oper.upon_value];go_wp2;rw[run_callFunc_extern Tryz.func167 (by kernel_rfl) (by kernel_rfl) (by kernel_rfl) (e:=Extern.AbiNoEscape.same) (by kernel_rfl)];rw[Lib.run_noEscape];simp only[Result.andThen]
 rw[Oper.upon_value];go_wp2;rw[Lib.run_from_unsafe w ⟨b,0,none⟩ Tryz.underlying248 Tryz.underlying66 hj hsh (by kernel_rfl)];simp only[Result.andThen]
 rw[Oper.upon_value];go_wp2;go_end0;exact⟨rfl,rfl⟩
theorem ccW_bf (B b:Nat) (bs:List Value) (w:World) (h:Lib.IsBuilder 71 5 B b bs w):
  Calls Tryz.prog 131 #[.pointer (some ⟨b,0,none⟩)] w fun e w'=>e=.returned (.tuple #[])∧(Lib.BuilderAt 71 5 B b (.pointer (some ⟨b,0,none⟩)) bs w'∧Below B w w'∧BF b w w'):=by
 rcases h with h|h
 ·refine (cc_freshW b w h.cell0 h.shape h.frozen0).mono ?_;rintro e w' ⟨rfl,rfl⟩;exact⟨rfl,h.used _,(Below.refl B w).setCell (p:=⟨b,0,none⟩) h.1 _,(BF.refl b w).set 0 _⟩
 ·refine (cc_used b w h.cell0).mono ?_;rintro e w' ⟨rfl,rfl⟩;exact⟨rfl,h,Below.refl B _,BF.refl b _⟩
theorem wrsW_bf (B b:Nat) (bs:List Value) (s:ByteArray) (w:World) (h:Lib.IsBuilder 71 5 B b bs w) (hlen:bs.length+s.size≤140737488355328) (hBw:B≤w.heap.size):
  Calls Tryz.prog 95 #[.pointer (some ⟨b,0,none⟩),.string s] w fun e w'=>e=.returned (.tuple #[.int .i64 s.size,.nilIface])∧(Lib.BuilderAt 71 5 B b (.pointer (some ⟨b,0,none⟩)) (bs++lc s.data.toList) w'∧Below B w w'∧BF b w w'):=by
 obtain⟨i0,hi,hz0,hz1,hz2⟩:=info_parts (show (Tryz.prog.info? 5).map (fun i=>(i.zero,i.size,i.bytes))=some (some (.int .u8 0),1,1) by kernel_rfl);have HC:=zH (ccW_bf B b bs w h);go_enter Tryz.func95,Tryz.ntmps95;go_wp2_with fail;refine HC.out.mono ?_;rintro e w1 ⟨rfl,h1,hb1,hf1⟩;obtain⟨hB,v,hbk,hown,hne⟩:=h1;have c0:w1.cell? ⟨b,0,none⟩=some (.pointer (some ⟨b,0,none⟩)):=by rw[Lib.cell_of_heap hbk];rfl
 have c1:w1.cell? ⟨b,1,none⟩=some v:=by rw[Lib.cell_of_heap hbk];rfl
 go_wp2_with (at_builtin;refine Lib.wpList_append_own_string _ rfl _ _ 67 9 rfl B 5 i0 Tryz.underlying67 Tryz.underlying9 hi hz0 hz1 hz2 _ _ _ rfl hown s rfl ?c3 ?c4 ?c5 ?_)
 case c3=>unfold maxLen;omega
 case c4=>omega
 case c5=>have:=hb1.size;omega
 intro v' w2 hown' hgrow _
 have hlt:b<w1.heap.size:=by
  rcases Nat.lt_or_ge b w1.heap.size with h'|h'
  ·exact h'
  ·simp[Array.getElem?_eq_none h'] at hbk
 have hb2:w2.heap[b]?=some (.cells #[.pointer (some ⟨b,0,none⟩),v] 71 (0,0)):=by
  rw[hgrow.block b hlt (fun e=>hne e.symm)];exact hbk
 have d0:w2.cell? ⟨b,0,none⟩=some (.pointer (some ⟨b,0,none⟩)):=by rw[Lib.cell_of_heap hb2];rfl
 have d1:w2.cell? ⟨b,1,none⟩=some v:=by rw[Lib.cell_of_heap hb2];rfl
 have f1:w2.frozen? ⟨b,1,none⟩=false:=Lib.frozen_of_heap hb2 1;have HF:Hid (BF b w w2):=hf1.trans (BF.grown hown hgrow);clear hf1
 obtain⟨ao,n',cap,rfl⟩:∃ao n' cap,v'=.slice ao n' cap:=by
  rcases hown'.2 with⟨hv,_⟩|⟨g,cap,cur,hv,_⟩
  ·exact⟨_,_,_,hv⟩
  ·exact⟨_,_,_,hv⟩
 go_wp2;go_ret2;refine⟨rfl,?_,?_,HF.out.set 1 _⟩
 ·exact Lib.BuilderAt.put (T:=71) (e:=5) hB hb2 (bs':=bs++lc s.data.toList) (by simpa [Lib.strCells_length,lc,Lib.strCells] using hown') (by decide)
 ·exact (hb1.grown hgrow (by have:=hb1.size;omega) (fun k hk=>(hown.lt k hk).1)).setCell (p:=⟨b,1,none⟩) hB _
theorem strW_any (B b:Nat) (p:Value) (l:List UInt8) (w:World) (h:Lib.BuilderAt 71 5 B b p (lc l) w) (h0:l≠[]):
  Calls Tryz.prog 23 #[.pointer (some ⟨b,0,none⟩)] w fun e w'=>e=.returned (.string ⟨l.toArray⟩)∧Below B w w':=by
 obtain⟨hB,v,hbk,hown,hne⟩:=h;have hl0:l.length≠0:=by simpa using h0
 rw[lc_len] at hown
 obtain⟨g,cap,cur,rfl,hbg,hg,hnc,hcm,hcs,htake⟩:∃g cap cur,v=.slice (some ⟨g,0,none⟩) l.length cap∧B≤g∧w.heap[g]?=some (.cells cur 5 (0,0))∧l.length≤cap∧cap≤maxLen∧cur.size=cap*1∧cur.toList.take (l.length*1)=lc l:=by
  rcases hown.2 with⟨_,hz⟩|⟨g,cap,cur,hv,r⟩
  ·exact absurd hz hl0
  ·exact⟨g,cap,cur,hv,r⟩
 have c1:w.cell? ⟨b,1,none⟩=some (.slice (some ⟨g,0,none⟩) l.length cap):=by rw[Lib.cell_of_heap hbk];rfl
 have hSD:(Builtin.unsafeSliceData_ #[67] 124 #[.slice (some ⟨g,0,none⟩) l.length cap]).run Tryz.prog w.drew=.ok (.pointer (some ⟨g,0,none⟩)) w.drew:=
  Lib.run_unsafeSliceData_row _ _ _ _ _ _ (by omega)
 have hUS:(Builtin.unsafeString_ #[124,3] 9 #[.pointer (some ⟨g,0,none⟩),.int .i64 l.length]).run Tryz.prog w.drew=.ok (.string ⟨l.toArray⟩) (w.drew.freeze ⟨g,0,none⟩ l.length):=by
  refine Lib.run_unsafeString_row w.drew 124 3 9 5 Tryz.underlying124 (by kernel_rfl) g cur.size (by have hg':w.drew.heap[g]?=some (.cells cur 5 (0,0)):=hg;simp[World.shape?,hg']) l h0 (by omega) (by unfold maxLen at hcm;omega) ?_;intro j x hx;have:=hown.cells (g:=g) rfl j (.int .u8 x.toNat) (by simp[lc,hx]);exact this
 go_enter Tryz.func23,Tryz.ntmps23;go_wp2;go_region
 all_goals (go_wp2;go_ret;exact⟨rfl,Lib.below_freeze (Below.drew (Below.refl B w)) (p:=⟨g,0,none⟩) hbg _⟩)
def bytesL (l:List ByteArray):List UInt8:=l.flatMap fun s=>s.data.toList
theorem bytesL_app (a b:List ByteArray):bytesL (a++b)=bytesL a++bytesL b:=List.flatMap_append
theorem bytesL_one (a:ByteArray):bytesL [a]=a.data.toList:=by unfold bytesL;simp
theorem strs_map (l:List ByteArray):strs l=l.map Value.string:=by
 unfold strs
 induction l with
 |nil=>rfl
 |cons a l ih=>rw[List.flatMap_cons,ih];rfl
theorem strs_get {l:List ByteArray} {w:World} {g:Nat} (h:Blk w g 9 (strs l)) {i:Nat} (hi:i<l.length):w.cell? ⟨g,i,none⟩=some (.string l[i]):=by
 rw[h.cells i];have:strs l=l.map Value.string:=strs_map l;rw[this,List.getElem?_map,List.getElem?_eq_getElem hi];rfl
theorem uWords_any (B b g n c:Nat) (bs:List UInt8) (l:List ByteArray) (w:World) (h:Lib.IsBuilder 71 5 B b (lc bs) w) (hg:Blk w g 9 (strs l)) (hgb:g≠b) (hn:n=l.length) (hm:n≤1000) (h0:l≠[])
  (hlen:bs.length+(bytesL l).length≤100000000000000) (hBw:B≤w.heap.size):
  Calls Tryz.prog 50 #[.pointer (some ⟨b,0,none⟩),.slice (some ⟨g,0,none⟩) n c] w fun e w'=>e=.returned (.tuple #[])∧(Lib.BuilderAt 71 5 B b (.pointer (some ⟨b,0,none⟩)) (lc (bs++bytesL l)) w'∧Below B w w'∧BF b w w'):=by
 have H:=zH h;have HG:=zH hg;have HN:=zH hn;clear h hg hn;go_enter Tryz.func50,Tryz.ntmps50;go_wp2_with fail
 go_loopg [8] n (fun q iv wr=>∃i:Nat,i+q=n∧iv=.int .i64 i∧Hid (Lib.IsBuilder 71 5 B b (lc (bs++bytesL (l.take i))) wr)∧Hid (0<i→Lib.BuilderAt 71 5 B b (.pointer (some ⟨b,0,none⟩)) (lc (bs++bytesL (l.take i))) wr)∧Hid (Below B w wr)∧Hid (BF b w wr))
 case atStart=>exact⟨0,by omega,rfl,(by show Lib.IsBuilder _ _ _ _ _ _;rw[List.take_zero,show bytesL []=[] from rfl,List.append_nil];exact H.out),(fun h=>absurd h (by omega)),Below.refl _ _,BF.refl _ _⟩
 case round=>
  obtain⟨i,hi,rfl,hib,hat,hbr,hbf⟩:=hrel;by_cases hlt:i<n
  ·have hil:i<l.length:=by rw[←HN.out];exact hlt
   have hc:=strs_get (hbf.out.blk HG.out (by decide) hgb) hil;have HTK:Hid (l.take (i+1)=l.take i++[l[i]]):=List.take_succ_eq_append_getElem hil
   have hle:(lc (bs++bytesL (l.take i))).length+l[i].size≤140737488355328:=by
    rw[lc_len,List.length_append];have h1:(bytesL l).length=(bytesL (l.take (i+1))).length+(bytesL (l.drop (i+1))).length:=by rw[←List.length_append,←bytesL_app,List.take_append_drop]
    rw[HTK.out,bytesL_app,bytesL_one,List.length_append] at h1;have h2:l[i].size=l[i].data.toList.length:=by show l[i].data.size=_;rw[Array.length_toList]
    omega
   generalize l[i]=x at*;have HW:=zH (wrsW_bf B b (lc (bs++bytesL (l.take i))) x wr hib.out hle (Nat.le_trans hBw hbr.out.size));clear hle hib hat;go_wp2_with fail;refine HW.out.mono ?_;rintro e w5 ⟨rfl,hx,hb5,hf5⟩
   have HX:Hid (Lib.BuilderAt 71 5 B b (.pointer (some ⟨b,0,none⟩)) (lc (bs++bytesL (l.take (i+1)))) w5):=by
    show Lib.BuilderAt _ _ _ _ _ _ _;rw[HTK.out,bytesL_app,bytesL_one,←List.append_assoc,lc_app (bs++_)];exact hx
   have HB5:=zH (hbr.out.trans hb5);have HF5:=zH (hbf.out.trans hf5);clear hx hb5 hf5 hbr hbf hc;go_wp2
   go_roundg (n-(i+1))
   case measure=>omega
   case rel=>exact⟨i+1,by omega,by go_num,.inr HX.out,(fun _=>HX.out),HB5,HF5⟩
  ·have hin:i=l.length:=by have:=HN.out;omega
   have hpos:0<i:=by rw[hin];exact List.length_pos_iff.2 h0
   have hx:=hat.out hpos;rw[hin,List.take_length] at hx;have HX:=zH hx;clear hx hat hib;go_wp2;go_end0;exact⟨rfl,HX.out,hbr.out,hbf.out⟩
def tyText (t:Ty):ByteArray:=if t.truth then ⟨#[116,114,117,116,104]⟩ else ⟨#[109]⟩++textR (ofI t.money)++⟨#[100]⟩++textR (ofI t.days)
theorem cat_size (a b:ByteArray):(a++b).size=a.size+b.size:=ByteArray.size_append
theorem uTypeText_any (t:Ty) (w:World) (hL:LaidK w) (hm1:-1000≤t.money∧t.money≤1000) (hd1:-1000≤t.days∧t.days≤1000) (hz:(ofI t.money).num.size≤1048576∧(ofI t.money).den.size≤1048576) (hz2:(ofI t.days).num.size≤1048576∧(ofI t.days).den.size≤1048576):
  Calls Tryz.prog 51 #[t.v] w fun e w'=>e=.returned (.string (tyText t))∧Below w.heap.size w w':=by
 obtain⟨tr,m,d⟩:=t;simp only at hm1 hd1 hz hz2;have HO1:=zH (fun W=>qOf_any m W (by omega) (by omega));have HO2:=zH (fun W=>qOf_any d W (by omega) (by omega));obtain⟨W,hW⟩:=zE (w.alloc (.cells #[.bool tr,.int .i64 m,.int .i64 d] 35));obtain⟨B,hB⟩:=zE w.heap.size;have HK:Hid (Blk W B 35 [.bool tr,.int .i64 m,.int .i64 d]):=by show Blk _ _ _ _;rw[hW,hB];exact Blk.new w _ _
 have HBA:Hid (Below w.heap.size w W):=by show Below _ _ _;rw[hW];exact zB _ _
 have HT1:=zH (fun W' (hb:Below W.heap.size W W')=>qText_any (ofI m) W' (hL.below (bstep HBA.out hb)).e.base hz.1 hz.2);have HT2:=zH (fun W' (hb:Below W.heap.size W W')=>qText_any (ofI d) W' (hL.below (bstep HBA.out hb)).e.base hz2.1 hz2.2);have h1:=textR_size (ofI m) hz.1 hz.2;have h2:=textR_size (ofI d) hz2.1 hz2.2;unfold tyText Ty.v;simp only
 generalize textR (ofI m)=tm at*;generalize textR (ofI d)=td at*;have hkc:=HK.out.cells;cases tr
 ·have hs1:¬(9223372036854775807<(⟨#[109]⟩:ByteArray).size+tm.size):=by have:(⟨#[109]⟩:ByteArray).size=1:=rfl;omega
  have hs2:¬(9223372036854775807<(⟨#[109]⟩++tm:ByteArray).size+(⟨#[100]⟩:ByteArray).size):=by rw[cat_size];have:(⟨#[109]⟩:ByteArray).size=1:=rfl;have:(⟨#[100]⟩:ByteArray).size=1:=rfl;omega
  have hs3:¬(9223372036854775807<(⟨#[109]⟩++tm++⟨#[100]⟩:ByteArray).size+td.size):=by rw[cat_size,cat_size];have:(⟨#[109]⟩:ByteArray).size=1:=rfl;have:(⟨#[100]⟩:ByteArray).size=1:=rfl;omega
  have s1:¬(9223372036854775807<1+tm.size):=by omega
  have s2:¬(9223372036854775807<(⟨#[109]⟩++tm:ByteArray).size+1):=hs2;have s3:¬(9223372036854775807<1+tm.size+1):=by omega
  have s4:¬(9223372036854775807<1+tm.size+1+td.size):=by omega
  have HSS:Hid (∀W',Below W.heap.size W W'→Below W.heap.size W W'∧W'.cell? ⟨B,1,none⟩=some (.int .i64 m)∧W'.cell? ⟨B,2,none⟩=some (.int .i64 d)):=fun W' hb=>⟨hb,(hb.cell HK.out.lt).trans (HK.out.cells 1),(hb.cell HK.out.lt).trans (HK.out.cells 2)⟩
  clear hm1 hd1 hz hz2 hL h1 h2;go_enter Tryz.func51,Tryz.ntmps51
  go_upto_region 1 with fail
  simp only[←hW,←hB]
  clear hW hB
  go_upto_region 3 with fail
  refine wp_region_noPanic ?_;refine wp_region_held_drew (S:=(fun w'=>Below W.heap.size W w'∧w'.cell? ⟨B,1,none⟩=some (.int .i64 m)∧w'.cell? ⟨B,2,none⟩=some (.int .i64 d))) (by kernel_rfl) (HSS.out _ (drewN_below W.heap.size W 1)) (fun hHeld=>?_);refine tkZ 0 ?_;refine tkZ 1 ?_;refine tkZ 2 ?_;refine tkZ 7 ?_;refine tkZ 8 ?_;refine tkZ 9 ?_;refine tkR 3 fun K hK=>?_
  go_simp;have hbS:=hHeld.1;refine (HO1.out _).mono ?_;rintro e w10 ⟨rfl,hb10⟩;have HBT:=zH (bstep hbS hb10);go_wp2_with fail;refine tkK hK (HSS.out _ HBT.out) fun hHeld=>?_
  clear hK K;refine tkR 4 fun K hK=>?_
  go_simp;have hbS:=hHeld.1;refine (HT1.out _ hbS).mono ?_;rintro e w10 ⟨rfl,hb10⟩;have HBT:=zH (bstep hbS hb10);go_wp2_with fail;refine tkK hK (HSS.out _ HBT.out) fun hHeld=>?_
  clear hK K;refine tkZ 5 ?_;refine tkZ 6 ?_;refine tkR 10 fun K hK=>?_
  go_simp;have hbS:=hHeld.1;refine (HO2.out _).mono ?_;rintro e w10 ⟨rfl,hb10⟩;have HBT:=zH (bstep hbS hb10);go_wp2_with fail;refine tkK hK (HSS.out _ HBT.out) fun hHeld=>?_
  clear hK K;refine tkR 11 fun K hK=>?_
  go_simp;have hbS:=hHeld.1;refine (HT2.out _ hbS).mono ?_;rintro e w10 ⟨rfl,hb10⟩;have HBT:=zH (bstep hbS hb10);go_wp2_with fail;refine tkK hK (HSS.out _ HBT.out) fun hHeld=>?_
  clear hK K;refine tkZ 12 ?_;refine tkZ 13 ?_;refine wpAnyH_done (by kernel_rfl) ?_ _;refine NoPanic.normal ?_;go_wp2;go_ret;exact⟨rfl,bstep HBA.out HBT.out⟩
 ·clear hm1 hd1 hz hz2 hL h1 h2;go_enter Tryz.func51,Tryz.ntmps51
  go_upto_region 1 with fail
  simp only[←hW,←hB]
  clear hW hB;go_wp2;go_ret;exact⟨rfl,HBA.out⟩
def tyIn (t:Ty):Bool:=if t.truth then decide (t.money=0)&&decide (t.days=0) else decide (-3≤t.money)&&decide (t.money≤3)&&(decide (-3≤t.days)&&decide (t.days≤3))
def seven:List Int:=[-3,-2,-1,0,1,2,3]
theorem seven_mem {m:Int} (h:-3≤m) (k:m≤3):m∈seven:=by
 have:m= -3∨m= -2∨m= -1∨m=0∨m=1∨m=2∨m=3:=by omega
 unfold seven;simp only[List.mem_cons]
 omega
theorem seven_fine:∀m∈seven,(ofI m).num.size≤1048576∧(ofI m).den.size≤1048576:=by decide+kernel
theorem seven_inj:∀m∈seven,∀d∈seven,∀a∈seven,∀b∈seven,(tyText ⟨false,m,d⟩).data.toList=(tyText ⟨false,a,b⟩).data.toList→m=a∧d=b:=by decide+kernel
theorem seven_truth:∀m∈seven,∀d∈seven,((tyText ⟨false,m,d⟩).data.toList==[116,114,117,116,104])=false:=by decide+kernel
theorem uTypeOf_any (t:Ty) (w:World) (hL:LaidK w) (ht:tyIn t=true):Calls Tryz.prog 90 #[.string (tyText t)] w fun e w'=>e=.returned t.v∧Below w.heap.size w w':=by
 obtain⟨tr,tm,td⟩:=t;obtain⟨W,hW⟩:=zE (w.alloc (.cells #[.bool false,.int .i64 0,.int .i64 0] 35));obtain⟨B,hB⟩:=zE w.heap.size;have HK:Hid (Blk W B 35 [.bool false,.int .i64 0,.int .i64 0]):=by show Blk _ _ _ _;rw[hW,hB];exact Blk.new w _ _
 have HBA:Hid (Below w.heap.size w W):=by show Below _ _ _;rw[hW];exact zB _ _
 have HBB:=zH (Nat.le_of_eq hB.symm);unfold tyIn at ht;simp only at ht;unfold Ty.v;simp only
 cases tr
 ·simp only[Bool.false_eq_true,if_false,Bool.and_eq_true,decide_eq_true_eq] at ht;obtain⟨⟨hm1,hm2⟩,hd1,hd2⟩:=ht;have hst:((tyText ⟨false,tm,td⟩).toList==[116,114,117,116,104])=false:=by rw[ByteArray.toList_eq];exact seven_truth tm (seven_mem hm1 hm2) td (seven_mem hd1 hd2)
  have HIN:Hid (∀m d:Int,-3≤m→m≤3→ -3≤d→d≤3→tyText ⟨false,m,d⟩=tyText ⟨false,tm,td⟩→m=tm∧d=td):=fun m d h1 h2 h3 h4 e=>seven_inj m (seven_mem h1 h2) d (seven_mem h3 h4) tm (seven_mem hm1 hm2) td (seven_mem hd1 hd2) (by rw[e])
  have HTT:Hid (∀(m d:Int) (W':World),-3≤m→m≤3→ -3≤d→d≤3→Below w.heap.size w W'→Calls Tryz.prog 51 #[.agg #[.bool false,.int .i64 m,.int .i64 d]] W' fun e w'=>e=.returned (.string (tyText ⟨false,m,d⟩))∧Below W'.heap.size W' w'):=fun m d W' h1 h2 h3 h4 hb=>
   uTypeText_any ⟨false,m,d⟩ W' (hL.below hb) ⟨by show (-1000:Int)≤m;omega,by show m≤(1000:Int);omega⟩ ⟨by show (-1000:Int)≤d;omega,by show d≤(1000:Int);omega⟩ (seven_fine m (seven_mem h1 h2)) (seven_fine d (seven_mem h3 h4))
  have HEQ:Hid (tyText ⟨false,tm,td⟩=tyText ⟨false,tm,td⟩):=rfl;obtain⟨s,hs⟩:=zE (tyText ⟨false,tm,td⟩);rw[←hs] at hst HIN HEQ⊢;have HS:=zH hs;clear hL hs HEQ;go_enter Tryz.func90,Tryz.ntmps90
  go_upto_region 1 with fail
  simp only[←hW,←hB]
  clear hW hB;go_wp2_with fail
  go_loopg [3] 7 (fun g iv wr=>∃i:Nat,i+g=7∧iv=.int .i64 (-3+(i:Int))∧Hid (-3+(i:Int)≤tm)∧Hid (Below w.heap.size w wr)∧Hid (Blk wr B 35 [.bool false,.int .i64 0,.int .i64 0]))
  case atStart=>exact⟨0,by omega,rfl,(by show-3+((0:Nat):Int)≤tm;omega),HBA,HK⟩
  case round=>
   obtain⟨i,hi,rfl,hle,hbr,hbk⟩:=hrel;have hlt:i<7:=by have:=hle.out;omega
   have h3:-3+(i:Int)≤3:=by omega
   clear HK HBA;go_wp2_with fail
   go_loopg [4] 7 (fun g iv wr=>∃k:Nat,k+g=7∧iv=.int .i64 (-3+(k:Int))∧Hid (-3+(i:Int)=tm→ -3+(k:Int)≤td)∧Hid (Below w.heap.size w wr)∧Hid (Blk wr B 35 [.bool false,.int .i64 0,.int .i64 0]))
   case atStart=>exact⟨0,by omega,rfl,(fun _=>by omega),hbr,hbk⟩
   case round=>
    obtain⟨k,hk,rfl,hkd,hbr,hbk⟩:=hrel;by_cases hlk:k<7
    ·have h4:-3+(k:Int)≤3:=by omega
     obtain⟨W2,hW2⟩:=zE (wr.alloc (.cells #[.bool false,.int .i64 (-3+(i:Int)),.int .i64 (-3+(k:Int))] 35));obtain⟨C,hC⟩:=zE wr.heap.size;have HKC:Hid (Blk W2 C 35 [.bool false,.int .i64 (-3+(i:Int)),.int .i64 (-3+(k:Int))]):=by show Blk _ _ _ _;rw[hW2,hC];exact Blk.new wr _ _
     have HBa:Below wr.heap.size wr W2:=by rw[hW2];exact zB _ _
     have HB2:=zH (bstep hbr.out HBa);have HK2:Hid (Blk W2 B 35 [.bool false,.int .i64 0,.int .i64 0]):=hbk.out.below HBa hbk.out.lt;have HNE:Hid (B≠C):=by have:=hbk.out.lt;show B≠C;omega
     have HTX:=zH (HTT.out (-3+(i:Int)) (-3+(k:Int)) W2 (by omega) h3 (by omega) h4 HB2.out);have HE:Hid (tyText ⟨false,-3+(i:Int),-3+(k:Int)⟩=s→ -3+(i:Int)=tm∧-3+(k:Int)=td):=HIN.out _ _ (by omega) h3 (by omega) h4;have HE2:Hid (-3+(i:Int)=tm∧-3+(k:Int)=td→tyText ⟨false,-3+(i:Int),-3+(k:Int)⟩=s):=fun h=>by rw[HS.out,h.1,h.2]
     generalize tyText ⟨false,-3+(i:Int),-3+(k:Int)⟩=x at*;have hkc:=HKC.out.cells;clear HBa hbr hbk
     go_upto_region 10 with fail
     simp only[←hW2,←hC]
     clear hW2 hC;go_wp2_with fail;refine HTX.out.mono ?_;rintro e w5 ⟨rfl,hb5⟩;have HB5:=zH (bstep HB2.out hb5);have HK5:Hid (Blk w5 B 35 [.bool false,.int .i64 0,.int .i64 0]):=HK2.out.below hb5 HK2.out.lt;have HC5:Hid (Blk w5 C 35 [.bool false,.int .i64 (-3+(i:Int)),.int .i64 (-3+(k:Int))]):=HKC.out.below hb5 HKC.out.lt;clear hb5 hkc HTX HK2 HKC;by_cases hx:x=s
     ·subst hx;obtain⟨e1,e2⟩:=HE.out rfl;have hkc:=HC5.out.cells;have hkb:=HK5.out.cells;have hfb:=HK5.out.froz;have hne:¬B=C:=HNE.out;have hne':¬C=B:=fun e=>hne e.symm
      have HV:Hid (-3+(i:Int)=tm∧-3+(k:Int)=td):=⟨e1,e2⟩
      clear e1 e2;go_wp2;have HKF:=((HK5.out.set 0 (.bool false)).set 1 (.int .i64 (-3+(i:Int)))).set 2 (.int .i64 (-3+(k:Int)));have hc:=HKF.cells;refine bodyPost_ret (v:=.agg #[.bool false,.int .i64 (-3+(i:Int)),.int .i64 (-3+(k:Int))]) (by simp[results,Tryz.results90,go_sem,hc]) rfl ⟨by rw[HV.out.1,HV.out.2],?_⟩;exact ((HB5.out.setCell (p:=⟨B,0,none⟩) HBB.out _).setCell (p:=⟨B,1,none⟩) HBB.out _).setCell (p:=⟨B,2,none⟩) HBB.out _
     ·have hxe:(x.toList==s.toList)=false:=beq_eq_false_iff_ne.2 (fun h=>hx (toList_inj h))
      have HKD:Hid (-3+(i:Int)=tm→ -3+((k+1:Nat):Int)≤td):=fun h=>by
       have h1:=hkd.out h;have h2:¬(-3+(k:Int)=td):=fun h'=>hx (HE2.out ⟨h,h'⟩)
       omega
      clear HE HE2 hx hkd;go_wp2
      go_roundg (7-(k+1))
      case measure=>omega
      case rel=>exact⟨k+1,by omega,by go_num,HKD,HB5,HK5⟩
    ·have h4:¬(-3+(k:Int)≤3):=by omega
     have HLE:Hid (-3+((i+1:Nat):Int)≤tm):=by
      have h1:¬(-3+(i:Int)=tm):=fun h=>by have:=hkd.out h;omega
      have h2:=hle.out;show-3+((i+1:Nat):Int)≤tm;omega
     clear hkd hle;go_wp2
     go_roundg (7-(i+1))
     case measure=>omega
     case rel=>exact⟨i+1,by omega,by go_num,HLE,hbr,hbk⟩
 ·simp only[if_true,Bool.and_eq_true,decide_eq_true_eq] at ht;obtain⟨rfl,rfl⟩:=ht;have hs:tyText ⟨true,0,0⟩=⟨#[116,114,117,116,104]⟩:=rfl;rw[hs];clear hL hs;have hst:((⟨#[116,114,117,116,104]⟩:ByteArray).toList==[116,114,117,116,104])=true:=by rw[ByteArray.toList_eq];rfl
  have hkb:=HK.out.cells;have hfb:=HK.out.froz;go_enter Tryz.func90,Tryz.ntmps90
  go_upto_region 1 with fail
  simp only[←hW,←hB]
  clear hW hB;go_wp2;have HKF:=((HK.out.set 0 (.bool true)).set 1 (.int .i64 0)).set 2 (.int .i64 0);have hc:=HKF.cells;refine bodyPost_ret (v:=.agg #[.bool true,.int .i64 0,.int .i64 0]) (by simp[results,Tryz.results90,go_sem,hc]) rfl ⟨rfl,?_⟩;exact ((HBA.out.setCell (p:=⟨B,0,none⟩) HBB.out _).setCell (p:=⟨B,1,none⟩) HBB.out _).setCell (p:=⟨B,2,none⟩) HBB.out _
structure TF (t:TypeId) (w w':World):Prop where
 size:w.heap.size≤w'.heap.size
 keep:∀(k:Nat) (cs:Array Value) (t':TypeId) (fr:Nat × Nat),w.heap[k]?=some (Obj.cells cs t' fr)→t'≠t→w'.heap[k]?=some (Obj.cells cs t' fr)
theorem TF.own {t e:TypeId} {w w':World} {B s n:Nat} {v:Value} {xs:List Value} (h:TF t w w') (ho:w.ownsRow B e s v n xs) (he:e≠t):w'.ownsRow B e s v n xs:=by
 refine⟨ho.1,ho.2.imp id ?_⟩;rintro⟨g,cap,cur,h1,h2,h3,h4⟩;exact⟨g,cap,cur,h1,h2,h.keep g _ _ _ h3 he,h4⟩
theorem TF.blk {t e:TypeId} {w w':World} {b:Nat} {cs:List Value} (h:TF t w w') (hb:Blk w b e cs) (he:e≠t):Blk w' b e cs:=h.keep b _ _ _ hb he
theorem TF.grown {t:TypeId} {w w':World} {B s n:Nat} {v:Value} {xs:List Value} (ho:w.ownsRow B t s v n xs) (hg:w.grownBy w' v.ownBlock):TF t w w':=by
 refine⟨hg.size,fun k cs t' fr hk ht=>(hg.block k (lt_of_some hk) ?_).trans hk⟩;intro he;rcases ho.2 with⟨rfl,_⟩|⟨g,cap,cur,rfl,_,h3,_⟩
 ·cases he
 ·injection he with he;subst he;rw[h3] at hk;injection hk with hk;injection hk with _ h5 _;exact ht h5.symm
theorem TF.set {t e:TypeId} {w:World} {R:Nat} {cs:List Value} (hb:Blk w R t cs) (i:Nat) (u:Value):TF t w (w.setCell ⟨R,i,none⟩ u):=by
 refine⟨by simp[World.setCell],fun k cs' t' fr hk ht=>(Below.heap_setCell w _ u k ?_).trans hk⟩;show k≠R;rintro rfl;have h:w.heap[k]?=_:=hb;rw[h] at hk;injection hk with hk;injection hk with _ h5 _;exact ht h5.symm
structure FR (R:Nat) (w w':World):Prop where
 size:w.heap.size≤w'.heap.size
 keep:∀(k:Nat) (o:Obj),w.heap[k]?=some o→k≠R→(∀cs t fr,o=Obj.cells cs t fr→t≠52∧t≠79∧t≠41)→w'.heap[k]?=some o
theorem FR.below {R:Nat} {w w':World} (h:Below w.heap.size w w'):FR R w w':=⟨h.size,fun k o hk _ _=>(h.block k (lt_of_some hk)).trans hk⟩
theorem FR.trans {R:Nat} {a b c:World} (h:FR R a b) (k:FR R b c):FR R a c:=⟨Nat.le_trans h.size k.size,fun i o hi hr ho=>k.keep i o (h.keep i o hi hr ho) hr ho⟩
theorem FR.grown {R i:Nat} {w w1 w2:World} {B e s n:Nat} {v u:Value} {xs:List Value} (hb:Below w.heap.size w w1) (ho:w1.ownsRow B e s v n xs) (he:e=52∨e=79∨e=41) (hg:w1.grownBy w2 v.ownBlock):FR R w (w2.setCell ⟨R,i,none⟩ u):=by
 refine⟨Nat.le_trans hb.size (Nat.le_trans hg.size (by simp[World.setCell])),fun k o hk hR ht=>?_⟩;have h1:w1.heap[k]?=some o:=(hb.block k (lt_of_some hk)).trans hk;refine (Below.heap_setCell w2 _ u k hR).trans ((hg.block k (lt_of_some h1) ?_).trans h1);intro hq;rcases ho.2 with⟨rfl,_⟩|⟨g,cap,cur,rfl,_,h3,_⟩
 ·cases hq
 ·injection hq with hq;subst hq;rw[h3] at h1;injection h1 with h1;obtain⟨k1,k2,k3⟩:=ht _ _ _ h1.symm;rcases he with h|h|h
  ·exact k1 h
  ·exact k2 h
  ·exact k3 h
structure PT (w0 w:World) (R:Nat) (l:Lw) (ss:List (Sc × Hd)) (ps:List (Pv × Hd)) (fv sv pv:Value):Prop where
 r:w0.heap.size≤R
 bl:Below w0.heap.size w0 w
 blk:Blk w R 28 [fv,sv,pv]
 f:w.ownsRow (R+1) 52 4 fv l.facts.length (l.facts.flatMap Dc.cells)
 s:w.ownsRow (R+1) 79 4 sv ss.length (ss.flatMap scCells)
 p:w.ownsRow (R+1) 41 12 pv ps.length (ps.flatMap pvCells)
 sl:ss.map Prod.fst=l.schs
 pl:ps.map Prod.fst=l.provs
 sb:∀x∈ss,x.2.n=x.1.brs.length∧w.ownsRow (R+1) 121 6 (.slice x.2.a x.2.n x.2.c) x.2.n (x.1.brs.flatMap Bk.cells)
 pb:∀x∈ps,x.2.n=x.1.body.length∧w.ownsRow (R+1) 87 5 (.slice x.2.a x.2.n x.2.c) x.2.n (nds x.1.body)
theorem PT.below {w0 w w':World} {R:Nat} {l:Lw} {ss:List (Sc × Hd)} {ps:List (Pv × Hd)} {fv sv pv:Value} (h:PT w0 w R l ss ps fv sv pv) (hb:Below w.heap.size w w'):PT w0 w' R l ss ps fv sv pv:=
 ⟨h.r,bstep h.bl hb,h.blk.below hb h.blk.lt,own_below h.f hb,own_below h.s hb,own_below h.p hb,h.sl,h.pl,fun x hx=>⟨(h.sb x hx).1,own_below (h.sb x hx).2 hb⟩,fun x hx=>⟨(h.pb x hx).1,own_below (h.pb x hx).2 hb⟩⟩
theorem own_hd {w:World} {B e s n:Nat} {A:Option Addr} {m c:Nat} {xs:List Value} (h:w.ownsRow B e s (.slice A m c) n xs):m=n∧n≤c∧c≤maxLen∧Rd w A xs:=by
 obtain⟨A',c',hv,h1,h2,h3,_⟩:=own_rd h;injection hv with e1 e2 e3;exact⟨e2,by omega,by omega,by rw[e1];exact h3⟩
theorem PT.law {w0 w:World} {R:Nat} {l:Lw} {ss:List (Sc × Hd)} {ps:List (Pv × Hd)} {fv sv pv:Value} (h:PT w0 w R l ss ps fv sv pv):∃f s p:Hd,fv=.slice f.a f.n f.c∧sv=.slice s.a s.n s.c∧pv=.slice p.a p.n p.c∧LawAt w l ss ps f s p:=by
 obtain⟨f,rfl,_,hf⟩:=RowAt.of_own h.f rfl;obtain⟨s,rfl,_,hs⟩:=RowAt.of_own h.s rfl;obtain⟨p,rfl,_,hp⟩:=RowAt.of_own h.p rfl;refine⟨f,s,p,rfl,rfl,rfl,hf,hs,hp,h.sl,h.pl,fun x hx=>?_,fun x hx=>?_⟩
 ·obtain⟨h1,h2⟩:=h.sb x hx;obtain⟨_,h3,h4,h5⟩:=own_hd h2;exact⟨h1,h3,h4,h5⟩
 ·obtain⟨h1,h2⟩:=h.pb x hx;obtain⟨_,h3,h4,h5⟩:=own_hd h2;exact⟨h1,h3,h4,h5⟩
theorem PT.bl2 {w0 W w':World} {R:Nat} {l:Lw} {ss:List (Sc × Hd)} {ps:List (Pv × Hd)} {fv sv pv v u:Value} {i n s:Nat} {e:TypeId} {xs:List Value} (h:PT w0 W R l ss ps fv sv pv) (ho:W.ownsRow (R+1) e s v n xs) (hg:W.grownBy w' v.ownBlock):Below w0.heap.size w0 (w'.setCell ⟨R,i,none⟩ u):=
 (h.bl.grown hg (by have:=h.bl.size;omega) (fun k hk=>by have h1:=(ho.lt k hk).1;have h2:=h.r;omega)).setCell (p:=⟨R,i,none⟩) h.r _
theorem PT.pushF {w0 W w':World} {R:Nat} {l:Lw} {ss:List (Sc × Hd)} {ps:List (Pv × Hd)} {fv sv pv v':Value} (h:PT w0 W R l ss ps fv sv pv) (d:Dc) (ho:w'.ownsRow (R+1) 52 4 v' (l.facts.length+1) (l.facts.flatMap Dc.cells++d.cells)) (hg:W.grownBy w' fv.ownBlock):
  PT w0 (w'.setCell ⟨R,0,none⟩ v') R ⟨l.facts++[d],l.schs,l.provs⟩ ss ps v' sv pv:=by
 have ht:=TF.grown h.f hg;refine⟨h.r,h.bl2 h.f hg,((ht.blk h.blk (by decide)).set 0 v'),?_,own_set (ht.own h.s (by decide)) 0 _,own_set (ht.own h.p (by decide)) 0 _,h.sl,h.pl,fun x hx=>⟨(h.sb x hx).1,own_set (ht.own (h.sb x hx).2 (by decide)) 0 _⟩,fun x hx=>⟨(h.pb x hx).1,own_set (ht.own (h.pb x hx).2 (by decide)) 0 _⟩⟩;have k:=own_set ho 0 v';simpa [List.length_append,List.flatMap_append] using k
theorem PT.pushS {w0 W w':World} {R:Nat} {l:Lw} {ss:List (Sc × Hd)} {ps:List (Pv × Hd)} {fv sv pv v':Value} (h:PT w0 W R l ss ps fv sv pv) (x:Sc × Hd) (hx:x.2.n=x.1.brs.length∧W.ownsRow (R+1) 121 6 (.slice x.2.a x.2.n x.2.c) x.2.n (x.1.brs.flatMap Bk.cells)) (ho:w'.ownsRow (R+1) 79 4 v' (ss.length+1) (ss.flatMap scCells++scCells x)) (hg:W.grownBy w' sv.ownBlock):
  PT w0 (w'.setCell ⟨R,1,none⟩ v') R ⟨l.facts,l.schs++[x.1],l.provs⟩ (ss++[x]) ps fv v' pv:=by
 have ht:=TF.grown h.s hg;refine⟨h.r,h.bl2 h.s hg,((ht.blk h.blk (by decide)).set 1 v'),own_set (ht.own h.f (by decide)) 1 _,?_,own_set (ht.own h.p (by decide)) 1 _,by rw[List.map_append,h.sl];rfl,h.pl,fun y hy=>?_,fun x hx=>⟨(h.pb x hx).1,own_set (ht.own (h.pb x hx).2 (by decide)) 1 _⟩⟩
 ·have k:=own_set ho 1 v';simpa [List.length_append,List.flatMap_append] using k
 ·rcases List.mem_append.1 hy with hy|hy
  ·exact⟨(h.sb y hy).1,own_set (ht.own (h.sb y hy).2 (by decide)) 1 _⟩
  ·rw[List.mem_singleton.1 hy];exact⟨hx.1,own_set (ht.own hx.2 (by decide)) 1 _⟩
theorem PT.pushP {w0 W w':World} {R:Nat} {l:Lw} {ss:List (Sc × Hd)} {ps:List (Pv × Hd)} {fv sv pv v':Value} (h:PT w0 W R l ss ps fv sv pv) (x:Pv × Hd) (hx:x.2.n=x.1.body.length∧W.ownsRow (R+1) 87 5 (.slice x.2.a x.2.n x.2.c) x.2.n (nds x.1.body)) (ho:w'.ownsRow (R+1) 41 12 v' (ps.length+1) (ps.flatMap pvCells++pvCells x)) (hg:W.grownBy w' pv.ownBlock):
  PT w0 (w'.setCell ⟨R,2,none⟩ v') R ⟨l.facts,l.schs,l.provs++[x.1]⟩ ss (ps++[x]) fv sv v':=by
 have ht:=TF.grown h.p hg;refine⟨h.r,h.bl2 h.p hg,((ht.blk h.blk (by decide)).set 2 v'),own_set (ht.own h.f (by decide)) 2 _,own_set (ht.own h.s (by decide)) 2 _,?_,h.sl,by rw[List.map_append,h.pl];rfl,fun x hx=>⟨(h.sb x hx).1,own_set (ht.own (h.sb x hx).2 (by decide)) 2 _⟩,fun y hy=>?_⟩
 ·have k:=own_set ho 2 v';simpa [List.length_append,List.flatMap_append] using k
 ·rcases List.mem_append.1 hy with hy|hy
  ·exact⟨(h.pb y hy).1,own_set (ht.own (h.pb y hy).2 (by decide)) 2 _⟩
  ·rw[List.mem_singleton.1 hy];exact⟨hx.1,own_set (ht.own hx.2 (by decide)) 2 _⟩
def NsRet (k:Nat) (w:World) (e:Ending) (w':World):Prop:=∃v ns,e=.returned v∧ns.length≤k∧w'.ownsRow w.heap.size 87 5 v ns.length (nds ns)∧Below w.heap.size w w'
theorem wafter_any (nod:Nd) (m b k:Nat) (t:TypeId) (rs:List (List Nd × Hd)) (w:World) (hk:k=rs.length) (h3:k≤3) (hm:m≤1000)
  (hb:Blk w b t (rs.map fun r=>.slice r.2.a r.2.n r.2.c)) (hr:∀r∈rs,RowAt w Nd.cells r.1 r.2∧r.1.length≤m):
  Calls Tryz.prog 116 #[.agg nod.cells.toArray,.slice (some ⟨b,0,none⟩) k k] w (NsRet (m*k+1) w):=by
 obtain⟨op,⟨neg,num,den⟩,nm⟩:=nod;show Calls _ _ #[.agg #[.int .i64 op,.bool neg,.string num,.string den,.string nm],.slice (some ⟨b,0,none⟩) k k] w _;obtain⟨W,hW⟩:=zE (w.alloc (.cells #[.int .i64 op,.bool neg,.string num,.string den,.string nm] 87));obtain⟨B,hB⟩:=zE w.heap.size;have HK:Hid (Blk W B 87 [.int .i64 op,.bool neg,.string num,.string den,.string nm]):=by show Blk _ _ _ _;rw[hW,hB];exact Blk.new w _ _
 have HBW:Hid (Below w.heap.size w W):=by show Below _ _ _;rw[hW];exact zB _ _
 have HB:=zH hb;have HR:=zH hr;have HM:=zH hm;have HKR0:=zH hk;clear hb hr hm hk;go_enter Tryz.func116,Tryz.ntmps116
 go_upto_region 1 with fail
 simp only[←hW,←hB]
 clear hW hB;go_wp2
 go_loopg [5,6] k (fun g ov iv wr=>∃(j:Nat) (os:List Nd),j+g=k∧iv=.int .i64 j∧Hid (wr.ownsRow W.heap.size 87 5 ov os.length (nds os))∧Hid (os.length≤m*j)∧Hid (Below W.heap.size W wr))
 case atStart=>exact⟨0,[],by omega,rfl,World.ownsRow_nil _ _ _ _,Nat.le_refl _,Below.refl _ _⟩
 case round=>
  obtain⟨j,os,hj,rfl,hown,hol,hbW⟩:=hrel;have hbr:=zH (bstep HBW.out hbW.out)
  have hl0:os.length≤3000:=by
   have h1:=hol.out;have h2:m*j≤1000*3:=Nat.mul_le_mul HM.out (by omega);omega
  by_cases hlt:j<k
  ·have hjl:j<rs.length:=by rw[←HKR0.out];exact hlt
   have HRJ:=HR.out _ (List.getElem_mem hjl)
   have hcell:wr.cell? ⟨b,j,none⟩=some (.slice rs[j].2.a rs[j].2.n rs[j].2.c):=by
    have h:=(HB.out.below hbr.out HB.out.lt).cells j;rw[h,List.getElem?_map,List.getElem?_eq_getElem hjl];rfl
   generalize rs[j]=r at*;replace HRJ:=zH HRJ;clear hjl;obtain⟨bs,⟨A2,l2,c2⟩⟩:=r;simp only at hcell;have hl2:=HRJ.out.1.len;have hl3:=HRJ.out.2;simp only at hl2 hl3;have hm:=HM.out;have hj0:(0:Int)≤(j:Int):=by omega
   have hj1:(j:Int)<(k:Int):=by omega
   have HL:=zH hl2;have h1000:l2≤1000:=by omega
   have HL3:Hid (l2≤m):=by show _≤_;omega
   clear hl2 hl3 hm;go_wp2_with (at_builtin;go_must (refine wpList_append_rd wr rfl _ _ 36 rfl W.heap.size 87 _ 5 64 Tryz.underlying36 info_node rfl (by decide) u5 os.length (nds os) rfl hown.out A2 l2 c2 (nds bs) rfl (HRJ.out.1.rd.below hbr.out) (by rw[nds_length,HL.out]) (nds_one _) ?_ ?_ ?_ ?_))
   any_goals first|(unfold maxLen;omega)|omega
   ·exact hbW.out.size
   intro v' w' hown' hb'
   have HOWN:Hid (w'.ownsRow W.heap.size 87 5 v' (os++bs).length (nds (os++bs))):=by
    rw[nds_append,List.length_append,←HL.out];exact hown'
   have HBN:=zH hb';clear hown' hb' hcell;go_wp2
   go_roundg (k-(j+1))
   case measure=>omega
   case rel=>
    refine⟨j+1,os++bs,by omega,by go_num,HOWN,?_,hbW.out.trans HBN.out⟩;show _≤_;rw[List.length_append,←HL.out,Nat.mul_succ];exact Nat.add_le_add hol.out HL3.out
  ·obtain rfl:j=k:=by omega
   have HKR:=zH (HK.out.below hbW.out HK.out.lt);have hkc:=HKR.out.cells;have hbz:=hbW.out.size;clear hbr;go_wp2_with (at_builtin;go_must (refine wpList_push wr #[.int .i64 op,.bool neg,.string num,.string den,.string nm] rfl _ _ 36 rfl W.heap.size 87 _ 5 64 1 Tryz.underlying36 info_node rfl (by decide) u5 os.length (nds os) rfl hown.out (by rfl) rfl ?_ ?_ ?_ ?_ ?_))
   any_goals first|(unfold maxLen;omega)|omega
   ·exact⟨rfl,rfl,rfl,rfl,rfl⟩
   intro v' w' hown' hb'
   have HOWN:Hid (w'.ownsRow w.heap.size 87 5 v' (os++[(⟨op,⟨neg,num,den⟩,nm⟩:Nd)]).length (nds (os++[(⟨op,⟨neg,num,den⟩,nm⟩:Nd)]))):=by
    rw[nds_append,List.length_append];exact own_lower hown' HBW.out.size
   have HBN:=zH (bstep HBW.out (hbW.out.trans hb'));clear hown' hb';go_wp2;go_ret;exact⟨v',_,rfl,by have:=hol.out;simp;omega,HOWN.out,HBN.out⟩
structure SgR (w:World) (D:Nat) (A:Option Addr) (k:Nat) (l:List Sg):Prop where
 len:k=l.length
 max:k≤1000
 rd:Rd w A (sgs l)
 ne:∀ad,A=some ad→ad.block≠D
theorem SgR.onl {w w':World} {D k:Nat} {A:Option Addr} {l:List Sg} (h:SgR w D A k l) (ho:Onl D w w'):SgR w' D A k l:=by
 refine⟨h.len,h.max,?_,h.ne⟩;rcases h.rd with h0|⟨b,off,e,hb,hc⟩
 ·exact .inl h0
 ·subst e;exact ho.rd (.inr ⟨b,off,rfl,hb,hc⟩) (h.ne _ rfl)
theorem onl_row {D B n s:Nat} {e:TypeId} {w w':World} {v:Value} {xs:List Value} (h:w.ownsRow B e s v n xs) (ho:Onl D w w') (hD:D<B):w'.ownsRow B e s v n xs:=by
 refine h.kept ho.grown (.inr (fun hh=>?_));have:=(h.lt _ hh).1;omega
theorem zD (w:World) (o:Obj):Below w.heap.size w (w.alloc o).drew:=have h:=zB w o;⟨h.os,h.tape,h.output,h.size,h.block⟩
theorem wleaf_any (l:List Sg) (A:Option Addr) (k c D u:Nat) (t:Bool) (m d:Int) (w:World) (hs:SgR w D A k l) (hd:DS w D u) (hu:u≤w.heap.size) (ht:t=true∨Ty4 m d):
  Calls Tryz.prog 115 #[.slice A k c,.pointer (some ⟨D,0,none⟩),.agg #[.bool t,.int .i64 m,.int .i64 d]] w (NdRet 1 D u w):=by
 obtain⟨W,hW⟩:=zE (w.alloc (.cells #[.bool t,.int .i64 m,.int .i64 d] 35));obtain⟨B,hB⟩:=zE w.heap.size;have HK:Hid (Blk W B 35 [.bool t,.int .i64 m,.int .i64 d]):=by show Blk _ _ _ _;rw[hW,hB];exact Blk.new w _ _
 have HBW:Hid (Below w.heap.size w W):=by show Below _ _ _;rw[hW];exact zB _ _
 have HBB:=zH hB;have HSG:=zH (hs.onl (Onl.of_below HBW.out));have HD:=zH (hd.below HBW.out);have HDB:=zH hd.lt;have HU:=zH hu;have HT:=zH ht;have hk100:=hs.max;clear hs hd hu ht;go_enter Tryz.func115,Tryz.ntmps115
 go_upto_region 1 with fail
 simp only[←hW,←hB]
 clear hW hB;go_wp2
 go_loopg [7,8] k (fun g ov iv wr=>∃(j:Nat) (ns:List Nd),j+g=k∧iv=.int .i64 j∧Hid (wr.ownsRow W.heap.size 87 5 ov ns.length (nds ns))∧ns.length≤j∧Hid (Below W.heap.size W wr))
 case atStart=>exact⟨0,[],by omega,rfl,World.ownsRow_nil _ _ _ _,Nat.le_refl _,Below.refl _ _⟩
 case round=>
  obtain⟨j,ns,hj,rfl,hown,hol,hbr⟩:=hrel;by_cases hlt:j<k
  ·have hjl:j<l.length:=by rw[←HSG.out.len];exact hlt
   obtain⟨b,off,hA,hb,hc⟩:=Rd.row Sg.cells 5 (fun _=>rfl) (by omega) HSG.out.rd hjl;subst hA;generalize l[j]=s at*;obtain⟨sop,snm,⟨st,sm,sd⟩⟩:=s;have HC:Hid (∀X,Below W.heap.size W X→X.cell? ⟨b,off+j*5,none⟩=some (.int .i64 sop)∧X.cell? ⟨b,off+j*5+1,none⟩=some (.string snm)):=fun X hX=>⟨(hX.cell (p:=⟨b,off+j*5,none⟩) hb).trans (hc 0 _ rfl),(hX.cell (p:=⟨b,off+j*5+1,none⟩) hb).trans (hc 1 _ rfl)⟩
   have HF:Hid (∀X,Below W.heap.size W X→Calls Tryz.prog 150 #[.slice (some ⟨b,off,none⟩) k c,.int .i64 sop,.string snm] X (FindRet X)):=fun X hX=>wFind_any l _ k c sop snm X HSG.out.len (by have:=HSG.out.max;unfold maxLen;omega) (HSG.out.rd.below hX)
   have hj0:(0:Int)≤(j:Int):=by omega
   have hj1:(j:Int)<(k:Int):=by omega
   clear hb hc hjl
   go_upto_region 5 with fail
   go_cut [9,10] from 18 to 33 (fun av ov wc=>∃X t2 m2 d2 o2,av=.pointer (some ⟨X,0,none⟩)∧ov=.bool o2∧Hid (Blk wc X 35 [.bool t2,.int .i64 m2,.int .i64 d2])∧Hid (Below wr.heap.size wr wc))
   case first=>
    refine wp_region_noPanic ?_;refine wp_region_held_drew (S:=fun w'=>w'.cell? ⟨b,off+j*5,none⟩=some (.int .i64 sop)∧w'.cell? ⟨b,off+j*5+1,none⟩=some (.string snm)) (by kernel_rfl) (HC.out _ (bstep hbr.out (drewN_below _ _ 1))) (fun hHeld=>?_);refine tkZ 0 ?_;refine tkZ 1 ?_;refine tkZ 2 ?_;refine tkZ 3 ?_;refine tkZ 4 ?_;refine tkZ 5 ?_;refine tkZ 6 ?_;refine tkZ 7 ?_;refine tkZ 8 ?_;refine tkZ 9 ?_;refine tkZ 10 ?_;refine tkR2 11 15 (fun K hK=>?_) (fun K hK=>?_)
    ·go_simp;refine (HF.out _ (bstep hbr.out (drewN_below _ _ 1))).mono ?_;rintro e w6 ⟨t2,m2,d2,o2,rfl,hb6⟩;have HB6:=zH (bstep (drewN_below _ _ 1) hb6);have hb7:=hb6;clear hb6;go_wp2_with fail;refine tkK hK (HC.out _ (bstep hbr.out HB6.out)) (fun hHeld=>?_);clear hK K;refine tkZ 12 ?_;refine tkZ 13 ?_;refine tkZ 14 ?_;refine tkR 15 (fun K hK=>?_);go_simp;go_wp2_with fail;refine tkK hK (HC.out _ (bstep hbr.out (bstep HB6.out (zB _ _)))) (fun hHeld=>?_);clear hK K;have HKX:=zH (Blk.new w6 35 #[.bool false,.int .i64 0,.int .i64 0]);have HB7:=zH (bstep HB6.out (zB w6 (.cells #[.bool false,.int .i64 0,.int .i64 0] 35)));have hX:=HB6.out.size;generalize w6.alloc (.cells #[.bool false,.int .i64 0,.int .i64 0] 35)=w7 at*;generalize w6.heap.size=X at*;have hkc:=HKX.out.cells;have hkf:=HKX.out.froz;have HBZ:=zH (((HB7.out.setCell (p:=⟨X,0,none⟩) hX (.bool t2)).setCell (p:=⟨X,1,none⟩) hX (.int .i64 m2)).setCell (p:=⟨X,2,none⟩) hX (.int .i64 d2));have HKZ:=zH (((HKX.out.set 0 (.bool t2)).set 1 (.int .i64 m2)).set 2 (.int .i64 d2));refine tkR 16 (fun K hK=>?_);go_simp;go_wp2_with fail;refine tkK hK (HC.out _ (bstep hbr.out HBZ.out)) (fun hHeld=>?_);clear hK K;refine tkZ 17 ?_;refine wpAnyH_done (by kernel_rfl) ?_ _;refine NoPanic.normal ?_;go_wp2
     go_meet
     case rel=>exact⟨X,t2,m2,d2,o2,rfl,rfl,HKZ,HBZ⟩
    ·go_simp;go_wp2_with fail;refine tkK hK (HC.out _ (bstep hbr.out (bstep (drewN_below _ _ 1) (zB _ _)))) (fun hHeld=>?_);clear hK K;have HKX:=zH (Blk.new wr 35 #[.bool false,.int .i64 0,.int .i64 0]).drew;have HB5:=zH (zD wr (.cells #[.bool false,.int .i64 0,.int .i64 0] 35));obtain⟨X,hXe⟩:=zE wr.heap.size;have hX:=Nat.le_of_eq hXe.symm;generalize (wr.alloc (.cells #[.bool false,.int .i64 0,.int .i64 0] 35)).drew=w5 at*;rw[←hXe] at HKX⊢;clear hXe;refine tkR 11 (fun K hK=>?_);go_simp;refine (HF.out _ (bstep hbr.out (HB5.out))).mono ?_;rintro e w6 ⟨t2,m2,d2,o2,rfl,hb6⟩;have HB6:=zH (bstep (HB5.out) hb6);have hb7:=hb6;clear hb6;go_wp2_with fail;refine tkK hK (HC.out _ (bstep hbr.out HB6.out)) (fun hHeld=>?_);clear hK K;refine tkZ 12 ?_;refine tkZ 13 ?_;refine tkZ 14 ?_;replace HKX:=zH (HKX.out.below hb7 HKX.out.lt);have HB7:=HB6;have hkc:=HKX.out.cells;have hkf:=HKX.out.froz;have HBZ:=zH (((HB7.out.setCell (p:=⟨X,0,none⟩) hX (.bool t2)).setCell (p:=⟨X,1,none⟩) hX (.int .i64 m2)).setCell (p:=⟨X,2,none⟩) hX (.int .i64 d2));have HKZ:=zH (((HKX.out.set 0 (.bool t2)).set 1 (.int .i64 m2)).set 2 (.int .i64 d2));refine tkR 16 (fun K hK=>?_);go_simp;go_wp2_with fail;refine tkK hK (HC.out _ (bstep hbr.out HBZ.out)) (fun hHeld=>?_);clear hK K;refine tkZ 17 ?_;refine wpAnyH_done (by kernel_rfl) ?_ _;refine NoPanic.normal ?_;go_wp2
     go_meet
     case rel=>exact⟨X,t2,m2,d2,o2,rfl,rfl,HKZ,HBZ⟩
   case rest=>
    obtain⟨X,t2,m2,d2,o2,rfl,rfl,hx,hbc⟩:=hcut;obtain⟨dq,hdq⟩:=zF (decide ((⟨t2,m2,d2⟩:Ty)=⟨t,m,d⟩));have HE0:=fun W=>eql_ty ⟨t2,m2,d2⟩ ⟨t,m,d⟩ W
    simp only[hdq,Ty.v] at HE0;have HBC:=zH (bstep hbr.out hbc.out);have HOWN:=zH (own_below hown.out hbc.out);have hxc:=hx.out.cells;have hbk:=(HK.out.below HBC.out HK.out.lt).cells;obtain⟨hc0,hc1⟩:=HC.out _ HBC.out;have hsx:(sop !=24)= !decide (sop=24):=by by_cases h:sop=24<;>simp[h]
    have hsy:(sop==24)=decide (sop=24):=by by_cases h:sop=24<;>simp[h]
    clear hdq hbc hx hown hbr;by_cases hall:o2=true∧¬sop=24∧dq=true
    ·obtain⟨rfl,h24,rfl⟩:=hall;rw[decide_eq_false h24] at hsx hsy;have hsx:(sop !=24)=true:=hsx
     go_upto_region 7 with fail
     refine wp_region_noPanic ?_;refine wp_region_held_drew (S:=fun w'=>w'.cell? ⟨b,off+j*5,none⟩=some (.int .i64 sop)∧w'.cell? ⟨b,off+j*5+1,none⟩=some (.string snm)) (by kernel_rfl) (HC.out _ (bstep HBC.out (drewN_below _ _ 1))) (fun hHeld=>?_);refine tkZ 0 ?_;refine tkZ 1 ?_;refine tkZ 2 ?_;refine tkZ 3 ?_;refine tkZ 4 ?_;refine tkZ 5 ?_;refine tkZ 6 ?_;refine tkZ 7 ?_;refine tkZ 8 ?_;refine tkZ 9 ?_;refine tkZ 10 ?_;refine tkZ 11 ?_;refine tkR 12 (fun K hK=>?_);go_simp;go_wp2_with fail;refine tkK hK (HC.out _ (bstep HBC.out (bstep (drewN_below _ _ 1) (zB _ _)))) (fun hHeld=>?_);clear hK K;refine tkR 13 (fun K hK=>?_);refine step_push (wc.drewN 1) #[.int .i64 sop,.bool false,.string ⟨#[]⟩,.string ⟨#[]⟩,.string snm] (by rfl) _ _ 36 (by rfl) W.heap.size 87 (.agg #[.int .i64 0,.bool false,.string ⟨#[]⟩,.string ⟨#[]⟩,.string ⟨#[]⟩]) 5 64 1 Tryz.underlying36 info_node rfl (by decide) u7 ns.length (nds ns) (by rfl) HOWN.out (by rfl) rfl ?_ ?_ ?_ ?_ ?_
     any_goals first|(unfold maxLen;omega)|omega
     ·exact List.all_eq_true.1 rfl
     ·exact HBC.out.size
     intro v' w9 hown hb9;have HB9:=zH (HBC.out.trans ((drewN_below W.heap.size wc 1).trans hb9));have HO9:=zH hown;clear hown hb9;refine tkK hK (HC.out _ HB9.out) (fun hHeld=>?_);clear hK K;refine tkZ 14 ?_;refine wpAnyH_done (by kernel_rfl) ?_ _;refine NoPanic.normal ?_;go_wp2
     go_roundg (k-(j+1))
     case measure=>omega
     case rel=>
      refine⟨j+1,ns++[(⟨sop,⟨false,⟨#[]⟩,⟨#[]⟩⟩,snm⟩:Nd)],by omega,by go_num,?_,by simp;omega,HB9⟩;show World.ownsRow _ _ _ _ _ _ _;rw[nds_append,List.length_append];exact HO9.out
    ·have hx:(o2&& !decide (sop=24)&&dq)=false:=by
      by_cases h24:sop=24
      ·rw[decide_eq_true h24];simp
      ·rw[decide_eq_false h24];cases o2<;>cases dq<;>first|rfl|exact absurd ⟨rfl,h24,rfl⟩ hall
     obtain⟨h4,hh4⟩:=zF (decide (sop=24));rw[hh4] at hsx hsy hx;clear hh4 hall;cases o2<;>cases h4<;>cases dq<;>cases hx
     all_goals
      simp only[Bool.not_true,Bool.not_false] at hsx;go_wp2
      go_roundg (k-(j+1))
     all_goals first|(case measure=>omega)|(case rel=>exact⟨j+1,ns,by omega,by go_num,HOWN,by omega,HBC⟩)
  ·obtain rfl:j=k:=by omega
   have hw:IntKind.i64.wrap ((ns.length:Int)+2)=(ns.length:Int)+2:=IntWalk.i64_in _ (by omega);have HDW:=zH (HD.out.below hbr.out);have HOB:=zH (Onl.of_below (G:=D) (bstep HBW.out hbr.out));have HNX:=zH (next_any wr D u ((ns.length:Int)+2) HDW.out (by omega) (by omega));have HKB:=zH (HK.out.below hbr.out HK.out.lt);have HLT:Hid (D<W.heap.size):=by show _<_;have:=HBW.out.size;have:=HDB.out;omega
   clear hbr;obtain⟨A1,c1,rfl,_⟩:=own_rd hown.out;go_wp2_with fail;refine HNX.out.mono ?_;rintro e w1 ⟨r,hr,rfl,hd1,ho1⟩;have HO1:=zH (onl_row hown.out ho1 HLT.out);have HON:=zH (HOB.out.trans ho1);have HD1:=zH hd1;have hbk:=(ho1.blk HKB.out (by have:=HDB.out;have:=HBB.out;omega)).cells;have hsz:w.heap.size≤w1.heap.size:=HON.out.size;clear hown hd1 ho1 HNX HKB hw;by_cases hrl:r<ns.length
   ·have hrl':(r:Int)<(ns.length:Int):=by omega
    obtain⟨_,_,_,hrd⟩:=own_hd HO1.out;obtain⟨g,of,hA,hb,hc0,hc1,hc2,hc3,hc4⟩:=hrd.nd hrl;subst hA;generalize ns[r]=n at*;obtain⟨op,⟨neg,num,den⟩,name⟩:=n;simp only at hc0 hc1 hc2 hc3 hc4;clear hr hrd;have hr0:(0:Int)≤(r:Int):=by omega
    go_wp2;go_ret;exact⟨_,[⟨op,⟨neg,num,den⟩,name⟩],rfl,Nat.le_refl _,own_one w1 _ _ hsz,HD1.out.below (zB _ _),HON.out.trans (Onl.of_below (zB _ _))⟩
   ·have hrl':¬(r:Int)<(ns.length:Int):=by omega
    cases t
    ·go_wp2_with fail;refine (wconst_any D u false m d w1 HD1.out (Nat.le_trans HU.out hsz) (HT.out.resolve_left (by simp))).mono ?_;rintro e w2 ⟨v,n2,rfl,hl,ho,hd2,hon⟩;go_wp2;go_ret;exact⟨v,n2,rfl,hl,own_lower ho hsz,hd2,HON.out.trans hon⟩
    ·go_wp2_with fail;refine (next_any w1 D u 2 HD1.out (by omega) (by omega)).mono ?_;rintro e w2 ⟨q,hq,rfl,hd2,ho2⟩;have HON:=zH (HON.out.trans ho2);have HD2:=zH hd2;clear hd2 ho2 hbk;go_wp2_with fail;refine (sOf_any (q:Int) w2 (by omega) (by omega)).mono ?_;rintro e w3 ⟨rfl,hb3⟩;have HON:=zH (HON.out.trans (Onl.of_below hb3));have HD3:=zH (HD2.out.below hb3);clear hb3;generalize ofI (q:Int)=va at*;obtain⟨neg,num,den⟩:=va;unfold Ra.v;go_wp2;go_ret;exact⟨_,[⟨4,⟨neg,num,den⟩,⟨#[]⟩⟩],rfl,Nat.le_refl _,own_one w3 _ _ HON.out.size,HD3.out.below (zB _ _),HON.out.trans (Onl.of_below (zB _ _))⟩
theorem infoBr:(Tryz.prog.info? 121).map (fun i=>(i.zero,i.size,i.bytes))=some (some (.agg #[.bool false,.string ⟨#[]⟩,.string ⟨#[]⟩,.bool false,.string ⟨#[]⟩,.string ⟨#[]⟩]),6,80):=by kernel_rfl
theorem own_new (w:World) (cs:Array Value) (t:TypeId) (s m B:Nat) (hs:cs.size=m*s) (hm:m≤1000) (h:B≤w.heap.size):(w.alloc (.cells cs t)).ownsRow B t s (.slice (some ⟨w.heap.size,0,none⟩) m m) m cs.toList:=by
 refine⟨by simp[hs],.inr ⟨w.heap.size,m,cs,rfl,h,?_,Nat.le_refl _,by unfold maxLen;omega,hs,by rw[List.take_of_length_le (by simp[hs])]⟩⟩;show (Array.push _ _)[w.heap.size]?=_;simp
theorem own_newX {w W:World} {cs:Array Value} {t:TypeId} (hW:w.alloc (.cells cs t)=W) (s m B:Nat) (hs:cs.size=m*s) (hm:m≤1000) (h:B≤w.heap.size):W.ownsRow B t s (.slice (some ⟨w.heap.size,0,none⟩) m m) m cs.toList:=hW ▸ own_new w cs t s m B hs hm h
theorem DS.belowU {w w':World} {D u B:Nat} (h:DS w D u) (hb:Below B w w') (hu:u≤B):DS w' D u:=by
 obtain⟨A,n,c,L,k,h,hl,ha⟩:=h;refine⟨A,n,c,L,k,⟨h.blk.below hb (by omega),h.len,h.max,?_,h.rng,h.ne,h.le⟩,hl,ha⟩;rcases h.rd with h0|⟨b',off',e,hb',hc⟩
 ·exact .inl h0
 ·by_cases hL:L=[]
  ·exact .inl (by rw[hL];rfl)
  ·subst e;refine .inr ⟨b',off',rfl,Nat.lt_of_lt_of_le hb' hb.size,fun i hi=>?_⟩;rw[←hc i hi];exact World.cell?_of_block (hb.block b' (by have:b'<u:=ha hL _ rfl;omega))
structure DW (w:World) (D u:Nat) (W:World):Prop where
 ds:DS W D u
 on:Onl D w W
 hD:D<w.heap.size
 hu:u≤w.heap.size
section
variable {w W X:World} {D u:Nat}
theorem DW.onl (h:DW w D u W) (hd:DS X D u) (ho:Onl D W X):DW w D u X:=⟨hd,h.on.trans ho,h.hD,h.hu⟩
theorem DW.below (h:DW w D u W) (hb:Below W.heap.size W X):DW w D u X:=h.onl (h.ds.below hb) (Onl.of_below hb)
theorem DW.low (h:DW w D u W) (hb:Below w.heap.size W X):DW w D u X:=⟨h.ds.belowU hb h.hu,h.on.more hb,h.hD,h.hu⟩
theorem DW.next (h:DW w D u W) (q:Int) (h1:1≤q) (h2:q≤1000):Calls Tryz.prog 32 #[.pointer (some ⟨D,0,none⟩),.int .i64 q] W fun e X=>∃r:Nat,(r:Int)<q∧e=.returned (.int .i64 r)∧DW w D u X∧Onl D W X:=
 (next_any W D u q h.ds h1 (by omega)).mono fun _ _ ⟨r,hr,he,hd,ho⟩=>⟨r,hr,he,h.onl hd ho,ho⟩
theorem DW.row {v:Value} {n s:Nat} {e:TypeId} {xs:List Value} (h:DW w D u W) (ho:W.ownsRow w.heap.size e s v n xs) (hx:Onl D W X):X.ownsRow w.heap.size e s v n xs:=onl_row ho hx h.hD
end
theorem wfr (n d:Int) (w:World) (h0:-1000000≤n) (h1:n≤1000000) (h2:1≤d) (h3:d≤1000000):Calls Tryz.prog 40 #[.int .i64 n,.int .i64 d] w fun e w'=>∃q u v,e=.returned (.agg #[.bool q,.string u,.string v])∧Below w.heap.size w w':=
 (wfrac_any n d w (by omega) (by omega) (by omega) (by omega)).mono fun _ _ ⟨⟨a,b,c⟩,h,_,hb⟩=>⟨a,b,c,h,hb⟩
theorem wOf (n:Int) (w:World) (h0:-1000000≤n) (h1:n≤1000000):Calls Tryz.prog 11 #[.int .i64 n] w fun e w'=>∃q u v,e=.returned (.agg #[.bool q,.string u,.string v])∧Below w.heap.size w w':=
 (sOf_any n w (by omega) (by omega)).mono fun _ _ ⟨h,hb⟩=>⟨_,_,_,h,hb⟩
def BrRet (D u:Nat) (w:World) (e:Ending) (w':World):Prop:=∃h:Hd,e=.returned (.slice h.a h.n h.c)∧DS w' D u∧Onl D w w'
theorem wbrackets_any (D u:Nat) (ri:Bool) (w:World) (hd:DS w D u) (hu:u≤w.heap.size):
  Calls Tryz.prog 33 #[.pointer (some ⟨D,0,none⟩),.bool ri] w (BrRet D u w):=by
 have h:DW w D u w:=⟨hd,Onl.refl _ _,hd.lt,hu⟩
 clear hd hu;go_enter Tryz.func33,Tryz.ntmps33
 go_upto_if 10 with fail
 go_cut [6] from 10 to 10 (fun lv wc=>∃z:Int,lv=.int .i64 z∧-2≤z∧z≤0∧DW w D u wc)
 case first=>
  cases ri
  all_goals
   go_wp2
   go_meet
  ·case rel=>exact⟨-2,rfl,by omega,by omega,h⟩
  ·case rel=>exact⟨0,rfl,by omega,by omega,h⟩
 case rest=>
  clear h;obtain⟨z,rfl,hz1,hz2,h⟩:=hcut;go_wp2_with fail;refine (wOf 0 wc (by omega) (by omega)).mono ?_;rintro e w1 ⟨an,au,ad,rfl,hb⟩;replace h:=h.below hb;clear hb;go_wp2_with fail;refine (h.next 5 (by omega) (by omega)).mono ?_;rintro e w2 ⟨r,hr,rfl,h',_⟩;clear h;go_wp2_with fail;refine (wfr (r:Int) 10 w2 (by omega) (by omega) (by omega) (by omega)).mono ?_;rintro e w3 ⟨bn,bu,bd,rfl,hb⟩;have h:=h'.below hb;clear hb h' hr
  go_upto_region 6 with fail
  have ho:=own_new w3 #[.bool an,.string au,.string ad,.bool bn,.string bu,.string bd] 121 6 1 w.heap.size rfl (by omega) h.on.size;generalize hX:w3.alloc _=X at ho⊢;have h':=h.below (zA hX).2;clear hX h;generalize w3.heap.size=C at ho⊢;go_wp2
  go_loopg [5,7,8] 2 (fun g fv ov kv wr=>∃(j:Nat) (fz:Int) (bs:List Value),j+g=2∧kv=.int .i64 j∧fv=.int .i64 fz∧0≤fz∧fz≤200*j∧wr.ownsRow w.heap.size 121 6 ov (j+1) bs∧DW w D u wr)
  case atStart=>exact⟨0,0,_,by omega,rfl,rfl,by omega,by omega,ho,h'⟩
  case round=>
   clear ho h';obtain⟨j,fz,bs,hj,rfl,rfl,hf0,hf1,ho,h⟩:=hrel;go_wp2_with fail;refine (h.next 2 (by omega) (by omega)).mono ?_;rintro e w1 ⟨r,hr,rfl,h',hx⟩;replace ho:=h.row ho hx;clear h hx;by_cases hlt:(j:Int)<1+(r:Int)
   ·go_wp2_with fail;refine (h'.next 100 (by omega) (by omega)).mono ?_;rintro e w2 ⟨q,hq,rfl,h,hx⟩;replace ho:=h'.row ho hx;clear h' hx
    go_upto_region 10 with fail
    go_wp2_with fail;refine (wOf _ w2 (by omega) (by omega)).mono ?_;rintro e w3 ⟨an,au,ad,rfl,hb⟩;replace ho:=own_below ho hb;have h':=h.below hb;clear hb h;go_wp2_with fail;refine (h'.next 6 (by omega) (by omega)).mono ?_;rintro e w4 ⟨s,hs,rfl,h,hx⟩;replace ho:=h'.row ho hx;clear h' hx;go_wp2_with fail;refine (wfr _ 10 w4 (by omega) (by omega) (by omega) (by omega)).mono ?_;rintro e w5 ⟨bn,bu,bd,rfl,hb⟩;replace ho:=own_below ho hb;have h':=h.below hb;clear hb h;go_wp2_with (at_builtin;go_must (refine zP infoBr Tryz.underlying77 ho (by omega) h'.on.size ?_));intro v' w' ho hb;have h:=h'.low hb;clear hb h';go_wp2
    go_roundg (2-(j+1))
    case measure=>omega
    case rel=>exact⟨j+1,_,_,by omega,by go_num,rfl,by omega,by push_cast;omega,ho,h⟩
   ·obtain⟨A1,c1,rfl,_⟩:=own_rd ho;go_wp2;go_ret;exact⟨⟨A1,j+1,c1⟩,rfl,h'.ds,h'.on⟩
def StrRet (D u:Nat) (w:World) (e:Ending) (w':World):Prop:=∃(s:ByteArray) (o:Bool),e=.returned (.tuple #[.string s,.bool o])∧DS w' D u∧Onl D w w'
theorem wrated_any (l:List Sg) (A:Option Addr) (k c D u:Nat) (t:Bool) (m d:Int) (w:World) (hs:SgR w D A k l) (hd:DS w D u):
  Calls Tryz.prog 118 #[.slice A k c,.pointer (some ⟨D,0,none⟩),.agg #[.bool t,.int .i64 m,.int .i64 d]] w (StrRet D u w):=by
 obtain⟨W,hW⟩:=zE (w.alloc (.cells #[.bool t,.int .i64 m,.int .i64 d] 35));obtain⟨B,hB⟩:=zE w.heap.size;have HK:Hid (Blk W B 35 [.bool t,.int .i64 m,.int .i64 d]):=by show Blk _ _ _ _;rw[hW,hB];exact Blk.new w _ _
 have HBW:Hid (Below w.heap.size w W):=by show Below _ _ _;rw[hW];exact zB _ _
 have HBB:=zH hB;have HSG:=zH (hs.onl (Onl.of_below HBW.out));have HD:=zH (hd.below HBW.out);have HDB:=zH hd.lt;have hk100:=hs.max;clear hs hd;go_enter Tryz.func118,Tryz.ntmps118
 go_upto_region 1 with fail
 simp only[←hW,←hB]
 clear hW hB;go_wp2
 go_loopg [8,9] k (fun g ov iv wr=>∃(j:Nat) (ss:List ByteArray),j+g=k∧iv=.int .i64 j∧Hid (wr.ownsRow W.heap.size 9 1 ov ss.length (strs ss))∧ss.length≤j∧Hid (Below W.heap.size W wr))
 case atStart=>exact⟨0,[],by omega,rfl,World.ownsRow_nil _ _ _ _,Nat.le_refl _,Below.refl _ _⟩
 case round=>
  obtain⟨j,ss,hj,rfl,hown,hol,hbr⟩:=hrel;by_cases hlt:j<k
  ·have hjl:j<l.length:=by rw[←HSG.out.len];exact hlt
   obtain⟨b,off,hA,hb,hc⟩:=Rd.row Sg.cells 5 (fun _=>rfl) (by omega) HSG.out.rd hjl;subst hA;generalize l[j]=s at*;obtain⟨sop,snm,⟨st,sm,sd⟩⟩:=s;have HC:Hid (∀X,Below W.heap.size W X→X.cell? ⟨b,off+j*5,none⟩=some (.int .i64 sop)∧X.cell? ⟨b,off+j*5+1,none⟩=some (.string snm)):=fun X hX=>⟨(hX.cell (p:=⟨b,off+j*5,none⟩) hb).trans (hc 0 _ rfl),(hX.cell (p:=⟨b,off+j*5+1,none⟩) hb).trans (hc 1 _ rfl)⟩
   have HF:Hid (∀X,Below W.heap.size W X→Calls Tryz.prog 150 #[.slice (some ⟨b,off,none⟩) k c,.int .i64 24,.string snm] X (FindRet X)):=fun X hX=>wFind_any l _ k c 24 snm X HSG.out.len (by have:=HSG.out.max;unfold maxLen;omega) (HSG.out.rd.below hX)
   have hj0:(0:Int)≤(j:Int):=by omega
   have hj1:(j:Int)<(k:Int):=by omega
   clear hb hc hjl
   go_upto_region 5 with fail
   go_cut [10,11] from 18 to 28 (fun av ov wc=>∃X t2 m2 d2 o2,av=.pointer (some ⟨X,0,none⟩)∧ov=.bool o2∧Hid (Blk wc X 35 [.bool t2,.int .i64 m2,.int .i64 d2])∧Hid (Below wr.heap.size wr wc))
   case first=>
    obtain⟨hc0,hc1⟩:=HC.out _ hbr.out;go_wp2_with fail;refine (HF.out _ hbr.out).mono ?_;rintro e w6 ⟨t2,m2,d2,o2,rfl,hb6⟩;have HKZ:=zH (Blk.new w6 35 #[.bool t2,.int .i64 m2,.int .i64 d2]);have HBZ:=zH (bstep hb6 (zB w6 (.cells #[.bool t2,.int .i64 m2,.int .i64 d2] 35)));clear hb6 hc0 hc1;go_wp2
    go_meet
    case rel=>exact⟨_,t2,m2,d2,o2,rfl,rfl,HKZ,HBZ⟩
   case rest=>
    obtain⟨X,t2,m2,d2,o2,rfl,rfl,hx,hbc⟩:=hcut;obtain⟨dq,hdq⟩:=zF (decide ((⟨t2,m2,d2⟩:Ty)=⟨t,m,d⟩));have HE0:=fun W=>eql_ty ⟨t2,m2,d2⟩ ⟨t,m,d⟩ W
    simp only[hdq,Ty.v] at HE0;have HBC:=zH (bstep hbr.out hbc.out);have HOWN:=zH (own_below hown.out hbc.out);have hxc:=hx.out.cells;have hbk:=(HK.out.below HBC.out HK.out.lt).cells;obtain⟨hc0,hc1⟩:=HC.out _ HBC.out;have hsy:(sop==24)=decide (sop=24):=by by_cases h:sop=24<;>simp[h]
    clear hdq hbc hx hown hbr;by_cases hall:o2=true∧sop=24∧dq=true
    ·obtain⟨rfl,rfl,rfl⟩:=hall;have hcz:=HBC.out.size;go_wp2_with (at_builtin;go_must (refine wpList_push wc #[.string snm] rfl _ _ 109 rfl W.heap.size 9 _ 1 16 1 Tryz.underlying109 info_strU rfl (by decide) u8 ss.length (strs ss) rfl HOWN.out (by rfl) rfl ?_ ?_ ?_ ?_ ?_))
     any_goals first|rfl|(unfold maxLen;omega)|omega
     intro v' w' hown' hb';have HO9:=zH hown';have HB9:=zH (HBC.out.trans hb');clear hown' hb';go_wp2
     go_roundg (k-(j+1))
     case measure=>omega
     case rel=>
      refine⟨j+1,ss++[snm],by omega,by go_num,?_,by simp;omega,HB9⟩;show World.ownsRow _ _ _ _ _ _ _;rw[strs_append,List.length_append];exact HO9.out
    ·by_cases h24:sop=24
     all_goals
      first|rw[decide_eq_true h24] at hsy|rw[decide_eq_false h24] at hsy
      cases o2<;>cases dq
     any_goals (simp[h24] at hall;done)
     all_goals
      try clear hall
      go_wp2
      go_roundg (k-(j+1))
     all_goals first|(case measure=>omega)|(case rel=>exact⟨j+1,ss,by omega,by go_num,HOWN,by omega,HBC⟩)
  ·obtain rfl:j=k:=by omega
   have HDW:=zH (HD.out.below hbr.out);have HOB:=zH (Onl.of_below (G:=D) (bstep HBW.out hbr.out));have HLT:Hid (D<W.heap.size):=by show _<_;have:=HBW.out.size;have:=HDB.out;omega
   clear hbr;by_cases h0:ss.length=0
   ·have h0':(ss.length:Int)=0:=by omega
    have h0b:((ss.length:Int)==0)=true:=beq_iff_eq.2 h0';obtain⟨A1,c1,rfl,_⟩:=own_rd hown.out;go_wp2;go_ret2;exact⟨_,_,rfl,HDW.out,HOB.out⟩
   ·have h0':¬(ss.length:Int)=0:=by omega
    have h0b:((ss.length:Int)==0)=false:=beq_eq_false_iff_ne.2 h0';have HNX:=zH (next_any wr D u (ss.length:Int) HDW.out (by omega) (by omega));obtain⟨A1,c1,rfl,_⟩:=own_rd hown.out;go_wp2_with fail;refine HNX.out.mono ?_;rintro e w1 ⟨r,hr,rfl,hd1,ho1⟩;have HO1:=zH (onl_row hown.out ho1 HLT.out);have HON:=zH (HOB.out.trans ho1);have HD1:=zH hd1;clear hown hd1 ho1 HNX;have hr1:r<ss.length:=by omega
    obtain⟨_,_,hv,_,_,hrd,_⟩:=own_rd HO1.out;injection hv with hv1 hv2 hv3;subst hv1 hv3;obtain⟨g,of,hA,hb,hc⟩:=Rd.row strC 1 (fun _=>rfl) (by omega) hrd hr1;subst hA;have hc0:=hc 0 _ rfl;rw[Nat.mul_one,Nat.add_zero] at hc0;have hr0:(0:Int)≤(r:Int):=by omega
    clear hc hrd hv2;go_wp2;go_ret2;exact⟨_,_,rfl,HD1.out,HON.out⟩
theorem wNum_any (m d:Int) (w:World):Calls Tryz.prog 12 #[.int .i64 m,.int .i64 d] w fun e w'=>e=.returned (.agg #[.bool false,.int .i64 m,.int .i64 d])∧Below w.heap.size w w':=by
 go_enter Tryz.func12,Tryz.ntmps12;go_wp2;exact bodyPost_ret (v:=.agg #[.bool false,.int .i64 m,.int .i64 d]) (by simp[results,Tryz.results12,go_sem]) rfl ⟨rfl,zB _ _⟩
theorem wTruth_any (w:World):Calls Tryz.prog 34 #[] w fun e w'=>e=.returned (.agg #[.bool true,.int .i64 0,.int .i64 0])∧Below w.heap.size w w':=by
 go_enter Tryz.func34,Tryz.ntmps34;go_wp2;exact bodyPost_ret (v:=.agg #[.bool true,.int .i64 0,.int .i64 0]) (by simp[results,Tryz.results34,go_sem]) rfl ⟨rfl,zB _ _⟩
def KindRet (r:Nat) (w:World) (e:Ending) (w':World):Prop:=∃m d,e=.returned (.agg #[.bool false,.int .i64 m,.int .i64 d])∧Ty4 m d∧Below w.heap.size w w'
theorem wKind_any (r:Nat) (h:r<3) (w:World):Calls Tryz.prog 79 #[.int .i64 (r:Int)] w (KindRet r w):=by
 obtain⟨W,hW⟩:=zE (w.alloc (.cells #[.bool false,.int .i64 0,.int .i64 0] 35));have HK:=zH (Blk.new w 35 #[.bool false,.int .i64 0,.int .i64 0]);have HB:=zH (zB w (.cells #[.bool false,.int .i64 0,.int .i64 0] 35));rw[←hW] at HK HB;obtain⟨B,hB⟩:=zE w.heap.size;rw[←hB] at HK;have HX:=zH (Nat.le_of_eq hB.symm);have HM:=zH (fun W=>wMod_any (r:Int) 5 W (by omega) (by omega) (by omega) (by omega));have he:(r:Int) % 5=r:=by omega
 rw[he] at HM;clear he;go_enter Tryz.func79,Tryz.ntmps79
 go_upto_region 1 with fail
 simp only[←hW,←hB]
 clear hW hB;go_wp2_with fail;refine (wNum_any 1 0 W).mono ?_;rintro e w1 ⟨rfl,hb1⟩;replace HB:=zH (bstep HB.out hb1);replace HK:=zH (HK.out.below hb1 HK.out.lt);clear hb1;go_wp2_with fail;refine (wNum_any 0 1 w1).mono ?_;rintro e w2 ⟨rfl,hb1⟩;replace HB:=zH (bstep HB.out hb1);replace HK:=zH (HK.out.below hb1 HK.out.lt);clear hb1;go_wp2_with fail;refine (wNum_any 0 0 w2).mono ?_;rintro e w3 ⟨rfl,hb1⟩;replace HB:=zH (bstep HB.out hb1);replace HK:=zH (HK.out.below hb1 HK.out.lt);clear hb1;go_wp2_with fail;refine (wTruth_any w3).mono ?_;rintro e w4 ⟨rfl,hb1⟩;replace HB:=zH (bstep HB.out hb1);replace HK:=zH (HK.out.below hb1 HK.out.lt);clear hb1;go_wp2_with fail;refine (wNum_any 1 (-1) w4).mono ?_;rintro e w5 ⟨rfl,hb1⟩;replace HB:=zH (bstep HB.out hb1);replace HK:=zH (HK.out.below hb1 HK.out.lt);clear hb1;go_wp2_with fail;refine (HM.out w5).mono ?_;rintro e w6 ⟨rfl,rfl⟩;have hkc:=HK.out.cells;have hkf:=HK.out.froz
 obtain⟨m,d,hT,hix⟩:∃m d,Hid (Ty4 m d)∧(Instr.index 189 (.agg #[.bool false,.int .i64 1,.int .i64 0,.bool false,.int .i64 0,.int .i64 1,.bool false,.int .i64 0,.int .i64 0,.bool true,.int .i64 0,.int .i64 0,.bool false,.int .i64 1,.int .i64 (-1)]) (.int .i64 (r:Int))).run Tryz.prog w5=.ok (.agg #[.bool false,.int .i64 m,.int .i64 d]) w5:=by
  have hr:r=0∨r=1∨r=2:=by omega
  rcases hr with rfl|rfl|rfl
  ·exact⟨1,0,.inl ⟨rfl,rfl⟩,by kernel_rfl⟩
  ·exact⟨0,1,.inr (.inl ⟨rfl,rfl⟩),by kernel_rfl⟩
  ·exact⟨0,0,.inr (.inr ⟨rfl,rfl⟩),by kernel_rfl⟩
 clear h HM;go_wp2;exact bodyPost_ret (v:=.agg #[.bool false,.int .i64 m,.int .i64 d]) (by simp[results,Tryz.results79,go_sem,hkc]) rfl ⟨m,d,rfl,hT.out,((HB.out.setCell (p:=⟨B,0,none⟩) HX.out _).setCell (p:=⟨B,1,none⟩) HX.out _).setCell (p:=⟨B,2,none⟩) HX.out _⟩
end Go.Proofs.YtmmbjngbeiokeaaGreatDoor
