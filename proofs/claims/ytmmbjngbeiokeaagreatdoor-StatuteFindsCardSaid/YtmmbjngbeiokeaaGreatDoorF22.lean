/- A part of the proof: Ea S4 S5 S6 S7 Gc Gd Ge Eb Ec Ed Ee Ef Eg. -/
import Derived.Lib.UnsafeStr
import Derived.Lib.AppendStr
import Derived.Lib.Builder
import Derived.Laws.Externs
import Derived.Shelf.Strings.SlTrimAscii
import Derived.Test.YtmmbjngbeiokeaaGreatDoorF01
import Derived.Test.YtmmbjngbeiokeaaGreatDoorF17
import Derived.Test.YtmmbjngbeiokeaaGreatDoorF21
set_option linter.unusedVariables false
set_option linter.unusedSimpArgs false
set_option maxRecDepth 100000
set_option maxHeartbeats 40000000
namespace Go.Proofs.YtmmbjngbeiokeaaGreatDoor
open Go.RowKit
theorem cc_used (b:Nat) (w:World) (h0:w.cell? ⟨b,0,none⟩=some (.pointer (some ⟨b,0,none⟩))):
  Calls Tryz.prog 131 #[.pointer (some ⟨b,0,none⟩)] w fun e w'=>e=.returned (.tuple #[])∧w'=w:=by
 obtain⟨j,hj,_⟩:=Option.map_eq_some_iff.1 (show (Tryz.prog.info? 69).map (·.size)=some 2 by kernel_rfl);go_enter Tryz.func131,Tryz.ntmps131;go_wp2;rw[Lib.run_neq_ptr_same w _ Tryz.underlying66 hj];go_wp2;go_end0;exact⟨rfl,rfl⟩
theorem cc_fresh (b:Nat) (w:World) (h0:w.cell? ⟨b,0,none⟩=some (.pointer none)) (hsh:w.shape? b=some (69,2)) (hfz:w.frozen? ⟨b,0,none⟩=false):
  Calls Tryz.prog 131 #[.pointer (some ⟨b,0,none⟩)] w fun e w'=>e=.returned (.tuple #[])∧w'=w.setCell ⟨b,0,none⟩ (.pointer (some ⟨b,0,none⟩)):=by
 obtain⟨j,hj,hjs⟩:=Option.map_eq_some_iff.1 (show (Tryz.prog.info? 69).map (·.size)=some 2 by kernel_rfl);go_enter Tryz.func131,Tryz.ntmps131;go_wp2;rw[Lib.run_to_unsafe w ⟨b,0,none⟩ Tryz.underlying66 Tryz.underlying248 hj (by rw[hjs];decide) hsh (Nat.zero_lt_succ 1)];simp only[Result.andThen]
 rw[Oper.upon_value];go_wp2;rw[run_callFunc_extern Tryz.func167 (by kernel_rfl) (by kernel_rfl) (by kernel_rfl) (e:=Extern.AbiNoEscape.same) (by kernel_rfl)];rw[Lib.run_noEscape];simp only[Result.andThen]
 rw[Oper.upon_value];go_wp2;rw[Lib.run_from_unsafe w ⟨b,0,none⟩ Tryz.underlying248 Tryz.underlying66 hj hsh (by kernel_rfl)];simp only[Result.andThen]
 rw[Oper.upon_value];go_wp2;go_end0;exact⟨rfl,rfl⟩
def noText:List PanicEntry:=[{v:=.iface 198 (.agg #[]),recovered:=false}]
theorem want_yes (s p:ByteArray) (R:Nat) (t:TypeId) (l:List Value) (w:World) (hR:Blk w R t (.string s::l)) (h:Lib.hasPrefix s.data.toList p.data.toList=true):
  Calls Tryz.prog 163 #[.pointer (some ⟨R,0,none⟩),.string p] w fun e w'=>e=.returned (.tuple #[])∧w'=w.setCell ⟨R,0,none⟩ (.string ⟨(Lib.trimPrefix s.data.toList p.data.toList).toArray⟩):=by
 have hc:=hR.cells;have hf:=hR.froz;clear hR;go_enter Tryz.func163,Tryz.ntmps163;go_wp2_with fail;refine (Tryz.strings_CutPrefix s p _).mono ?_;rintro e w' ⟨rfl,rfl⟩;go_wp2;go_end0;exact⟨rfl,rfl⟩
theorem want_no (s p:ByteArray) (R:Nat) (t:TypeId) (l:List Value) (w:World) (hR:Blk w R t (.string s::l)) (h:Lib.hasPrefix s.data.toList p.data.toList=false):
  Calls Tryz.prog 163 #[.pointer (some ⟨R,0,none⟩),.string p] w fun e w'=>e=.panicked noText∧w'=w:=by
 have hc:=hR.cells;have hf:=hR.froz;clear hR;go_enter Tryz.func163,Tryz.ntmps163;go_wp2_with fail;refine (Tryz.strings_CutPrefix s p _).mono ?_;rintro e w' ⟨rfl,rfl⟩;go_wp2;exact⟨rfl,rfl,rfl⟩
def restS (s cs:ByteArray):ByteArray:=⟨(Lib.trimLeftS s.data.toList cs.data.toList).toArray⟩
theorem restS_le (s cs:ByteArray):(restS s cs).size≤s.size:=by
 show (Lib.trimLeftS s.data.toList cs.data.toList).toArray.size≤s.data.size;rw[List.size_toArray,←Array.length_toList];exact (List.dropWhile_sublist _).length_le
theorem trimLeft_at (s cs:ByteArray) (w:World) (hcs:cs.size<4294967281) (ha:∀(j:Nat) b,cs.data.toList[j]?=some b→b.toNat<128):
  Calls Tryz.prog 174 #[.string s,.string cs] w fun e w'=>e=.returned (.string (restS s cs))∧Below w.heap.size w w':=
 Any.strings_TrimLeft_laid Tryz.lays161 (by kernel_rfl) s cs w hcs ha
theorem span_any (s cs:ByteArray) (R:Nat) (t:TypeId) (l:List Value) (w:World) (hR:Blk w R t (.string s::l)) (h63:s.size≤9223372036854775807)
  (hcs:cs.size<4294967281) (ha:∀(j:Nat) b,cs.data.toList[j]?=some b→b.toNat<128):
  Calls Tryz.prog 161 #[.pointer (some ⟨R,0,none⟩),.string cs] w fun e w'=>e=.returned (.string (s.extract 0 (s.size-(restS s cs).size)))∧∃W,Below w.heap.size w W∧w'=W.setCell ⟨R,0,none⟩ (.string (restS s cs)):=by
 have HT:=zH (fun W=>trimLeft_at s cs W hcs ha);have hle:=restS_le s cs;generalize restS s cs=r at*;have hc0:=hR.cells;clear hcs ha;obtain⟨k,hk⟩:=zF (s.size-r.size);have hw:IntKind.i64.wrap ((s.size:Int)-(r.size:Int))=(k:Int):=by rw[IntWalk.i64_in _ (by omega)];omega
 have hks:k≤s.size:=by omega
 rw[hk];go_enter Tryz.func161,Tryz.ntmps161;go_wp2_with fail;refine (HT.out _).mono ?_;rintro e w1 ⟨rfl,hb1⟩;have hR1:=hR.below hb1 hR.lt;have hc:=hR1.cells;have hf:=hR1.froz;have HB1:=zH hb1;clear hb1 hR hc0 hR1;go_wp2;go_region;go_wp2;go_ret;exact⟨rfl,w1.drew,below_drewN HB1.out 1,rfl⟩
def Under (R:Nat) (w:World):Prop:=∃w0:World,Laid w0∧Below w0.heap.size w0 w∧w0.heap.size≤R
theorem Under.onl {R:Nat} {w w':World} (h:Under R w) (ho:Onl R w w'):Under R w':=by
 obtain⟨w0,h1,h2,h3⟩:=h;exact⟨w0,h1,h2.trans (ho.below h3 h2.size),h3⟩
theorem Under.laid {R:Nat} {w:World} (h:Under R w):Laid w:=by
 obtain⟨w0,h1,h2,_⟩:=h;exact h1.below h2
theorem Onl.fresh {G b:Nat} {w w':World} (h:Onl G w w') (hb:w.heap.size≤b) (i:Nat) (u:Value):Onl G w (w'.setCell ⟨b,i,none⟩ u):=
 ⟨h.os,h.tape,h.output,by simpa [World.setCell] using h.size,fun k hk hne=>(Below.heap_setCell w' _ u k (by show k≠b;omega)).trans (h.block k hk hne)⟩
theorem span_at (s cs:ByteArray) (R:Nat) (t:TypeId) (l:List Value) (w:World) (hR:Blk w R t (.string s::l)) (h63:s.size≤9223372036854775807)
  (hcs:cs.size<4294967281) (ha:∀(j:Nat) b,cs.data.toList[j]?=some b→b.toNat<128):
  Calls Tryz.prog 161 #[.pointer (some ⟨R,0,none⟩),.string cs] w fun e w'=>e=.returned (.string (s.extract 0 (s.size-(restS s cs).size)))∧Blk w' R t (.string (restS s cs)::l)∧Onl R w w':=
 (span_any s cs R t l w hR h63 hcs ha).mono (by
   rintro e w' ⟨rfl,W,hb,rfl⟩;exact⟨rfl,(hR.below hb hR.lt).set 0 _,(Onl.of_below hb).set 0 _⟩)
def numC:ByteArray:=⟨#[45,47,48,49,50,51,52,53,54,55,56,57]⟩
theorem number_at (s:ByteArray) (R:Nat) (t:TypeId) (l:List Value) (w:World) (hR:Blk w R t (.string s::l)) (hU:Under R w) (hs:s.size≤1048576) (x:ByteArray) (hx:s.extract 0 (s.size-(restS s numC).size)=x):
  Calls Tryz.prog 166 #[.pointer (some ⟨R,0,none⟩)] w fun e w'=>(if (ratParse x).2 then e=.returned (ratParse x).1.v else e=.panicked noText)∧Blk w' R t (.string (restS s numC)::l)∧Onl R w w':=by
 have hxs:x.size≤1048576:=by rw[←hx,ByteArray.size_extract];omega
 have HS:=fun (W:World) (h:Blk W R t (.string s::l))=>span_at s numC R t l W h (by omega) (by decide) (ascii_of_all (by decide))
 simp only[hx] at HS;have HQ:=fun (W:World) (h:Laid W)=>qParse_any x W h hxs
 generalize restS s numC=q at*;clear hx hxs;generalize ratParse x=v at*;obtain⟨⟨vn,vu,vd⟩,vb⟩:=v;unfold Ra.v at HQ⊢;simp only at HQ⊢;unfold numC at HS;have HS:=zH HS;have HQ:=zH HQ;obtain⟨W,hW⟩:=zE (w.alloc (.cells #[.bool false,.string ⟨#[]⟩,.string ⟨#[]⟩] 39));have hba:Below w.heap.size w W:=by rw[hW];exact zB _ _
 have hk0:Blk W w.heap.size 39 [.bool false,.string ⟨#[]⟩,.string ⟨#[]⟩]:=by rw[hW];exact Blk.new w _ _
 have hsz:W.heap.size=w.heap.size+1:=by rw[hW];exact Array.size_push _
 obtain⟨B,hB⟩:=zE w.heap.size;have HB:=zH hB;rw[←hB] at hba hsz hk0;have hRB:R<B:=by rw[HB.out];exact hR.lt
 have hRW:=hR.below hba hRB;have hUW:Under R W:=hU.onl (Onl.of_below (by rw[←HB.out];exact hba));have HOW:Hid (Onl R w W):=Onl.of_below (by rw[←HB.out];exact hba);clear hR hU hba;cases vb
 all_goals
  simp only[if_true,if_false,Bool.false_eq_true]
  go_enter Tryz.func166,Tryz.ntmps166;go_wp2_with fail;simp only[←hW,←hB]
  clear hW hB;refine (HS.out _ hRW).mono ?_;rintro e w1 ⟨rfl,hk1,ho1⟩;have hr1:=ho1.blk hk0 (by omega);have hl1:=(hUW.onl ho1).laid;have HO1:=zH (HOW.out.trans ho1);clear hk0 hRW hUW HOW ho1;go_wp2_with fail;refine (HQ.out _ hl1).mono ?_;rintro e w2 ⟨rfl,hb2⟩;have hr2:=(hr1.below hb2 hr1.lt).alloc (.cells #[.bool vn,.string vu,.string vd] 39);have hk2:=(hk1.below hb2 hk1.lt).alloc (.cells #[.bool vn,.string vu,.string vd] 39);have HO2:Hid (Onl R w (w2.alloc (.cells #[.bool vn,.string vu,.string vd] 39))):=(HO1.out.trans (Onl.of_below hb2)).trans (Onl.of_below (zB _ _));have HK2:=zH hk2;have hc:=hr2.cells;have hf:=hr2.froz;clear hl1 hr1 hk1 HO1 hb2 hr2 hk2;go_wp2
 ·exact⟨rfl,rfl,HK2.out,HO2.out⟩
 ·refine bodyPost_ret (v:=.agg #[.bool vn,.string vu,.string vd]) (by simp[results,Tryz.results166,go_sem,hc]) rfl ⟨rfl,?_,?_⟩
  ·exact ((HK2.out.other (p:=⟨B,0,none⟩) (by show R≠B;omega) _).other (p:=⟨B,1,none⟩) (by show R≠B;omega) _).other (p:=⟨B,2,none⟩) (by show R≠B;omega) _
  ·have h:=HB.out;exact ((HO2.out.fresh (by omega) 0 _).fresh (by omega) 1 _).fresh (by omega) 2 _
def wordIs (q:ByteArray) (x:Sh):Bool:=decide ((⟨x.word.toArray⟩:ByteArray)=q)&& !decide (q=⟨#[]⟩)
theorem wordIs_any (x:Sh) (q:ByteArray) (b:Nat) (t:TypeId) (w:World) (hb:Blk w b t [.string q]):
  Calls Tryz.prog 165 #[x.v,.pointer (some ⟨b,0,none⟩)] w fun e w'=>e=.returned (.bool (wordIs q x))∧Below w.heap.size w w':=by
 unfold wordIs Sh.v;obtain⟨wd,ops,lit,nam,stp⟩:=x;simp only
 generalize (⟨wd.toArray⟩:ByteArray)=d;obtain⟨W,hW⟩:=zE (w.alloc (.cells #[.string d,.int .i64 (ops:Int),.bool lit,.bool nam,.bool stp] 148));have HBW:Hid (Below w.heap.size w W):=by show Below _ _ _;rw[hW];exact zB _ _
 have hk0:Blk W w.heap.size 148 [.string d,.int .i64 (ops:Int),.bool lit,.bool nam,.bool stp]:=by rw[hW];exact Blk.new w _ _
 have hc0:=hk0.cells;have hc1:=(hb.below HBW.out hb.lt).cells;clear hk0 hb;rw[hW] at hc0 hc1 HBW;clear hW W;by_cases h1:d=q
 ·subst h1;by_cases h2:d=⟨#[]⟩
  ·subst h2;rw[decide_eq_true rfl];go_enter Tryz.func165,Tryz.ntmps165;go_wp2;go_ret;exact⟨rfl,HBW.out⟩
  ·have h3:(d.toList==(⟨#[]⟩:ByteArray).toList)=false:=beq_eq_false_iff_ne.2 (fun h=>h2 (toList_inj h));have h4:=h3;rw[show (⟨#[]⟩:ByteArray).toList=[] by rw[ByteArray.toList_eq]] at h4;rw[decide_eq_true rfl,decide_eq_false h2];go_enter Tryz.func165,Tryz.ntmps165;go_wp2;go_ret;exact⟨rfl,HBW.out⟩
 ·have h3:(d.toList==q.toList)=false:=beq_eq_false_iff_ne.2 (fun h=>h1 (toList_inj h));rw[decide_eq_false h1];go_enter Tryz.func165,Tryz.ntmps165;go_wp2;go_ret;exact⟨rfl,HBW.out⟩
instance instInhabitedSh:Inhabited Sh:=⟨sh0⟩
theorem wordIs_below (q:ByteArray) (b:Nat) (t:TypeId) (w:World) (hb:Blk w b t [.string q]):
  PredBelow Tryz.prog 165 #[.pointer (some ⟨b,0,none⟩)] (fun x=>.agg (Sh.cells x).toArray) (wordIs q) w:=fun W x hW=>by
 refine (wordIs_any x q b t W (hb.below hW hb.lt)).mono ?_;rintro e w' ⟨rfl,h⟩;exact⟨rfl,bstep hW h⟩
def placeOf (q:ByteArray):Int:=Lib.idxBy (fun _ y=>wordIs q y) shs default
theorem placeOf_at (q:ByteArray) (b:Nat) (t:TypeId) (g off c:Nat) (w:World) (hb:Blk w b t [.string q]) (hg:g<w.heap.size)
  (hc:∀j,j<shs.length→∀i v,(Sh.cells shs[j]!)[i]?=some v→w.cell? ⟨g,off+j*5+i,none⟩=some v):
  Calls Tryz.prog 164 #[.slice (some ⟨g,off,none⟩) shs.length c,.func (.func 165) #[] #[.pointer (some ⟨b,0,none⟩)]] w fun e w'=>e=.returned (.int .i64 (placeOf q))∧Below w.heap.size w w':=by
 have eg:∀args w,(callFunc 165 args).run Tryz.prog w=.ok (.enter 165 args) w:=enters_of Tryz.func165 (by kernel_rfl) rfl
 have h:=AnyQ.slices_IndexFunc Tryz.idxN 5 Tryz.isAgg148 Tryz.sizeOf148 Sh.cells (fun _=>rfl) (wordIs q) 165 #[.pointer (some ⟨b,0,none⟩)] eg g off shs.length c shs w
  (wordIs_below q b t w hb) (Nat.le_refl _) (by decide) hg hc
 rw[List.take_length] at h;exact h
end Go.Proofs.YtmmbjngbeiokeaaGreatDoor
