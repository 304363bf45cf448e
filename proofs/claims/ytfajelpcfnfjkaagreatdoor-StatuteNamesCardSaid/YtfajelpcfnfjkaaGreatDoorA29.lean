/- A part of the proof: Em Eo Ep. -/
import Derived.Test.YtfajelpcfnfjkaaGreatDoorA28
set_option linter.unusedVariables false
set_option linter.unusedSimpArgs false
namespace Go.Proofs.YtfajelpcfnfjkaaGreatDoor
open Go.RowKit
theorem ext_span (cs s:List UInt8):(⟨s.toArray⟩:ByteArray).extract 0 ((⟨s.toArray⟩:ByteArray).size-(restS ⟨s.toArray⟩ ⟨cs.toArray⟩).size)=⟨(spanW cs s).toArray⟩:=by
 have h:restS ⟨s.toArray⟩ ⟨cs.toArray⟩=⟨(spanR cs s).toArray⟩:=rfl;rw[h,Lib.extract_eq];congr 2;show (s.drop 0).take (s.toArray.size-(spanR cs s).toArray.size-0)=spanW cs s;rw[List.drop_zero,Nat.sub_zero,List.size_toArray,List.size_toArray];have h2:=span_eq cs s;have h3:=congrArg List.length h2;rw[List.length_append] at h3;rw[show s.length-(spanR cs s).length=(spanW cs s).length from by omega]
 conv=>lhs;arg 2;rw[←h2]
 rw[List.take_left]
theorem spanL_at (s cs:List UInt8) (R:Nat) (t:TypeId) (l:List Value) (w:World) (hR:Blk w R t (.string ⟨s.toArray⟩::l)) (h63:s.length≤1048576)
  (hcs:cs.length<4294967281) (ha:cs.all (fun b=>decide (b.toNat<128))=true):
  Calls Tryz.prog 137 #[.pointer (some ⟨R,0,none⟩),.string ⟨cs.toArray⟩] w fun e w'=>e=.returned (.string ⟨(spanW cs s).toArray⟩)∧Blk w' R t (.string ⟨(spanR cs s).toArray⟩::l)∧Onl R w w':=by
 have h:=span_at ⟨s.toArray⟩ ⟨cs.toArray⟩ R t l w hR (by show s.length≤_;omega) hcs (ascii_of_all ha);rw[ext_span] at h;exact h
theorem num_yes (s:List UInt8) (R:Nat) (t:TypeId) (l:List Value) (w:World) (hR:Blk w R t (.string ⟨s.toArray⟩::l)) (hU:Under R w) (hs:s.length≤1048576) (a:Ra) (r:List UInt8) (h:numA s=some (a,r)):
  Calls Tryz.prog 142 #[.pointer (some ⟨R,0,none⟩)] w fun e w'=>e=.returned a.v∧Blk w' R t (.string ⟨r.toArray⟩::l)∧Onl R w w':=by
 unfold numA at h;split at h
 ·next hp=>
  have h1:=number_at ⟨s.toArray⟩ R t l w hR hU hs ⟨(spanW numL s).toArray⟩ (ext_span numL s);injection h with h;injection h with h2 h3;subst h3;refine h1.mono (fun e w' h=>?_);rw[if_pos hp,h2] at h;exact h
 ·cases h
theorem num_no (s:List UInt8) (R:Nat) (t:TypeId) (l:List Value) (w:World) (hR:Blk w R t (.string ⟨s.toArray⟩::l)) (hU:Under R w) (hs:s.length≤1048576) (h:numA s=none):
  Calls Tryz.prog 142 #[.pointer (some ⟨R,0,none⟩)] w fun e w'=>e=.panicked noText∧Onl R w w':=by
 unfold numA at h;split at h
 ·cases h
 ·next hp=>
  have h1:=number_at ⟨s.toArray⟩ R t l w hR hU hs ⟨(spanW numL s).toArray⟩ (ext_span numL s);refine h1.mono (fun e w' h=>?_);rw[if_neg hp] at h;exact⟨h.1,h.2.2⟩
theorem wantL_yes (s p:List UInt8) (R:Nat) (t:TypeId) (l:List Value) (w:World) (hR:Blk w R t (.string ⟨s.toArray⟩::l)) (h:Lib.hasPrefix s p=true):
  Calls Tryz.prog 139 #[.pointer (some ⟨R,0,none⟩),.string ⟨p.toArray⟩] w fun e w'=>e=.returned (.tuple #[])∧Blk w' R t (.string ⟨(s.drop p.length).toArray⟩::l)∧Onl R w w':=by
 have h1:=want_yes ⟨s.toArray⟩ ⟨p.toArray⟩ R t l w hR h;have h2:Lib.trimPrefix s p=s.drop p.length:=by unfold Lib.trimPrefix;rw[if_pos h]
 refine h1.mono ?_;rintro e w' ⟨rfl,rfl⟩;refine⟨rfl,?_,(Onl.refl R w).set 0 _⟩;have h3:=hR.set 0 (.string ⟨(Lib.trimPrefix s p).toArray⟩);rw[h2] at h3;show Blk (w.setCell _ (.string ⟨(Lib.trimPrefix s p).toArray⟩)) _ _ _;rw[h2];exact h3
theorem numA_len {s:List UInt8} {a:Ra} {r:List UInt8} (h:numA s=some (a,r)):r.length≤s.length:=by
 unfold numA at h;split at h
 ·injection h with h;injection h with h1 h2;subst h2;exact (List.dropWhile_sublist _).length_le
 ·cases h
theorem trim_one (c:UInt8) (cs:List UInt8):Lib.trimS [c] cs=if cs.contains c then [] else [c]:=by
 unfold Lib.trimS Lib.trimLeftS Lib.trimRightS;cases h:cs.contains c
 ·simp at h;simp[h]
 ·simp at h;simp[h]
def LitPost (r:Option (Option (Nd × List UInt8))) (s:List UInt8) (R:Nat) (t:TypeId) (l:List Value) (w:World) (e:Ending) (w':World):Prop:=
 (match r with
 |none=>e=.panicked noText
 |some none=>e=.returned (.tuple #[(nd 0 zR []).v,.bool false])∧Blk w' R t (.string ⟨s.toArray⟩::l)
 |some (some q)=>e=.returned (.tuple #[q.1.v,.bool true])∧Blk w' R t (.string ⟨q.2.toArray⟩::l))∧Onl R w w'
theorem cutp_at (s p:List UInt8) (w:World):Calls Tryz.prog 133 #[.string ⟨s.toArray⟩,.string ⟨p.toArray⟩] w fun e w'=>e=.returned (.tuple #[.string ⟨(Lib.trimPrefix s p).toArray⟩,.bool (Lib.hasPrefix s p)])∧w'=w:=Tryz.strings_CutPrefix ⟨s.toArray⟩ ⟨p.toArray⟩ w
theorem trim_at (s cs:List UInt8) (w:World) (hs:s.length≤1048576) (hcs:cs.length<4294967281) (ha:cs.all (fun b=>decide (b.toNat<128))=true):
  Calls Tryz.prog 96 #[.string ⟨s.toArray⟩,.string ⟨cs.toArray⟩] w fun e w'=>e=.returned (.string ⟨(Lib.trimS s cs).toArray⟩)∧Below w.heap.size w w':=
 Any.strings_Trim_laid Tryz.lays160 (by kernel_rfl) ⟨s.toArray⟩ ⟨cs.toArray⟩ w (by show s.length≤_;omega) hcs (ascii_of_all ha)
set_option maxRecDepth 100000 in
set_option maxHeartbeats 1600000 in
theorem lit_cash (s:List UInt8) (R:Nat) (t:TypeId) (l:List Value) (w:World) (hR:Blk w R t (.string ⟨s.toArray⟩::l)) (hU:Under R w) (hs:s.length≤1048576) (h:Lib.hasPrefix s [36]=true):
  Calls Tryz.prog 136 #[.pointer (some ⟨R,0,none⟩)] w (LitPost ((numA (s.drop 1)).map fun q=>some (nd 1 q.1 [],q.2)) s R t l w):=by
 have HCP:=Lib.hid (fun W=>cutp_at s [36] W);have htp:Lib.trimPrefix s [36]=s.drop 1:=by unfold Lib.trimPrefix;rw[if_pos h];rfl
 rw[htp,h] at HCP;obtain⟨s1,hs1⟩:∃s1,s.drop 1=s1:=⟨_,rfl⟩
 have hs1l:s1.length≤1048576:=by rw[←hs1,List.length_drop];omega
 rw[hs1] at HCP⊢;clear htp hs1 h;obtain⟨W,hW⟩:∃W,W=w.alloc (.cells #[.int .i64 0,.bool false,.string ⟨#[]⟩,.string ⟨#[]⟩,.string ⟨#[]⟩] 56):=⟨_,rfl⟩
 have hba:Below w.heap.size w W:=by rw[hW];exact (Below.refl _ _).alloc (Nat.le_refl _) _
 have hk0:Blk W w.heap.size 56 [.int .i64 0,.bool false,.string ⟨#[]⟩,.string ⟨#[]⟩,.string ⟨#[]⟩]:=by rw[hW];exact Blk.new w _ _
 have hsz:W.heap.size=w.heap.size+1:=by rw[hW];exact Array.size_push _
 obtain⟨B,hB⟩:∃B,B=w.heap.size:=⟨_,rfl⟩
 have HB:=Lib.hid hB;rw[←hB] at hba hsz hk0;have hRB:R<B:=by rw[HB.out];exact hR.lt
 have hRW:=hR.below hba hRB;have HUW:Hid (Under R W):=hU.onl (Onl.of_below (by rw[←HB.out];exact hba));have HOW:Hid (Onl R w W):=Onl.of_below (by rw[←HB.out];exact hba);have HRW:=Lib.hid hRW;have HK0:=Lib.hid hk0;have hc:=hRW.cells;have hf:=hRW.froz;rw[hW] at hc hf;clear hR hU hba hRW hk0;cases hn:numA s1 with
 |none=>
  have HP:Hid (∀w',Onl R w w'→LitPost ((none:Option (Ra × List UInt8)).map fun q=>some (nd 1 q.1 [],q.2)) s R t l w (.panicked noText) w'):=fun w' h=>⟨rfl,h⟩
  have HN:=Lib.hid (fun W h1 h2=>num_no s1 R t l W h1 h2 hs1l hn);go_enter Tryz.func136,Tryz.ntmps136;go_wp2_with fail;simp only[←hW,←hB]
  clear hW hB;clear hc hf;have hc:=HRW.out.cells;have hf:=HRW.out.froz;refine (HCP.out _).mono ?_;rintro e w1 ⟨rfl,rfl⟩;go_wp2_with fail;refine (HN.out _ (HRW.out.set 0 _) (HUW.out.onl ((Onl.refl R _).set 0 _))).mono ?_;rintro e w2 ⟨rfl,ho2⟩;have HO2:Hid (Onl R w w2):=(HOW.out.trans ((Onl.refl R _).set 0 _)).trans ho2;clear ho2 hc hf;go_wp2;exact⟨rfl,HP.out _ HO2.out⟩
 |some ar=>
  obtain⟨a,r⟩:=ar;have HP:Hid (∀w',Onl R w w'→Blk w' R t (.string ⟨r.toArray⟩::l)→LitPost ((some (a,r)).map fun q=>some (nd 1 q.1 [],q.2)) s R t l w (.returned (.tuple #[(nd 1 a []).v,.bool true])) w'):=fun w' h h2=>⟨⟨rfl,h2⟩,h⟩
  have HN:=Lib.hid (fun W h1 h2=>num_yes s1 R t l W h1 h2 hs1l a r hn);obtain⟨neg,num,den⟩:=a;unfold Ra.v at HN;simp only at HN;clear hn;go_enter Tryz.func136,Tryz.ntmps136;go_wp2_with fail;simp only[←hW,←hB]
  clear hW hB;clear hc hf;have hc:=HRW.out.cells;have hf:=HRW.out.froz;refine (HCP.out _).mono ?_;rintro e w1 ⟨rfl,rfl⟩;go_wp2_with fail;refine (HN.out _ (HRW.out.set 0 _) (HUW.out.onl ((Onl.refl R _).set 0 _))).mono ?_;rintro e w2 ⟨rfl,hk2,ho2⟩;have hk0:=ho2.blk (HK0.out.other (p:=⟨R,0,none⟩) (by show B≠R;omega) (.string ⟨s1.toArray⟩)) (by omega);have HO2:Hid (Onl R w w2):=(HOW.out.trans ((Onl.refl R _).set 0 _)).trans ho2;have HK2:=Lib.hid hk2;clear hc hf;have hc:=hk0.cells;have hf:=hk0.froz;clear hk2 ho2 hk0 HK0;go_wp2;refine bodyPost_ret (v:=.tuple #[(nd 1 ⟨neg,num,den⟩ []).v,.bool true]) (by simp[results,Tryz.results136,go_sem,hc,nd,Nd.v]) rfl (HP.out _ ?_ ?_)
  ·have h:=HB.out;exact ((((HO2.out.fresh (by omega) 0 _).fresh (by omega) 1 _).fresh (by omega) 2 _).fresh (by omega) 3 _).fresh (by omega) 4 _
  ·exact ((((HK2.out.other (p:=⟨B,0,none⟩) (by show R≠B;omega) _).other (p:=⟨B,1,none⟩) (by show R≠B;omega) _).other (p:=⟨B,2,none⟩) (by show R≠B;omega) _).other (p:=⟨B,3,none⟩) (by show R≠B;omega) _).other (p:=⟨B,4,none⟩) (by show R≠B;omega) _
set_option maxRecDepth 100000 in
set_option maxHeartbeats 1600000 in
theorem lit_miss (s:List UInt8) (R:Nat) (t:TypeId) (l:List Value) (w:World) (hR:Blk w R t (.string ⟨s.toArray⟩::l)) (hU:Under R w) (hs:s.length≤1048576) (h:Lib.hasPrefix s [36]=false) (h2:s.isEmpty|| !(litL.contains (s.headD 0))=true):
  Calls Tryz.prog 136 #[.pointer (some ⟨R,0,none⟩)] w (LitPost (some none) s R t l w):=by
 have HCP:=Lib.hid (fun W=>cutp_at s [36] W);have htp:Lib.trimPrefix s [36]=s:=by unfold Lib.trimPrefix;rw[if_neg (by rw[h];simp)]
 rw[htp,h] at HCP;have HP:Hid (∀w',Onl R w w'→Blk w' R t (.string ⟨s.toArray⟩::l)→LitPost (some none) s R t l w (.returned (.tuple #[(nd 0 zR []).v,.bool false])) w'):=fun w' h h2=>⟨⟨rfl,h2⟩,h⟩
 clear htp h;obtain⟨W,hW⟩:∃W,W=w.alloc (.cells #[.int .i64 0,.bool false,.string ⟨#[]⟩,.string ⟨#[]⟩,.string ⟨#[]⟩] 56):=⟨_,rfl⟩
 have hba:Below w.heap.size w W:=by rw[hW];exact (Below.refl _ _).alloc (Nat.le_refl _) _
 have hk0:Blk W w.heap.size 56 [.int .i64 0,.bool false,.string ⟨#[]⟩,.string ⟨#[]⟩,.string ⟨#[]⟩]:=by rw[hW];exact Blk.new w _ _
 have hsz:W.heap.size=w.heap.size+1:=by rw[hW];exact Array.size_push _
 obtain⟨B,hB⟩:∃B,B=w.heap.size:=⟨_,rfl⟩
 have HB:=Lib.hid hB;rw[←hB] at hba hsz hk0;have hRB:R<B:=by rw[HB.out];exact hR.lt
 have hRW:=hR.below hba hRB;have HUW:Hid (Under R W):=hU.onl (Onl.of_below (by rw[←HB.out];exact hba));have HOW:Hid (Onl R w W):=Onl.of_below (by rw[←HB.out];exact hba);have HRW:=Lib.hid hRW;have HK0:=Lib.hid hk0;have hc:=hRW.cells;have hf:=hRW.froz;rw[hW] at hc hf;clear hR hU hba hRW hk0;cases s with
 |nil=>
  go_enter Tryz.func136,Tryz.ntmps136;go_wp2_with fail;simp only[←hW,←hB]
  clear hW hB;clear hc hf;have hc:=HRW.out.cells;have hf:=HRW.out.froz;refine (HCP.out _).mono ?_;rintro e w1 ⟨rfl,rfl⟩;have hc2:=HK0.out.cells;have hf2:=HK0.out.froz;go_wp2;refine bodyPost_ret (v:=.tuple #[(nd 0 zR []).v,.bool false]) (by simp[results,Tryz.results136,go_sem,hc2,nd,Nd.v,zR]) rfl (HP.out _ ?_ ?_)
  ·have h:=HB.out;exact ((((HOW.out.fresh (by omega) 0 _).fresh (by omega) 1 _).fresh (by omega) 2 _).fresh (by omega) 3 _).fresh (by omega) 4 _
  ·exact ((((HRW.out.other (p:=⟨B,0,none⟩) (by show R≠B;omega) _).other (p:=⟨B,1,none⟩) (by show R≠B;omega) _).other (p:=⟨B,2,none⟩) (by show R≠B;omega) _).other (p:=⟨B,3,none⟩) (by show R≠B;omega) _).other (p:=⟨B,4,none⟩) (by show R≠B;omega) _
 |cons c m=>
  have hlc:litL.contains c=false:=by simpa using h2
  have HT:=Lib.hid (fun W=>trim_at [c] litL W (by simp) (by decide) (by decide));rw[trim_one,hlc,if_neg (by simp)] at HT;have hx:(⟨(c::m).toArray⟩:ByteArray).extract 0 1=⟨[c].toArray⟩:=by rw[Lib.extract_eq];rfl
  rw[←hx] at HT;have hs1:1≤(⟨(c::m).toArray⟩:ByteArray).size:=by show 1≤(c::m).length;simp
  have e0:((⟨(c::m).toArray⟩:ByteArray).toList==[])=false:=by rw[ByteArray.toList_eq];rfl
  have e1:(⟨(c::m).toArray⟩:ByteArray).toList.isEmpty=false:=by rw[ByteArray.toList_eq];rfl
  have e2:(((⟨(c::m).toArray⟩:ByteArray).extract 0 1).toList !=[])=true:=by rw[hx,ByteArray.toList_eq];rfl
  have e3:((⟨(c::m).toArray⟩:ByteArray).extract 0 1).toList.isEmpty=false:=by rw[hx,ByteArray.toList_eq];rfl
  clear hx h2 hs;generalize (⟨(c::m).toArray⟩:ByteArray)=S at*;unfold litL at HT;go_enter Tryz.func136,Tryz.ntmps136;go_wp2_with fail;simp only[←hW,←hB]
  clear hW hB;clear hc hf;have hc:=HRW.out.cells;have hf:=HRW.out.froz;refine (HCP.out _).mono ?_;rintro e w1 ⟨rfl,rfl⟩;go_wp2_with fail;refine (HT.out _).mono ?_;rintro e w2 ⟨rfl,hb2⟩;have HK2:=Lib.hid (HK0.out.below hb2 HK0.out.lt);have HR2:=Lib.hid (HRW.out.below hb2 HRW.out.lt);have HO2:Hid (Onl R w w2):=HOW.out.trans (Onl.of_below hb2);clear hc hf hb2;have hc2:=HK2.out.cells;have hf2:=HK2.out.froz;go_wp2;refine bodyPost_ret (v:=.tuple #[(nd 0 zR []).v,.bool false]) (by simp[results,Tryz.results136,go_sem,hc2,nd,Nd.v,zR]) rfl (HP.out _ ?_ ?_)
  ·have h:=HB.out;exact ((((HO2.out.fresh (by omega) 0 _).fresh (by omega) 1 _).fresh (by omega) 2 _).fresh (by omega) 3 _).fresh (by omega) 4 _
  ·exact ((((HR2.out.other (p:=⟨B,0,none⟩) (by show R≠B;omega) _).other (p:=⟨B,1,none⟩) (by show R≠B;omega) _).other (p:=⟨B,2,none⟩) (by show R≠B;omega) _).other (p:=⟨B,3,none⟩) (by show R≠B;omega) _).other (p:=⟨B,4,none⟩) (by show R≠B;omega) _
set_option maxRecDepth 100000 in
set_option maxHeartbeats 3200000 in
theorem lit_num (c:UInt8) (m:List UInt8) (R:Nat) (t:TypeId) (l:List Value) (w:World) (hR:Blk w R t (.string ⟨(c::m).toArray⟩::l)) (hU:Under R w) (hs:(c::m).length≤1048576) (h:Lib.hasPrefix (c::m) [36]=false) (hlc:litL.contains c=true):
  Calls Tryz.prog 136 #[.pointer (some ⟨R,0,none⟩)] w (LitPost ((numA (c::m)).map fun q=>if Lib.hasPrefix q.2 [100] then some (nd 2 q.1 [],q.2.drop 1) else some (nd 3 q.1 [],q.2)) (c::m) R t l w):=by
 have HCP:=Lib.hid (fun W=>cutp_at (c::m) [36] W);have htp:Lib.trimPrefix (c::m) [36]=c::m:=by unfold Lib.trimPrefix;rw[if_neg (by rw[h];simp)]
 rw[htp,h] at HCP;clear htp h;obtain⟨W,hW⟩:∃W,W=w.alloc (.cells #[.int .i64 0,.bool false,.string ⟨#[]⟩,.string ⟨#[]⟩,.string ⟨#[]⟩] 56):=⟨_,rfl⟩
 have hba:Below w.heap.size w W:=by rw[hW];exact (Below.refl _ _).alloc (Nat.le_refl _) _
 have hk0:Blk W w.heap.size 56 [.int .i64 0,.bool false,.string ⟨#[]⟩,.string ⟨#[]⟩,.string ⟨#[]⟩]:=by rw[hW];exact Blk.new w _ _
 have hsz:W.heap.size=w.heap.size+1:=by rw[hW];exact Array.size_push _
 obtain⟨B,hB⟩:∃B,B=w.heap.size:=⟨_,rfl⟩
 have HB:=Lib.hid hB;rw[←hB] at hba hsz hk0;have hRB:R<B:=by rw[HB.out];exact hR.lt
 have hRW:=hR.below hba hRB;have HUW:Hid (Under R W):=hU.onl (Onl.of_below (by rw[←HB.out];exact hba));have HOW:Hid (Onl R w W):=Onl.of_below (by rw[←HB.out];exact hba);have HRW:=Lib.hid hRW;have HK0:=Lib.hid hk0;have hc:=hRW.cells;have hf:=hRW.froz;rw[hW] at hc hf;clear hR hU hba hRW hk0;have HT:=Lib.hid (fun W=>trim_at [c] litL W (by simp) (by decide) (by decide));rw[trim_one,hlc,if_pos rfl] at HT;have hx:(⟨(c::m).toArray⟩:ByteArray).extract 0 1=⟨[c].toArray⟩:=by rw[Lib.extract_eq];rfl
 rw[←hx] at HT;have hs1:1≤(⟨(c::m).toArray⟩:ByteArray).size:=by show 1≤(c::m).length;simp
 have e0:((⟨(c::m).toArray⟩:ByteArray).toList==[])=false:=by rw[ByteArray.toList_eq];rfl
 have e1:(⟨(c::m).toArray⟩:ByteArray).toList.isEmpty=false:=by rw[ByteArray.toList_eq];rfl
 clear hx hlc;unfold litL at HT;cases hn:numA (c::m) with
 |none=>
  have HP:Hid (∀w',Onl R w w'→LitPost ((none:Option (Ra × List UInt8)).map fun q=>if Lib.hasPrefix q.2 [100] then some (nd 2 q.1 [],q.2.drop 1) else some (nd 3 q.1 [],q.2)) (c::m) R t l w (.panicked noText) w'):=fun w' h=>⟨rfl,h⟩
  have HN:=Lib.hid (fun W h1 h2=>num_no (c::m) R t l W h1 h2 hs hn);clear hn hs;generalize (⟨(c::m).toArray⟩:ByteArray)=S at*;go_enter Tryz.func136,Tryz.ntmps136;go_wp2_with fail;simp only[←hW,←hB]
  clear hW hB;clear hc hf;have hc:=HRW.out.cells;have hf:=HRW.out.froz;refine (HCP.out _).mono ?_;rintro e w1 ⟨rfl,rfl⟩;go_wp2_with fail;refine (HT.out _).mono ?_;rintro e w2 ⟨rfl,hb2⟩;have HR2:=Lib.hid (HRW.out.below hb2 HRW.out.lt);have HU2:Hid (Under R w2):=HUW.out.onl (Onl.of_below hb2);have HO2:Hid (Onl R w w2):=HOW.out.trans (Onl.of_below hb2);clear hc hf hb2;go_wp2_with fail;refine (HN.out _ HR2.out HU2.out).mono ?_;rintro e w3 ⟨rfl,ho3⟩;have HO3:=Lib.hid (HO2.out.trans ho3);clear ho3;go_wp2;exact⟨rfl,HP.out _ HO3.out⟩
 |some ar=>
  obtain⟨a,r⟩:=ar;have hrl:=numA_len hn;have hrl2:r.length≤1048576:=by omega
  have HN:=Lib.hid (fun W h1 h2=>num_yes (c::m) R t l W h1 h2 hs a r hn);have HC2:=Lib.hid (fun W=>cutp_at r [100] W);cases hd:Lib.hasPrefix r [100]
  ·have HP:Hid (∀w',Onl R w w'→Blk w' R t (.string ⟨r.toArray⟩::l)→LitPost ((some (a,r)).map fun q=>if Lib.hasPrefix q.2 [100] then some (nd 2 q.1 [],q.2.drop 1) else some (nd 3 q.1 [],q.2)) (c::m) R t l w (.returned (.tuple #[(nd 3 a []).v,.bool true])) w'):=fun w' h h2=>by
    simp only[Option.map_some,hd,if_neg Bool.false_ne_true]
    exact⟨⟨rfl,h2⟩,h⟩
   have htp:Lib.trimPrefix r [100]=r:=by unfold Lib.trimPrefix;rw[if_neg (by rw[hd];simp)]
   rw[htp,hd] at HC2;obtain⟨neg,num,den⟩:=a;unfold Ra.v at HN;simp only at HN;clear hn hs hd htp hrl hrl2;generalize (⟨(c::m).toArray⟩:ByteArray)=S at*;generalize (⟨r.toArray⟩:ByteArray)=S2 at*;go_enter Tryz.func136,Tryz.ntmps136;go_wp2_with fail;simp only[←hW,←hB]
   clear hW hB;clear hc hf;have hc:=HRW.out.cells;have hf:=HRW.out.froz;refine (HCP.out _).mono ?_;rintro e w1 ⟨rfl,rfl⟩;go_wp2_with fail;refine (HT.out _).mono ?_;rintro e w2 ⟨rfl,hb2⟩;have HR2:=Lib.hid (HRW.out.below hb2 HRW.out.lt);have HK2:=Lib.hid (HK0.out.below hb2 HK0.out.lt);have HU2:Hid (Under R w2):=HUW.out.onl (Onl.of_below hb2);have HO2:Hid (Onl R w w2):=HOW.out.trans (Onl.of_below hb2);clear hc hf hb2;go_wp2_with fail;refine (HN.out _ HR2.out HU2.out).mono ?_;rintro e w3 ⟨rfl,hk3,ho3⟩;have hkB:=(ho3.blk HK2.out (by omega)).alloc (.cells #[.int .i64 3,.bool neg,.string num,.string den,.string ⟨#[]⟩] 56);have hk3':=hk3.alloc (.cells #[.int .i64 3,.bool neg,.string num,.string den,.string ⟨#[]⟩] 56);have HO3:Hid (Onl R w (w3.alloc (.cells #[.int .i64 3,.bool neg,.string num,.string den,.string ⟨#[]⟩] 56))):=(HO2.out.trans ho3).trans (Onl.of_below ((Below.refl _ _).alloc (Nat.le_refl _) _));have HKB:=Lib.hid hkB;have HK3:=Lib.hid hk3';have hc:=hk3'.cells;have hf:=hk3'.froz;have hc2:=hkB.cells;have hf2:=hkB.froz;clear hk3 ho3 hkB hk3';go_wp2_with fail;refine (HC2.out _).mono ?_;rintro e w4 ⟨rfl,rfl⟩;go_wp2;refine bodyPost_ret (v:=.tuple #[(nd 3 ⟨neg,num,den⟩ []).v,.bool true]) (by simp[results,Tryz.results136,go_sem,hc2,nd,Nd.v]) rfl (HP.out _ ?_ ?_)
   ·have h:=HB.out;exact ((((HO3.out.fresh (by omega) 0 _).fresh (by omega) 1 _).fresh (by omega) 2 _).fresh (by omega) 3 _).fresh (by omega) 4 _
   ·exact ((((HK3.out.other (p:=⟨B,0,none⟩) (by show R≠B;omega) _).other (p:=⟨B,1,none⟩) (by show R≠B;omega) _).other (p:=⟨B,2,none⟩) (by show R≠B;omega) _).other (p:=⟨B,3,none⟩) (by show R≠B;omega) _).other (p:=⟨B,4,none⟩) (by show R≠B;omega) _
  ·have HP:Hid (∀w',Onl R w w'→Blk w' R t (.string ⟨(r.drop 1).toArray⟩::l)→LitPost ((some (a,r)).map fun q=>if Lib.hasPrefix q.2 [100] then some (nd 2 q.1 [],q.2.drop 1) else some (nd 3 q.1 [],q.2)) (c::m) R t l w (.returned (.tuple #[(nd 2 a []).v,.bool true])) w'):=fun w' h h2=>by
    simp only[Option.map_some,hd,if_true]
    exact⟨⟨rfl,h2⟩,h⟩
   have htp:Lib.trimPrefix r [100]=r.drop 1:=by unfold Lib.trimPrefix;rw[if_pos hd];rfl
   rw[htp,hd] at HC2;obtain⟨neg,num,den⟩:=a;unfold Ra.v at HN;simp only at HN;clear hn hs hd htp hrl hrl2;generalize (⟨(c::m).toArray⟩:ByteArray)=S at*;generalize (⟨r.toArray⟩:ByteArray)=S2 at*;generalize (⟨(r.drop 1).toArray⟩:ByteArray)=S3 at*;go_enter Tryz.func136,Tryz.ntmps136;go_wp2_with fail;simp only[←hW,←hB]
   clear hW hB;clear hc hf;have hc:=HRW.out.cells;have hf:=HRW.out.froz;refine (HCP.out _).mono ?_;rintro e w1 ⟨rfl,rfl⟩;go_wp2_with fail;refine (HT.out _).mono ?_;rintro e w2 ⟨rfl,hb2⟩;have HR2:=Lib.hid (HRW.out.below hb2 HRW.out.lt);have HK2:=Lib.hid (HK0.out.below hb2 HK0.out.lt);have HU2:Hid (Under R w2):=HUW.out.onl (Onl.of_below hb2);have HO2:Hid (Onl R w w2):=HOW.out.trans (Onl.of_below hb2);clear hc hf hb2;go_wp2_with fail;refine (HN.out _ HR2.out HU2.out).mono ?_;rintro e w3 ⟨rfl,hk3,ho3⟩;have hk3b:=ho3.blk HK2.out (by omega);have hkB:=hk3b.alloc (.cells #[.int .i64 3,.bool neg,.string num,.string den,.string ⟨#[]⟩] 56);have hk3':=hk3.alloc (.cells #[.int .i64 3,.bool neg,.string num,.string den,.string ⟨#[]⟩] 56);have hk6:=Blk.new w3 56 #[.int .i64 3,.bool neg,.string num,.string den,.string ⟨#[]⟩];have HO3:Hid (Onl R w (w3.alloc (.cells #[.int .i64 3,.bool neg,.string num,.string den,.string ⟨#[]⟩] 56))):=(HO2.out.trans ho3).trans (Onl.of_below ((Below.refl _ _).alloc (Nat.le_refl _) _));have hR6:R<w3.heap.size:=hk3.lt;have hB6:B<w3.heap.size:=hk3b.lt;have HLT:Hid (R<w3.heap.size∧B<w3.heap.size∧w.heap.size≤w3.heap.size):=⟨hR6,hB6,by have:=hB6;have:=HB.out;omega⟩
   have HKB:=Lib.hid hkB;have HK3:=Lib.hid hk3';have HK6:=Lib.hid hk6;have hc:=hk3'.cells;have hf:=hk3'.froz;clear hk3 ho3 hkB hk3' hk6 hk3b hR6 hB6;go_wp2_with fail;refine (HC2.out _).mono ?_;rintro e w4 ⟨rfl,rfl⟩;generalize hN:w3.heap.size=N6 at*;have hRN:R<N6:=HLT.out.1;have hBN:B<N6:=HLT.out.2.1;have hq1:¬R=N6:=by omega
   have hq2:¬N6=R:=by omega
   have hq3:¬B=N6:=by omega
   have hq4:¬N6=B:=by omega
   have hq5:¬R=B:=by omega
   have hq6:¬B=R:=by omega
   generalize w3.alloc (.cells #[.int .i64 3,.bool neg,.string num,.string den,.string ⟨#[]⟩] 56)=W4 at*;clear hN;have hc2:=HKB.out.cells;have hf2:=HKB.out.froz;have hc6:=HK6.out.cells;have hf6:=HK6.out.froz;go_wp2;refine bodyPost_ret (v:=.tuple #[(nd 2 ⟨neg,num,den⟩ []).v,.bool true]) (by simp[results,Tryz.results136,go_sem,hc2,hc6,hq1,hq2,hq3,hq4,nd,Nd.v]) rfl (HP.out _ ?_ ?_)
   ·have h:=HB.out;have h2:=HLT.out.2.2;exact ((((((HO3.out.set 0 _).fresh (by omega) 0 _).fresh (by omega) 0 _).fresh (by omega) 1 _).fresh (by omega) 2 _).fresh (by omega) 3 _).fresh (by omega) 4 _
   ·exact (((((((HK3.out.set 0 (.string S3))).other (p:=⟨N6,0,none⟩) (by show R≠N6;omega) _).other (p:=⟨B,0,none⟩) (by show R≠B;omega) _).other (p:=⟨B,1,none⟩) (by show R≠B;omega) _).other (p:=⟨B,2,none⟩) (by show R≠B;omega) _).other (p:=⟨B,3,none⟩) (by show R≠B;omega) _).other (p:=⟨B,4,none⟩) (by show R≠B;omega) _
theorem step_push_at {P:Program} (W:World) (news:Array Value) {ops:Array Oper} {o:Oper} {a:Act} {K:Act→World→Prop} {Q:Exit→Act→World→Prop} {E:Prop} (hgd:o.guard=none) (s x:Operand) (t:TypeId)
  (ho:o.op=.call {callee:=.builtin .append,args:=#[s,x],argTypes:=#[t,t]})
  (base:Nat) (e:TypeId) (z:Value) (size bytes m:Nat) (ht:P.underlying t=some (.slice e)) (hinfo:(P.info? e).map (fun i=>(i.zero,i.size,i.bytes))=some (some z,size,bytes)) (hzs:z.cells.size=size) (hsz:0<size)
  (v:Value) (n:Nat) (xs:List Value) (hs:a.eval s=v) (hown:W.ownsRow base e size v n xs)
  (hx:a.eval x=.slice (some ⟨W.heap.size,0,none⟩) m m) (hl:news.size=m*size) (h1:∀u∈news.toList,u.oneCell'=true)
  (h63:n+m≤maxLen) (hbytes:(n+m)*bytes≤140737488355328) (hbase:base≤W.heap.size)
  (h:∀v' w',w'.ownsRow base e size v' (n+m) (xs++news.toList)→W.grownBy w' v.ownBlock→(∀g,v'.ownBlock=some g→v.ownBlock=some g∨W.heap.size≤g)→K (a.put o.dst v') w'):
  if Region.wanted o (yielded ops a.tmps)=true then Oper.wp P o a (W.alloc (.cells news e)) K Q else E:=by
 have hw:Region.wanted o (yielded ops a.tmps)=true:=by simp[Region.wanted,hgd]
 rw[if_pos hw];obtain⟨i,hi,hzz⟩:=Option.map_eq_some_iff.1 hinfo;simp only[Prod.mk.injEq] at hzz;obtain⟨hz,hs1,hb⟩:=hzz
 have hnews:∀j u,news.toList[j]?=some u→(W.alloc (.cells news e)).cell? ((⟨W.heap.size,0,none⟩:Addr).add j)=some u:=by
  intro j u hj;have hb:=Blk.new W e news;have hj':j<news.toList.length:=(List.getElem?_eq_some_iff.1 hj).1;have:=hb.cell hj';rw[show Addr.add ⟨W.heap.size,0,none⟩ j=⟨W.heap.size,j,none⟩ from by unfold Addr.add;split<;>simp_all,this,←(List.getElem?_eq_some_iff.1 hj).2]
 obtain⟨v',w',hr,h2,h3,h4,h5⟩:=run_append_own_at (P:=P) (W.alloc (.cells news e)) base t o.type e i z size bytes ht hi hz hs1 hb hzs hsz v n xs (hown.alloc _) ⟨W.heap.size,0,none⟩ m m news.toList (by simpa using hl) hnews h1 h63 hbytes (by simp;omega);unfold Oper.wp execOp;simp only[ho,resolve,invoke,builtin,Sem.run_bind,Sem.run_pure,Result.andThen_ok,List.map_toArray,List.map_cons,List.map_nil,hs,hx,hr]
 refine h v' w' h2 ?_ ?_
 ·have ha:=World.grownBy_alloc W (.cells news e) v.ownBlock;exact⟨h3.os.trans ha.os,h3.tape.trans ha.tape,h3.output.trans ha.output,Nat.le_trans ha.size h3.size,fun k hk hne=>(h3.block k (Nat.lt_of_lt_of_le hk ha.size) hne).trans (ha.block k hk hne)⟩
 ·intro g hgv;rcases h5 with hv|hv
  ·exact .inl (by rw[←hv];exact hgv)
  ·rw[hv] at hgv;injection hgv with hgv;subst hgv;exact .inr (by rw[World.size_alloc];omega)
structure PF (R:Nat) (w:World) (v:Value) (w':World) (v':Value):Prop where
 os:w'.os=w.os
 tape:w'.tape=w.tape
 output:w'.output=w.output
 size:w.heap.size≤w'.heap.size
 block:∀k,k<w.heap.size→k≠R→v.ownBlock≠some k→w'.heap[k]?=w.heap[k]?
 own:∀g,v'.ownBlock=some g→v.ownBlock=some g∨w.heap.size≤g
theorem PF.trans {R:Nat} {w w' w'':World} {v v' v'':Value} (h:PF R w v w' v') (k:PF R w' v' w'' v''):PF R w v w'' v'':=
 ⟨k.os.trans h.os,k.tape.trans h.tape,k.output.trans h.output,Nat.le_trans h.size k.size,
   fun i hi hR hv=>(k.block i (Nat.lt_of_lt_of_le hi h.size) hR (fun he=>by rcases h.own i he with h'|h';exact hv h';omega)).trans (h.block i hi hR hv),
   fun g hg=>by
    rcases k.own g hg with h'|h'
    ·exact h.own g h'
    ·exact .inr (Nat.le_trans h.size h')⟩
theorem PF.of_onl {R:Nat} {w w':World} {v:Value} (h:Onl R w w'):PF R w v w' v:=
 ⟨h.os,h.tape,h.output,h.size,fun k hk hR _=>h.block k hk hR,fun g hg=>.inl hg⟩
theorem PF.of_below {R:Nat} {w w':World} {v:Value} (h:Below w.heap.size w w'):PF R w v w' v:=PF.of_onl (Onl.of_below h)
theorem PF.blk {R b:Nat} {w w':World} {v v':Value} {t:TypeId} {cs:List Value} (h:PF R w v w' v') (hb:Blk w b t cs) (hR:b≠R) (hv:v.ownBlock≠some b):Blk w' b t cs:=hb.of_block (h.block b hb.lt hR hv)
theorem PF.below {R B n:Nat} {w w':World} {v v':Value} {xs:List Value} {e:TypeId} {sz:Nat} (h:PF R w v w' v') (hown:w.ownsRow (R+1) e sz v n xs) (hB:B≤R) (hw:B≤w.heap.size):Below B w w':=
 ⟨h.os,h.tape,h.output,h.size,fun k hk=>h.block k (by omega) (by omega) (fun he=>by have:=(hown.lt k he).1;omega)⟩
def ExPost (r:Option PS) (R:Nat) (v:Value) (w:World) (e:Ending) (w':World):Prop:=
 match r with
 |none=>e=.panicked noText∧Below R w w'
 |some q=>e=.returned (.tuple #[])∧∃v',Blk w' R 177 [.string ⟨q.1.toArray⟩,v',.int .i64 (q.2.2:Int)]∧w'.ownsRow (R+1) 56 5 v' q.2.1.length (nds q.2.1)∧PF R w v w' v'
theorem drop_len (s:List UInt8) (n:Nat):(s.drop n).length≤s.length:=by rw[List.length_drop];omega
theorem spanR_len (cs s:List UInt8):(spanR cs s).length≤s.length:=(List.dropWhile_sublist _).length_le
theorem spanW_len (cs s:List UInt8):(spanW cs s).length≤s.length:=(List.takeWhile_sublist _).length_le
theorem litA_len {s:List UInt8} {q:Nd × List UInt8} (h:litA s=some (some q)):q.2.length≤s.length:=by
 unfold litA at h;split at h
 ·cases hn:numA (s.drop 1) with
  |none=>rw[hn] at h;cases h
  |some ar=>
   obtain⟨a,r⟩:=ar;rw[hn] at h;injection h with h;injection h with h;have:=numA_len hn;have:=drop_len s 1;rw[←h];show r.length≤_;omega
 ·split at h
  ·cases h
  ·cases hn:numA s with
   |none=>rw[hn] at h;cases h
   |some ar=>
    obtain⟨a,r⟩:=ar;rw[hn] at h;have h1:=numA_len hn;have h2:=drop_len r 1;simp only[Option.map_some] at h;split at h
    ·injection h with h;injection h with h;rw[←h];show (r.drop 1).length≤_;omega
    ·injection h with h;injection h with h;rw[←h];exact h1
structure PB (s:List UInt8) (ns:List Nd) (b:Nat) (q:PS):Prop where
 rest:q.1.length≤s.length
 begun:b≤q.2.2
 most:q.2.2≤60
 nodes:ns.length+q.2.2≥q.2.1.length+b
theorem opsA_pb {p:List UInt8→List Nd→Nat→Option PS} (hp:∀s ns b q,p s ns b=some q→PB s ns b q) (m:Nat):∀k s ns b q,b≤60→opsA p m k s ns b=some q→PB s ns b q:=by
 induction m with
 |zero=>
  intro k s ns b q hb h;injection h with h;subst h;exact⟨Nat.le_refl _,Nat.le_refl _,hb,Nat.le_refl _⟩
 |succ m ih=>
  intro k s ns b q hb h;rw[opsA] at h;split at h
  ·obtain⟨t,h1,h2⟩:=Option.bind_eq_some_iff.1 h;have p1:=hp _ _ _ _ h1;have p2:=ih _ _ _ _ _ p1.most h2;have:=drop_len s (sepW k).length;exact⟨Nat.le_trans p2.rest (Nat.le_trans p1.rest this),Nat.le_trans p1.begun p2.begun,p2.most,by have:=p1.nodes;have:=p2.nodes;omega⟩
  ·cases h
theorem stpA_len {y:Bool} {s:List UInt8} {q:Ra × List UInt8} (h:stpA y s=some q):q.2.length≤s.length:=by
 unfold stpA at h;split at h
 ·split at h
  ·obtain⟨t,h1,h2⟩:=Option.bind_eq_some_iff.1 h;split at h2
   ·injection h2 with h2;have a1:=numA_len h1;have a2:=drop_len s 1;have a3:=drop_len t.2 1;rw[←h2];show (t.2.drop 1).length≤_;obtain⟨t1,t2⟩:=t;simp only at*;omega
   ·cases h2
  ·cases h
 ·injection h with h;rw[←h];exact Nat.le_refl _
theorem dotA_len (s:List UInt8):(dotA s).2.length≤s.length∧(dotA s).1.length≤s.length+1:=by
 have h1:=spanR_len lettersL s;have h2:=spanW_len lettersL s;have h3:=drop_len (spanR lettersL s) 1;unfold dotA;split
 ·exact⟨by show (List.drop 1 _).length≤_;omega,by simp;omega⟩
 ·exact⟨h1,by show (spanW lettersL s).length≤_;omega⟩
theorem parA_pb (f:Nat):∀s ns b q,parA f s ns b=some q→PB s ns b q∧b<q.2.2:=by
 induction f with
 |zero=>intro s ns b q h;cases h
 |succ f ih=>
  intro s ns b q h;rw[parA] at h;split at h
  ·cases h
  ·next hb=>
   obtain⟨t,h1,h2⟩:=Option.bind_eq_some_iff.1 h;cases t with
   |some t=>
    injection h2 with h2;have:=litA_len h1;subst h2;exact⟨⟨this,Nat.le_succ _,by show b+1≤60;omega,by simp;omega⟩,Nat.lt_succ_self _⟩
   |none=>
    have hl:=spanR_len lettersL s;simp only at h2;split at h2
    ·injection h2 with h2;subst h2;exact⟨⟨hl,Nat.le_succ _,by show b+1≤60;omega,by simp;omega⟩,Nat.lt_succ_self _⟩
    ·split at h2
     ·injection h2 with h2;subst h2;exact⟨⟨hl,Nat.le_succ _,by show b+1≤60;omega,by simp;omega⟩,Nat.lt_succ_self _⟩
     ·split at h2
      ·cases h2
      ·have hd:=(dotA_len s).1;unfold tailA at h2;obtain⟨u,h3,h4⟩:=Option.bind_eq_some_iff.1 h2;obtain⟨x,h5,h6⟩:=Option.bind_eq_some_iff.1 h4;have a1:=stpA_len h3
       have a2:(if (shp (placeOf ⟨(dotA s).1.toArray⟩)).nam=true then spanR namesL (dotA s).2 else (dotA s).2).length≤(dotA s).2.length:=by
        split
        ·exact spanR_len _ _
        ·exact Nat.le_refl _
       have a3:=opsA_pb (fun s ns b q h=>(ih s ns b q h).1) _ _ _ _ _ _ (by omega) h5;have a4:=a3.rest;have a5:=a3.begun;have a6:=a3.most;have a7:=a3.nodes;split at h6
       ·split at h6
        ·injection h6 with h6;subst h6;have a8:=drop_len x.1 1;exact⟨⟨by show (x.1.drop 1).length≤_;omega,by show b≤x.2.2;omega,a6,by simp;omega⟩,by show b<x.2.2;omega⟩
        ·cases h6
       ·injection h6 with h6;subst h6;exact⟨⟨by show x.1.length≤_;omega,by show b≤x.2.2;omega,a6,by simp;omega⟩,by show b<x.2.2;omega⟩
theorem lit_any (s:List UInt8) (R:Nat) (t:TypeId) (l:List Value) (w:World) (hR:Blk w R t (.string ⟨s.toArray⟩::l)) (hU:Under R w) (hs:s.length≤1048576):
  Calls Tryz.prog 136 #[.pointer (some ⟨R,0,none⟩)] w (LitPost (litA s) s R t l w):=by
 unfold litA;cases h:Lib.hasPrefix s [36]
 ·simp only[Bool.false_eq_true,if_false]
  split
  ·next h2=>exact lit_miss s R t l w hR hU hs h (by simpa using h2)
  ·next h2=>
   cases s with
   |nil=>simp at h2
   |cons c m=>exact lit_num c m R t l w hR hU hs h (by simpa using h2)
 ·simp only[if_true]
  exact lit_cash s R t l w hR hU hs h
theorem under_of {w0 w:World} (hL:LaidE w0) {R:Nat} (hR0:w0.heap.size≤R) (h:Below w0.heap.size w0 w):Under R w:=⟨w0,hL.base,h,hR0⟩
theorem PF.push {R:Nat} {W w5:World} {v v5:Value} (hg:W.grownBy w5 v.ownBlock) (hv:∀g,v5.ownBlock=some g→v.ownBlock=some g∨W.heap.size≤g) (i:Nat) (u:Value):PF R W v (w5.setCell ⟨R,i,none⟩ u) v5:=
 ⟨hg.os,hg.tape,hg.output,by simpa [World.setCell] using hg.size,fun k hk hR hne=>(Below.heap_setCell w5 _ u k (by show k≠R;exact hR)).trans (hg.block k hk (fun h=>hne h.symm)),hv⟩
theorem own_set {w:World} {R:Nat} {e:TypeId} {sz:Nat} {v:Value} {n:Nat} {xs:List Value} (h:w.ownsRow (R+1) e sz v n xs) (i:Nat) (u:Value):(w.setCell ⟨R,i,none⟩ u).ownsRow (R+1) e sz v n xs:=
 h.kept (grown_set w R i u) (by
  cases hv:v.ownBlock with
  |none=>exact .inl rfl
  |some g=>exact .inr (by intro h';injection h' with h';have:=(h.lt g hv).1;omega))
theorem nds_snoc (ns:List Nd) (n:Nd):nds (ns++[n])=nds ns++n.cells:=by rw[nds_append];simp[nds]
set_option maxRecDepth 100000 in
set_option maxHeartbeats 3200000 in
theorem ex_over (w0:World) (hL:LaidE w0) (R:Nat) (hR0:w0.heap.size≤R) (s:List UInt8) (ns:List Nd) (b:Nat) (v:Value) (w:World) (hw0:Below w0.heap.size w0 w)
  (hR:Blk w R 177 [.string ⟨s.toArray⟩,v,.int .i64 (b:Int)]) (hown:w.ownsRow (R+1) 56 5 v ns.length (nds ns)) (hs:s.length≤1048576) (hb:b=60):
  Calls Tryz.prog 105 #[.pointer (some ⟨R,0,none⟩)] w (ExPost none R v w):=by
 have hc:=hR.cells;have hf:=hR.froz;have HB:Hid (Below R w (w.setCell ⟨R,2,none⟩ (.int .i64 61))):=(Below.refl R w).setCell (p:=⟨R,2,none⟩) (Nat.le_refl _) _;subst hb;clear hL hR0 hw0 hR hown hs;go_enter Tryz.func105,Tryz.ntmps105;go_wp2;exact⟨rfl,rfl,HB.out⟩
set_option maxRecDepth 100000 in
set_option maxHeartbeats 3200000 in
theorem ex_lit_no (w0:World) (hL:LaidE w0) (R:Nat) (hR0:w0.heap.size≤R) (s:List UInt8) (ns:List Nd) (b:Nat) (v:Value) (w:World) (hw0:Below w0.heap.size w0 w)
  (hR:Blk w R 177 [.string ⟨s.toArray⟩,v,.int .i64 (b:Int)]) (hown:w.ownsRow (R+1) 56 5 v ns.length (nds ns)) (hs:s.length≤1048576) (hb:b≤59) (hq:litA s=none):
  Calls Tryz.prog 105 #[.pointer (some ⟨R,0,none⟩)] w (ExPost none R v w):=by
 have hc:=hR.cells;have hf:=hR.froz;have hb1:((b:Int)+1)≤60:=by omega
 have HO1:Hid (Onl R w (w.setCell ⟨R,2,none⟩ (.int .i64 ((b:Int)+1)))):=(Onl.refl R w).set 2 _;have HR1:Hid (Blk (w.setCell ⟨R,2,none⟩ (.int .i64 ((b:Int)+1))) R 177 [.string ⟨s.toArray⟩,v,.int .i64 ((b:Int)+1)]):=hR.set 2 _;have HU1:Hid (Under R (w.setCell ⟨R,2,none⟩ (.int .i64 ((b:Int)+1)))):=(under_of hL hR0 hw0).onl HO1.out;have HOWN:=Lib.hid hown;obtain⟨W1,hW1⟩:∃W1,W1=w.setCell ⟨R,2,none⟩ (.int .i64 ((b:Int)+1)):=⟨_,rfl⟩
 rw[←hW1] at HO1 HR1 HU1;have HLA:=Lib.hid (lit_any s R 177 [v,.int .i64 ((b:Int)+1)] W1 HR1.out HU1.out hs);go_enter Tryz.func105,Tryz.ntmps105;go_wp2_with fail;simp only[←hW1]
 clear hW1 hc hf;refine HLA.out.mono ?_;rw[hq];rintro e w2 ⟨rfl,ho2⟩;have HB:Hid (Below R w w2):=(HO1.out.trans ho2).below (Nat.le_refl _) (Nat.le_of_lt hR.lt);go_wp2;exact⟨rfl,rfl,HB.out⟩
set_option maxRecDepth 100000 in
set_option maxHeartbeats 3200000 in
theorem ex_lit (w0:World) (hL:LaidE w0) (R:Nat) (hR0:w0.heap.size≤R) (s:List UInt8) (ns:List Nd) (b:Nat) (v:Value) (w:World) (hw0:Below w0.heap.size w0 w)
  (hR:Blk w R 177 [.string ⟨s.toArray⟩,v,.int .i64 (b:Int)]) (hown:w.ownsRow (R+1) 56 5 v ns.length (nds ns)) (hs:s.length≤1048576) (hb:b≤59) (hns:ns.length≤60) (q:Nd × List UInt8) (hq:litA s=some (some q)):
  Calls Tryz.prog 105 #[.pointer (some ⟨R,0,none⟩)] w (ExPost (some (q.2,ns++[q.1],b+1)) R v w):=by
 have hc:=hR.cells;have hf:=hR.froz;have hb1:((b:Int)+1)≤60:=by omega
 have HO1:Hid (Onl R w (w.setCell ⟨R,2,none⟩ (.int .i64 ((b:Int)+1)))):=(Onl.refl R w).set 2 _;have HR1:Hid (Blk (w.setCell ⟨R,2,none⟩ (.int .i64 ((b:Int)+1))) R 177 [.string ⟨s.toArray⟩,v,.int .i64 ((b:Int)+1)]):=hR.set 2 _;have HU1:Hid (Under R (w.setCell ⟨R,2,none⟩ (.int .i64 ((b:Int)+1)))):=(under_of hL hR0 hw0).onl HO1.out;have HOWN:=Lib.hid hown;obtain⟨W1,hW1⟩:∃W1,W1=w.setCell ⟨R,2,none⟩ (.int .i64 ((b:Int)+1)):=⟨_,rfl⟩
 rw[←hW1] at HO1 HR1 HU1;have HLA:=Lib.hid (lit_any s R 177 [v,.int .i64 ((b:Int)+1)] W1 HR1.out HU1.out hs);go_enter Tryz.func105,Tryz.ntmps105;go_wp2_with fail;simp only[←hW1]
 clear hW1 hc hf;refine HLA.out.mono ?_;rw[hq];rintro e w2 ⟨⟨rfl,hk2⟩,ho2⟩;obtain⟨⟨op,⟨neg,num,den⟩,nm⟩,r⟩:=q;unfold Nd.v;simp only at hk2⊢;obtain⟨W2,hW2⟩:∃W2,W2=w2.alloc (.cells #[.int .i64 op,.bool neg,.string num,.string den,.string nm] 56):=⟨_,rfl⟩
 obtain⟨N,hN⟩:∃N,N=w2.heap.size:=⟨_,rfl⟩
 have hRN:R<N:=by rw[hN];exact hk2.lt
 have hkN:Blk W2 N 56 [.int .i64 op,.bool neg,.string num,.string den,.string nm]:=by rw[hW2,hN];exact Blk.new w2 _ _
 have hkR:Blk W2 R 177 [.string ⟨r.toArray⟩,v,.int .i64 ((b:Int)+1)]:=by rw[hW2];exact hk2.alloc _
 have HO2:Hid (Onl R w W2):=by show Onl _ _ _;rw[hW2];exact (HO1.out.trans ho2).trans (Onl.of_below ((Below.refl _ _).alloc (Nat.le_refl _) _))
 have hown2:W2.ownsRow (R+1) 56 5 v ns.length (nds ns):=HOWN.out.kept (row:=some R) ⟨HO2.out.os,HO2.out.tape,HO2.out.output,HO2.out.size,fun k hk hne=>HO2.out.block k hk (fun h=>hne (by rw[h]))⟩ (by
  cases hv:v.ownBlock with
  |none=>exact .inl rfl
  |some g=>exact .inr (by intro h;injection h with h;have:=(HOWN.out.lt g hv).1;omega))
 have hvN:v.ownBlock≠some N:=fun h=>by have:=(HOWN.out.lt N h).2;have:=HO2.out.size;have h3:w.heap.size≤w2.heap.size:=(HO1.out.trans ho2).size;omega
 go_wp2_with fail;simp only[←hW2,←hN]
 clear hW2 hN;have hcR:=hkR.drew.cells;have hfR:=hkR.drew.froz;have hcN:=hkN.drew.cells;have hcR2:=(hkR.alloc (.cells #[.int .i64 op,.bool neg,.string num,.string den,.string nm] 56)).cells;have hcN2:=(hkN.alloc (.cells #[.int .i64 op,.bool neg,.string num,.string den,.string nm] 56)).cells;have HVN:=Lib.hid hvN;have HKR:=Lib.hid hkR;have hszW:R+1≤W2.heap.size:=hkR.lt;have HOWN2:=Lib.hid hown2;clear hkR hkN hown2 hvN
 go_region_law ((refine step_push_at W2.drew #[.int .i64 op,.bool neg,.string num,.string den,.string nm] (by rfl) _ _ 43 (by rfl) (R+1) 56 (.agg #[.int .i64 0,.bool false,.string ⟨#[]⟩,.string ⟨#[]⟩,.string ⟨#[]⟩]) 5 64 1 Tryz.underlying43 info_node rfl (by decide) v ns.length (nds ns) (by rfl) HOWN2.out (by rfl) (by rfl) (by simp[Value.oneCell']) (by unfold maxLen;omega) (by omega) hszW ?_;intro v5 w5 hown5 hg5 hv5;obtain⟨g5,cap5,rfl,hgR⟩:=own_form hown5 (by omega);have hk5:=HKR.out.of_block (hg5.block R HKR.out.lt (fun h=>by have:=(HOWN2.out.lt R h.symm).1;omega));have HK5:=Lib.hid hk5;have hc5:=hk5.cells;have hf5:=hk5.froz;have HOWN5:=Lib.hid hown5;have HG5:=Lib.hid hg5;have HV5:=Lib.hid hv5;clear hown5 hg5 hv5 hk5))
 all_goals
  go_wp2
  first|go_end0|refine bodyPost_ret (results_none rfl _ _ _) rfl ?_
  refine⟨rfl,_,HK5.out.set 1 _,?_,(PF.of_onl HO2.out.drew).trans (PF.push HG5.out HV5.out 1 _)⟩;rw[List.length_append,nds_snoc];exact own_set HOWN5.out 1 _
set_option maxRecDepth 100000 in
set_option maxHeartbeats 3200000 in
theorem ex_no (w0:World) (hL:LaidE w0) (R:Nat) (hR0:w0.heap.size≤R) (s:List UInt8) (ns:List Nd) (b:Nat) (v:Value) (w:World) (hw0:Below w0.heap.size w0 w)
  (hR:Blk w R 177 [.string ⟨s.toArray⟩,v,.int .i64 (b:Int)]) (hown:w.ownsRow (R+1) 56 5 v ns.length (nds ns)) (hs:s.length≤1048576) (hb:b≤59) (hns:ns.length≤60) (hq:litA s=some none) (hw:spanW lettersL s=noL):
  Calls Tryz.prog 105 #[.pointer (some ⟨R,0,none⟩)] w (ExPost (some (spanR lettersL s,ns++[nd 4 (ofI 0) []],b+1)) R v w):=by
 have hc:=hR.cells;have hf:=hR.froz;have hb1:((b:Int)+1)≤60:=by omega
 have HO1:Hid (Onl R w (w.setCell ⟨R,2,none⟩ (.int .i64 ((b:Int)+1)))):=(Onl.refl R w).set 2 _;have HR1:Hid (Blk (w.setCell ⟨R,2,none⟩ (.int .i64 ((b:Int)+1))) R 177 [.string ⟨s.toArray⟩,v,.int .i64 ((b:Int)+1)]):=hR.set 2 _;have HU1:Hid (Under R (w.setCell ⟨R,2,none⟩ (.int .i64 ((b:Int)+1)))):=(under_of hL hR0 hw0).onl HO1.out;have HOWN:=Lib.hid hown;obtain⟨W1,hW1⟩:∃W1,W1=w.setCell ⟨R,2,none⟩ (.int .i64 ((b:Int)+1)):=⟨_,rfl⟩
 rw[←hW1] at HO1 HR1 HU1;have HLA:=Lib.hid (lit_any s R 177 [v,.int .i64 ((b:Int)+1)] W1 HR1.out HU1.out hs);go_enter Tryz.func105,Tryz.ntmps105;go_wp2_with fail;simp only[←hW1]
 clear hW1 hc hf;refine HLA.out.mono ?_;rw[hq];rintro e w2 ⟨⟨rfl,hk2⟩,ho2⟩;unfold nd Nd.v zR;simp only
 obtain⟨W2,hW2⟩:∃W2,W2=w2.alloc (.cells #[.int .i64 0,.bool false,.string ⟨#[]⟩,.string ⟨#[]⟩,.string ⟨#[]⟩] 56):=⟨_,rfl⟩
 obtain⟨N,hN⟩:∃N,N=w2.heap.size:=⟨_,rfl⟩
 have hkR:Blk W2 R 177 [.string ⟨s.toArray⟩,v,.int .i64 ((b:Int)+1)]:=by rw[hW2];exact hk2.alloc _
 have HO2:Hid (Onl R w W2):=by show Onl _ _ _;rw[hW2];exact (HO1.out.trans ho2).trans (Onl.of_below ((Below.refl _ _).alloc (Nat.le_refl _) _))
 have HSP:=Lib.hid (spanL_at s lettersL R 177 [v,.int .i64 ((b:Int)+1)] W2 hkR hs (by decide) (by decide));clear hk2 ho2 hkR HLA HR1 HO1;rw[hw] at HSP;unfold noL at HSP;unfold lettersL at HSP;go_wp2_with fail;simp only[←hW2,←hN]
 clear hW2 hN;refine HSP.out.mono ?_;rintro e w3 ⟨rfl,hk3,ho3⟩;obtain⟨W3,hW3⟩:∃W3,W3=w3.alloc (.cells #[.string ⟨#[110,111]⟩] 9):=⟨_,rfl⟩
 obtain⟨N4,hN4⟩:∃N4,N4=w3.heap.size:=⟨_,rfl⟩
 have hRN4:R<N4:=by rw[hN4];exact hk3.lt
 have HR3:Hid (Blk W3 R 177 [.string ⟨(spanR lettersL s).toArray⟩,v,.int .i64 ((b:Int)+1)]):=by show Blk _ _ _ _;rw[hW3];exact hk3.alloc _
 have HW4:Hid (Blk W3 N4 9 [.string ⟨#[110,111]⟩]):=by show Blk _ _ _ _;rw[hW3,hN4];exact Blk.new w3 _ _
 have HO3:Hid (Onl R w W3):=by show Onl _ _ _;rw[hW3];exact (HO2.out.trans ho3).trans (Onl.of_below ((Below.refl _ _).alloc (Nat.le_refl _) _))
 have HWN:Hid (w.heap.size≤N4∧N4<W3.heap.size):=⟨by rw[hN4];exact (HO2.out.trans ho3).size,HW4.out.lt⟩
 clear hk3 ho3 HSP;have hL3:Laid W3:=((under_of hL hR0 hw0).onl HO3.out).laid;have HQ0:=Lib.hid (fun W=>qOf_any 0 W (by omega) (by omega));have HQ1:=Lib.hid (fun W=>qOf_any 1 W (by omega) (by omega));have HND:Hid (nd 4 (ofI 0) []=⟨4,ofI 0,⟨#[]⟩⟩):=rfl;generalize nd 4 (ofI 0) []=nod at*;generalize ofI 0=o0 at*;generalize ofI 1=o1 at*;obtain⟨an,au,ad⟩:=o0;obtain⟨cn,cu,cd⟩:=o1;unfold Ra.v at HQ0 HQ1;simp only at HQ0 HQ1;have hc4:=HW4.out.cells;rw[hW3] at hc4;go_wp2_with fail;simp only[←hW3,←hN4]
 clear hW3 hN4 hc4;refine (HQ0.out _).mono ?_;rintro e w4 ⟨rfl,hb4⟩;obtain⟨W5,hW5⟩:∃W5,W5=w4.alloc (.cells #[.int .i64 4,.bool an,.string au,.string ad,.string ⟨#[]⟩] 56):=⟨_,rfl⟩
 obtain⟨N5,hN5⟩:∃N5,N5=w4.heap.size:=⟨_,rfl⟩
 have hkR:Blk W5 R 177 [.string ⟨(spanR lettersL s).toArray⟩,v,.int .i64 ((b:Int)+1)]:=by rw[hW5];exact (HR3.out.below hb4 HR3.out.lt).alloc _
 have hkW:Blk W5 N4 9 [.string ⟨#[110,111]⟩]:=by rw[hW5];exact (HW4.out.below hb4 HW4.out.lt).alloc _
 have hkN:Blk W5 N5 56 [.int .i64 4,.bool an,.string au,.string ad,.string ⟨#[]⟩]:=by rw[hW5,hN5];exact Blk.new w4 _ _
 have HO5:Hid (Onl R w W5):=by show Onl _ _ _;rw[hW5];exact (HO3.out.trans (Onl.of_below hb4)).trans (Onl.of_below ((Below.refl _ _).alloc (Nat.le_refl _) _))
 have hlt5:w.heap.size≤N5∧R<N5∧N4<N5:=by
  have h1:=HWN.out;have h2:=hb4.size;have h3:=HR3.out.lt;rw[hN5];omega
 have hc4:=hkW.cells;rw[hW5] at hc4;clear HR3 HW4 HO3 HQ0 HWN hb4;clear HQ1;go_wp2_with fail;simp only[←hW5,←hN5]
 clear hW5 hN5 hc4 hkW
 have hown2:W5.ownsRow (R+1) 56 5 v ns.length (nds ns):=HOWN.out.kept (row:=some R) ⟨HO5.out.os,HO5.out.tape,HO5.out.output,HO5.out.size,fun k hk hne=>HO5.out.block k hk (fun h=>hne (by rw[h]))⟩ (by
  cases hv:v.ownBlock with
  |none=>exact .inl rfl
  |some g=>exact .inr (by intro h;injection h with h;have:=(HOWN.out.lt g hv).1;omega))
 have hvN:v.ownBlock≠some N5:=fun h=>by have:=(HOWN.out.lt N5 h).2;have:=hlt5;omega
 have hnd:=HND.out;clear HND;subst hnd;have hcR:=hkR.drew.cells;have hfR:=hkR.drew.froz;have hcN:=hkN.drew.cells;have hcR2:=(hkR.alloc (.cells #[.int .i64 4,.bool an,.string au,.string ad,.string ⟨#[]⟩] 56)).cells;have hcN2:=(hkN.alloc (.cells #[.int .i64 4,.bool an,.string au,.string ad,.string ⟨#[]⟩] 56)).cells;have HVN:=Lib.hid hvN;have HKR:=Lib.hid hkR;have hszW:R+1≤W5.heap.size:=hkR.lt;have HOWN2:=Lib.hid hown2;clear hkR hkN hown2 hvN
 go_region_law ((refine step_push_at W5.drew #[.int .i64 4,.bool an,.string au,.string ad,.string ⟨#[]⟩] (by rfl) _ _ 43 (by rfl) (R+1) 56 (.agg #[.int .i64 0,.bool false,.string ⟨#[]⟩,.string ⟨#[]⟩,.string ⟨#[]⟩]) 5 64 1 Tryz.underlying43 info_node rfl (by decide) v ns.length (nds ns) (by rfl) HOWN2.out (by rfl) (by rfl) (by simp[Value.oneCell']) (by unfold maxLen;omega) (by omega) hszW ?_;intro v5 w5 hown5 hg5 hv5;obtain⟨g5,cap5,rfl,hgR⟩:=own_form hown5 (by omega);have hk5:=HKR.out.of_block (hg5.block R HKR.out.lt (fun h=>by have:=(HOWN2.out.lt R h.symm).1;omega));have HK5:=Lib.hid hk5;have hc5:=hk5.cells;have hf5:=hk5.froz;have HOWN5:=Lib.hid hown5;have HG5:=Lib.hid hg5;have HV5:=Lib.hid hv5;clear hown5 hg5 hv5 hk5))
 all_goals
  go_wp2
  first|go_end0|refine bodyPost_ret (results_none rfl _ _ _) rfl ?_
  refine⟨rfl,_,HK5.out.set 1 _,?_,(PF.of_onl HO5.out.drew).trans (PF.push HG5.out HV5.out 1 _)⟩;rw[List.length_append,nds_snoc];exact own_set HOWN5.out 1 _
set_option maxRecDepth 100000 in
set_option maxHeartbeats 3200000 in
theorem ex_yes (w0:World) (hL:LaidE w0) (R:Nat) (hR0:w0.heap.size≤R) (s:List UInt8) (ns:List Nd) (b:Nat) (v:Value) (w:World) (hw0:Below w0.heap.size w0 w)
  (hR:Blk w R 177 [.string ⟨s.toArray⟩,v,.int .i64 (b:Int)]) (hown:w.ownsRow (R+1) 56 5 v ns.length (nds ns)) (hs:s.length≤1048576) (hb:b≤59) (hns:ns.length≤60) (hq:litA s=some none) (hw:spanW lettersL s=yesL):
  Calls Tryz.prog 105 #[.pointer (some ⟨R,0,none⟩)] w (ExPost (some (spanR lettersL s,ns++[nd 4 (ofI 1) []],b+1)) R v w):=by
 have hc:=hR.cells;have hf:=hR.froz;have hb1:((b:Int)+1)≤60:=by omega
 have HO1:Hid (Onl R w (w.setCell ⟨R,2,none⟩ (.int .i64 ((b:Int)+1)))):=(Onl.refl R w).set 2 _;have HR1:Hid (Blk (w.setCell ⟨R,2,none⟩ (.int .i64 ((b:Int)+1))) R 177 [.string ⟨s.toArray⟩,v,.int .i64 ((b:Int)+1)]):=hR.set 2 _;have HU1:Hid (Under R (w.setCell ⟨R,2,none⟩ (.int .i64 ((b:Int)+1)))):=(under_of hL hR0 hw0).onl HO1.out;have HOWN:=Lib.hid hown;obtain⟨W1,hW1⟩:∃W1,W1=w.setCell ⟨R,2,none⟩ (.int .i64 ((b:Int)+1)):=⟨_,rfl⟩
 rw[←hW1] at HO1 HR1 HU1;have HLA:=Lib.hid (lit_any s R 177 [v,.int .i64 ((b:Int)+1)] W1 HR1.out HU1.out hs);go_enter Tryz.func105,Tryz.ntmps105;go_wp2_with fail;simp only[←hW1]
 clear hW1 hc hf;refine HLA.out.mono ?_;rw[hq];rintro e w2 ⟨⟨rfl,hk2⟩,ho2⟩;unfold nd Nd.v zR;simp only
 obtain⟨W2,hW2⟩:∃W2,W2=w2.alloc (.cells #[.int .i64 0,.bool false,.string ⟨#[]⟩,.string ⟨#[]⟩,.string ⟨#[]⟩] 56):=⟨_,rfl⟩
 obtain⟨N,hN⟩:∃N,N=w2.heap.size:=⟨_,rfl⟩
 have hkR:Blk W2 R 177 [.string ⟨s.toArray⟩,v,.int .i64 ((b:Int)+1)]:=by rw[hW2];exact hk2.alloc _
 have HO2:Hid (Onl R w W2):=by show Onl _ _ _;rw[hW2];exact (HO1.out.trans ho2).trans (Onl.of_below ((Below.refl _ _).alloc (Nat.le_refl _) _))
 have HSP:=Lib.hid (spanL_at s lettersL R 177 [v,.int .i64 ((b:Int)+1)] W2 hkR hs (by decide) (by decide));clear hk2 ho2 hkR HLA HR1 HO1;rw[hw] at HSP;unfold yesL at HSP;unfold lettersL at HSP;go_wp2_with fail;simp only[←hW2,←hN]
 clear hW2 hN;refine HSP.out.mono ?_;rintro e w3 ⟨rfl,hk3,ho3⟩;obtain⟨W3,hW3⟩:∃W3,W3=w3.alloc (.cells #[.string ⟨#[121,101,115]⟩] 9):=⟨_,rfl⟩
 obtain⟨N4,hN4⟩:∃N4,N4=w3.heap.size:=⟨_,rfl⟩
 have hRN4:R<N4:=by rw[hN4];exact hk3.lt
 have HR3:Hid (Blk W3 R 177 [.string ⟨(spanR lettersL s).toArray⟩,v,.int .i64 ((b:Int)+1)]):=by show Blk _ _ _ _;rw[hW3];exact hk3.alloc _
 have HW4:Hid (Blk W3 N4 9 [.string ⟨#[121,101,115]⟩]):=by show Blk _ _ _ _;rw[hW3,hN4];exact Blk.new w3 _ _
 have HO3:Hid (Onl R w W3):=by show Onl _ _ _;rw[hW3];exact (HO2.out.trans ho3).trans (Onl.of_below ((Below.refl _ _).alloc (Nat.le_refl _) _))
 have HWN:Hid (w.heap.size≤N4∧N4<W3.heap.size):=⟨by rw[hN4];exact (HO2.out.trans ho3).size,HW4.out.lt⟩
 clear hk3 ho3 HSP;have hL3:Laid W3:=((under_of hL hR0 hw0).onl HO3.out).laid;have HQ0:=Lib.hid (fun W=>qOf_any 0 W (by omega) (by omega));have HQ1:=Lib.hid (fun W=>qOf_any 1 W (by omega) (by omega));have HND:Hid (nd 4 (ofI 1) []=⟨4,ofI 1,⟨#[]⟩⟩):=rfl;generalize nd 4 (ofI 1) []=nod at*;generalize ofI 0=o0 at*;generalize ofI 1=o1 at*;obtain⟨an,au,ad⟩:=o0;obtain⟨cn,cu,cd⟩:=o1;unfold Ra.v at HQ0 HQ1;simp only at HQ0 HQ1;have hc4:=HW4.out.cells;rw[hW3] at hc4;go_wp2_with fail;simp only[←hW3,←hN4]
 clear hW3 hN4 hc4;refine (HQ0.out _).mono ?_;rintro e w4 ⟨rfl,hb4⟩;obtain⟨W5,hW5⟩:∃W5,W5=w4.alloc (.cells #[.int .i64 4,.bool an,.string au,.string ad,.string ⟨#[]⟩] 56):=⟨_,rfl⟩
 obtain⟨N5,hN5⟩:∃N5,N5=w4.heap.size:=⟨_,rfl⟩
 have hkR:Blk W5 R 177 [.string ⟨(spanR lettersL s).toArray⟩,v,.int .i64 ((b:Int)+1)]:=by rw[hW5];exact (HR3.out.below hb4 HR3.out.lt).alloc _
 have hkW:Blk W5 N4 9 [.string ⟨#[121,101,115]⟩]:=by rw[hW5];exact (HW4.out.below hb4 HW4.out.lt).alloc _
 have hkN:Blk W5 N5 56 [.int .i64 4,.bool an,.string au,.string ad,.string ⟨#[]⟩]:=by rw[hW5,hN5];exact Blk.new w4 _ _
 have HO5:Hid (Onl R w W5):=by show Onl _ _ _;rw[hW5];exact (HO3.out.trans (Onl.of_below hb4)).trans (Onl.of_below ((Below.refl _ _).alloc (Nat.le_refl _) _))
 have hlt5:w.heap.size≤N5∧R<N5∧N4<N5:=by
  have h1:=HWN.out;have h2:=hb4.size;have h3:=HR3.out.lt;rw[hN5];omega
 have hc4:=hkW.cells;rw[hW5] at hc4;clear HR3 HW4 HO3 HQ0 HWN hb4;go_wp2_with fail;simp only[←hW5,←hN5]
 clear hW5 hN5 hc4;refine (HQ1.out _).mono ?_;rintro e w6 ⟨rfl,hb6⟩;have hk6:=hkN.below hb6 hkN.lt;have hc6:=hk6.cells;have hf6:=hk6.froz;obtain⟨W7,hW7⟩:∃W7,W7=((w6.setCell ⟨N5,1,none⟩ (.bool cn)).setCell ⟨N5,2,none⟩ (.string cu)).setCell ⟨N5,3,none⟩ (.string cd):=⟨_,rfl⟩
 have hkN7:Blk W7 N5 56 [.int .i64 4,.bool cn,.string cu,.string cd,.string ⟨#[]⟩]:=by rw[hW7];exact ((hk6.set 1 (.bool cn)).set 2 (.string cu)).set 3 (.string cd)
 have hkR7:Blk W7 R 177 [.string ⟨(spanR lettersL s).toArray⟩,v,.int .i64 ((b:Int)+1)]:=by
  rw[hW7];exact (((hkR.below hb6 hkR.lt).other (p:=⟨N5,1,none⟩) (by show R≠N5;omega) _).other (p:=⟨N5,2,none⟩) (by show R≠N5;omega) _).other (p:=⟨N5,3,none⟩) (by show R≠N5;omega) _
 have HO7:Hid (Onl R w W7):=by
  show Onl _ _ _;rw[hW7];exact (((HO5.out.trans (Onl.of_below hb6)).fresh hlt5.1 1 _).fresh hlt5.1 2 _).fresh hlt5.1 3 _
 clear HQ1 hb6 hkR hkN hk6 HO5 hkW;have hkR:=hkR7;have hkN:=hkN7;clear hkR7 hkN7;go_wp2_with fail;simp only[←hW7]
 clear hW7 hc6 hf6
 have hown2:W7.ownsRow (R+1) 56 5 v ns.length (nds ns):=HOWN.out.kept (row:=some R) ⟨HO7.out.os,HO7.out.tape,HO7.out.output,HO7.out.size,fun k hk hne=>HO7.out.block k hk (fun h=>hne (by rw[h]))⟩ (by
  cases hv:v.ownBlock with
  |none=>exact .inl rfl
  |some g=>exact .inr (by intro h;injection h with h;have:=(HOWN.out.lt g hv).1;omega))
 have hvN:v.ownBlock≠some N5:=fun h=>by have:=(HOWN.out.lt N5 h).2;have:=hlt5;omega
 have hnd:=HND.out;clear HND;subst hnd;have hcR:=hkR.drew.cells;have hfR:=hkR.drew.froz;have hcN:=hkN.drew.cells;have hcR2:=(hkR.alloc (.cells #[.int .i64 4,.bool cn,.string cu,.string cd,.string ⟨#[]⟩] 56)).cells;have hcN2:=(hkN.alloc (.cells #[.int .i64 4,.bool cn,.string cu,.string cd,.string ⟨#[]⟩] 56)).cells;have HVN:=Lib.hid hvN;have HKR:=Lib.hid hkR;have hszW:R+1≤W7.heap.size:=hkR.lt;have HOWN2:=Lib.hid hown2;clear hkR hkN hown2 hvN
 go_region_law ((refine step_push_at W7.drew #[.int .i64 4,.bool cn,.string cu,.string cd,.string ⟨#[]⟩] (by rfl) _ _ 43 (by rfl) (R+1) 56 (.agg #[.int .i64 0,.bool false,.string ⟨#[]⟩,.string ⟨#[]⟩,.string ⟨#[]⟩]) 5 64 1 Tryz.underlying43 info_node rfl (by decide) v ns.length (nds ns) (by rfl) HOWN2.out (by rfl) (by rfl) (by simp[Value.oneCell']) (by unfold maxLen;omega) (by omega) hszW ?_;intro v5 w5 hown5 hg5 hv5;obtain⟨g5,cap5,rfl,hgR⟩:=own_form hown5 (by omega);have hk5:=HKR.out.of_block (hg5.block R HKR.out.lt (fun h=>by have:=(HOWN2.out.lt R h.symm).1;omega));have HK5:=Lib.hid hk5;have hc5:=hk5.cells;have hf5:=hk5.froz;have HOWN5:=Lib.hid hown5;have HG5:=Lib.hid hg5;have HV5:=Lib.hid hv5;clear hown5 hg5 hv5 hk5))
 all_goals
  go_wp2
  first|go_end0|refine bodyPost_ret (results_none rfl _ _ _) rfl ?_
  refine⟨rfl,_,HK5.out.set 1 _,?_,(PF.of_onl HO7.out.drew).trans (PF.push HG5.out HV5.out 1 _)⟩;rw[List.length_append,nds_snoc];exact own_set HOWN5.out 1 _
end Go.Proofs.YtfajelpcfnfjkaaGreatDoor
