/- A part of the proof: Em Eo Tg Ep Eq. -/
import Derived.Test.YtkgiaegmkncljaaGreatDoorS01
import Derived.Test.YtkgiaegmkncljaaGreatDoorS26
set_option linter.unusedVariables false
set_option linter.unusedSimpArgs false
set_option maxRecDepth 100000
set_option maxHeartbeats 40000000
namespace Go.Proofs.YtkgiaegmkncljaaGreatDoor
open Go.RowKit
theorem ext_span (cs s:List UInt8):(⟨s.toArray⟩:ByteArray).extract 0 ((⟨s.toArray⟩:ByteArray).size-(restS ⟨s.toArray⟩ ⟨cs.toArray⟩).size)=⟨(spanW cs s).toArray⟩:=by
 have h:restS ⟨s.toArray⟩ ⟨cs.toArray⟩=⟨(spanR cs s).toArray⟩:=rfl;rw[h,Lib.extract_eq];congr 2;show (s.drop 0).take (s.toArray.size-(spanR cs s).toArray.size-0)=spanW cs s;rw[List.drop_zero,Nat.sub_zero,List.size_toArray,List.size_toArray];have h2:=span_eq cs s;have h3:=congrArg List.length h2;rw[List.length_append] at h3;rw[show s.length-(spanR cs s).length=(spanW cs s).length from by omega]
 conv=>lhs;arg 2;rw[←h2]
 rw[List.take_left]
theorem spanL_at (s cs:List UInt8) (R:Nat) (t:TypeId) (l:List Value) (w:World) (hR:Blk w R t (.string ⟨s.toArray⟩::l)) (h63:s.length≤1048576)
  (hcs:cs.length<4294967281) (ha:cs.all (fun b=>decide (b.toNat<128))=true):
  Calls Tryz.prog 277 #[.pointer (some ⟨R,0,none⟩),.string ⟨cs.toArray⟩] w fun e w'=>e=.returned (.string ⟨(spanW cs s).toArray⟩)∧Blk w' R t (.string ⟨(spanR cs s).toArray⟩::l)∧Onl R w w':=by
 have h:=span_at ⟨s.toArray⟩ ⟨cs.toArray⟩ R t l w hR (by show s.length≤_;omega) hcs (ascii_of_all ha);rw[ext_span] at h;exact h
theorem num_yes (s:List UInt8) (R:Nat) (t:TypeId) (l:List Value) (w:World) (hR:Blk w R t (.string ⟨s.toArray⟩::l)) (hU:Under R w) (hs:s.length≤1048576) (a:Ra) (r:List UInt8) (h:numA s=some (a,r)):
  Calls Tryz.prog 281 #[.pointer (some ⟨R,0,none⟩)] w fun e w'=>e=.returned a.v∧Blk w' R t (.string ⟨r.toArray⟩::l)∧Onl R w w':=by
 unfold numA at h;split at h
 ·next hp=>
  have h1:=number_at ⟨s.toArray⟩ R t l w hR hU hs ⟨(spanW numL s).toArray⟩ (ext_span numL s);injection h with h;injection h with h2 h3;subst h3;refine h1.mono (fun e w' h=>?_);rw[if_pos hp,h2] at h;exact h
 ·cases h
theorem num_no (s:List UInt8) (R:Nat) (t:TypeId) (l:List Value) (w:World) (hR:Blk w R t (.string ⟨s.toArray⟩::l)) (hU:Under R w) (hs:s.length≤1048576) (h:numA s=none):
  Calls Tryz.prog 281 #[.pointer (some ⟨R,0,none⟩)] w fun e w'=>e=.panicked noText∧Onl R w w':=by
 unfold numA at h;split at h
 ·cases h
 ·next hp=>
  have h1:=number_at ⟨s.toArray⟩ R t l w hR hU hs ⟨(spanW numL s).toArray⟩ (ext_span numL s);refine h1.mono (fun e w' h=>?_);rw[if_neg hp] at h;exact⟨h.1,h.2.2⟩
theorem wantL_yes (s p:List UInt8) (R:Nat) (t:TypeId) (l:List Value) (w:World) (hR:Blk w R t (.string ⟨s.toArray⟩::l)) (h:Lib.hasPrefix s p=true):
  Calls Tryz.prog 278 #[.pointer (some ⟨R,0,none⟩),.string ⟨p.toArray⟩] w fun e w'=>e=.returned (.tuple #[])∧Blk w' R t (.string ⟨(s.drop p.length).toArray⟩::l)∧Onl R w w':=by
 have h1:=want_yes ⟨s.toArray⟩ ⟨p.toArray⟩ R t l w hR h;have h2:Lib.trimPrefix s p=s.drop p.length:=by unfold Lib.trimPrefix;rw[if_pos h]
 refine h1.mono ?_;rintro e w' ⟨rfl,rfl⟩;refine⟨rfl,?_,(Onl.refl R w).set 0 _⟩;have h3:=hR.set 0 (.string ⟨(Lib.trimPrefix s p).toArray⟩);rw[h2] at h3;show Blk (w.setCell _ (.string ⟨(Lib.trimPrefix s p).toArray⟩)) _ _ _;rw[h2];exact h3
theorem numA_len {s:List UInt8} {a:Ra} {r:List UInt8} (h:numA s=some (a,r)):r.length≤s.length:=by
 unfold numA at h;split at h
 ·injection h with h;injection h with h1 h2;subst h2;exact (List.dropWhile_sublist _).length_le
 ·cases h
theorem trim_one (c:UInt8) (cs:List UInt8):Lib.trimS [c] cs=if cs.contains c then [] else [c]:=by
 unfold Lib.trimS Lib.trimLeftS Lib.trimRightS;cases h:cs.contains c
 ·simp at h;simp[h]
 ·simp at h;simp[h]
def LitPost (r:Option (Option (Nd × List UInt8))) (s:List UInt8) (R:Nat) (t:TypeId) (l:List Value) (w:World) (e:Ending) (w':World):Prop:=
 (match r with
 |none=>e=.panicked noText
 |some none=>e=.returned (.tuple #[(nd 0 zR []).v,.bool false])∧Blk w' R t (.string ⟨s.toArray⟩::l)
 |some (some q)=>e=.returned (.tuple #[q.1.v,.bool true])∧Blk w' R t (.string ⟨q.2.toArray⟩::l))∧Onl R w w'
theorem cutp_at (s p:List UInt8) (w:World):Calls Tryz.prog 273 #[.string ⟨s.toArray⟩,.string ⟨p.toArray⟩] w fun e w'=>e=.returned (.tuple #[.string ⟨(Lib.trimPrefix s p).toArray⟩,.bool (Lib.hasPrefix s p)])∧w'=w:=Tryz.strings_CutPrefix ⟨s.toArray⟩ ⟨p.toArray⟩ w
theorem trim_at (s cs:List UInt8) (w:World) (hs:s.length≤1048576) (hcs:cs.length<4294967281) (ha:cs.all (fun b=>decide (b.toNat<128))=true):
  Calls Tryz.prog 248 #[.string ⟨s.toArray⟩,.string ⟨cs.toArray⟩] w fun e w'=>e=.returned (.string ⟨(Lib.trimS s cs).toArray⟩)∧Below w.heap.size w w':=
 Any.strings_Trim_laid Tryz.lays160 (by kernel_rfl) ⟨s.toArray⟩ ⟨cs.toArray⟩ w (by show s.length≤_;omega) hcs (ascii_of_all ha)
theorem lit_cash (s:List UInt8) (R:Nat) (t:TypeId) (l:List Value) (w:World) (hR:Blk w R t (.string ⟨s.toArray⟩::l)) (hU:Under R w) (hs:s.length≤1048576) (h:Lib.hasPrefix s [36]=true):
  Calls Tryz.prog 276 #[.pointer (some ⟨R,0,none⟩)] w (LitPost ((numA (s.drop 1)).map fun q=>some (nd 1 q.1 [],q.2)) s R t l w):=by
 have HCP:=zH (fun W=>cutp_at s [36] W);have htp:Lib.trimPrefix s [36]=s.drop 1:=by unfold Lib.trimPrefix;rw[if_pos h];rfl
 rw[htp,h] at HCP;obtain⟨s1,hs1⟩:=zF (s.drop 1);have hs1l:s1.length≤1048576:=by rw[←hs1,List.length_drop];omega
 rw[hs1] at HCP⊢;clear htp hs1 h;obtain⟨W,hW⟩:=zE (w.alloc (.cells #[.int .i64 0,.bool false,.string ⟨#[]⟩,.string ⟨#[]⟩,.string ⟨#[]⟩] 59));have hba:Below w.heap.size w W:=by rw[hW];exact zB _ _
 have hk0:Blk W w.heap.size 59 [.int .i64 0,.bool false,.string ⟨#[]⟩,.string ⟨#[]⟩,.string ⟨#[]⟩]:=by rw[hW];exact Blk.new w _ _
 have hsz:W.heap.size=w.heap.size+1:=by rw[hW];exact Array.size_push _
 obtain⟨B,hB⟩:=zE w.heap.size;have HB:=zH hB;rw[←hB] at hba hsz hk0;have hRB:R<B:=by rw[HB.out];exact hR.lt
 have hRW:=hR.below hba hRB;have HUW:Hid (Under R W):=hU.onl (Onl.of_below (by rw[←HB.out];exact hba));have HOW:Hid (Onl R w W):=Onl.of_below (by rw[←HB.out];exact hba);have HRW:=zH hRW;have HK0:=zH hk0;have hc:=hRW.cells;have hf:=hRW.froz;rw[hW] at hc hf;clear hR hU hba hRW hk0;cases hn:numA s1 with
 |none=>
  have HP:Hid (∀w',Onl R w w'→LitPost ((none:Option (Ra × List UInt8)).map fun q=>some (nd 1 q.1 [],q.2)) s R t l w (.panicked noText) w'):=fun w' h=>⟨rfl,h⟩
  have HN:=zH (fun W h1 h2=>num_no s1 R t l W h1 h2 hs1l hn);go_enter Tryz.func276,Tryz.ntmps276;go_wp2_with fail;simp only[←hW,←hB]
  clear hW hB;clear hc hf;have hc:=HRW.out.cells;have hf:=HRW.out.froz;refine (HCP.out _).mono ?_;rintro e w1 ⟨rfl,rfl⟩;go_wp2_with fail;refine (HN.out _ (HRW.out.set 0 _) (HUW.out.onl ((Onl.refl R _).set 0 _))).mono ?_;rintro e w2 ⟨rfl,ho2⟩;have HO2:Hid (Onl R w w2):=(HOW.out.trans ((Onl.refl R _).set 0 _)).trans ho2;clear ho2 hc hf;go_wp2;exact⟨rfl,HP.out _ HO2.out⟩
 |some ar=>
  obtain⟨a,r⟩:=ar;have HP:Hid (∀w',Onl R w w'→Blk w' R t (.string ⟨r.toArray⟩::l)→LitPost ((some (a,r)).map fun q=>some (nd 1 q.1 [],q.2)) s R t l w (.returned (.tuple #[(nd 1 a []).v,.bool true])) w'):=fun w' h h2=>⟨⟨rfl,h2⟩,h⟩
  have HN:=zH (fun W h1 h2=>num_yes s1 R t l W h1 h2 hs1l a r hn);obtain⟨neg,num,den⟩:=a;unfold Ra.v at HN;simp only at HN;clear hn;go_enter Tryz.func276,Tryz.ntmps276;go_wp2_with fail;simp only[←hW,←hB]
  clear hW hB;clear hc hf;have hc:=HRW.out.cells;have hf:=HRW.out.froz;refine (HCP.out _).mono ?_;rintro e w1 ⟨rfl,rfl⟩;go_wp2_with fail;refine (HN.out _ (HRW.out.set 0 _) (HUW.out.onl ((Onl.refl R _).set 0 _))).mono ?_;rintro e w2 ⟨rfl,hk2,ho2⟩;have hk0:=ho2.blk (HK0.out.other (p:=⟨R,0,none⟩) (by show B≠R;omega) (.string ⟨s1.toArray⟩)) (by omega);have HO2:Hid (Onl R w w2):=(HOW.out.trans ((Onl.refl R _).set 0 _)).trans ho2;have HK2:=zH hk2;clear hc hf;have hc:=hk0.cells;have hf:=hk0.froz;clear hk2 ho2 hk0 HK0;go_wp2;refine bodyPost_ret (v:=.tuple #[(nd 1 ⟨neg,num,den⟩ []).v,.bool true]) (by simp[results,Tryz.results276,go_sem,hc,nd,Nd.v]) rfl (HP.out _ ?_ ?_)
  ·have h:=HB.out;exact ((((HO2.out.fresh (by omega) 0 _).fresh (by omega) 1 _).fresh (by omega) 2 _).fresh (by omega) 3 _).fresh (by omega) 4 _
  ·exact ((((HK2.out.other (p:=⟨B,0,none⟩) (by show R≠B;omega) _).other (p:=⟨B,1,none⟩) (by show R≠B;omega) _).other (p:=⟨B,2,none⟩) (by show R≠B;omega) _).other (p:=⟨B,3,none⟩) (by show R≠B;omega) _).other (p:=⟨B,4,none⟩) (by show R≠B;omega) _
theorem lit_miss (s:List UInt8) (R:Nat) (t:TypeId) (l:List Value) (w:World) (hR:Blk w R t (.string ⟨s.toArray⟩::l)) (hU:Under R w) (hs:s.length≤1048576) (h:Lib.hasPrefix s [36]=false) (h2:s.isEmpty|| !(litL.contains (s.headD 0))=true):
  Calls Tryz.prog 276 #[.pointer (some ⟨R,0,none⟩)] w (LitPost (some none) s R t l w):=by
 have HCP:=zH (fun W=>cutp_at s [36] W);have htp:Lib.trimPrefix s [36]=s:=by unfold Lib.trimPrefix;rw[if_neg (by rw[h];simp)]
 rw[htp,h] at HCP;have HP:Hid (∀w',Onl R w w'→Blk w' R t (.string ⟨s.toArray⟩::l)→LitPost (some none) s R t l w (.returned (.tuple #[(nd 0 zR []).v,.bool false])) w'):=fun w' h h2=>⟨⟨rfl,h2⟩,h⟩
 clear htp h;obtain⟨W,hW⟩:=zE (w.alloc (.cells #[.int .i64 0,.bool false,.string ⟨#[]⟩,.string ⟨#[]⟩,.string ⟨#[]⟩] 59));have hba:Below w.heap.size w W:=by rw[hW];exact zB _ _
 have hk0:Blk W w.heap.size 59 [.int .i64 0,.bool false,.string ⟨#[]⟩,.string ⟨#[]⟩,.string ⟨#[]⟩]:=by rw[hW];exact Blk.new w _ _
 have hsz:W.heap.size=w.heap.size+1:=by rw[hW];exact Array.size_push _
 obtain⟨B,hB⟩:=zE w.heap.size;have HB:=zH hB;rw[←hB] at hba hsz hk0;have hRB:R<B:=by rw[HB.out];exact hR.lt
 have hRW:=hR.below hba hRB;have HUW:Hid (Under R W):=hU.onl (Onl.of_below (by rw[←HB.out];exact hba));have HOW:Hid (Onl R w W):=Onl.of_below (by rw[←HB.out];exact hba);have HRW:=zH hRW;have HK0:=zH hk0;have hc:=hRW.cells;have hf:=hRW.froz;rw[hW] at hc hf;clear hR hU hba hRW hk0;cases s with
 |nil=>
  go_enter Tryz.func276,Tryz.ntmps276;go_wp2_with fail;simp only[←hW,←hB]
  clear hW hB;clear hc hf;have hc:=HRW.out.cells;have hf:=HRW.out.froz;refine (HCP.out _).mono ?_;rintro e w1 ⟨rfl,rfl⟩;have hc2:=HK0.out.cells;have hf2:=HK0.out.froz;go_wp2;refine bodyPost_ret (v:=.tuple #[(nd 0 zR []).v,.bool false]) (by simp[results,Tryz.results276,go_sem,hc2,nd,Nd.v,zR]) rfl (HP.out _ ?_ ?_)
  ·have h:=HB.out;exact ((((HOW.out.fresh (by omega) 0 _).fresh (by omega) 1 _).fresh (by omega) 2 _).fresh (by omega) 3 _).fresh (by omega) 4 _
  ·exact ((((HRW.out.other (p:=⟨B,0,none⟩) (by show R≠B;omega) _).other (p:=⟨B,1,none⟩) (by show R≠B;omega) _).other (p:=⟨B,2,none⟩) (by show R≠B;omega) _).other (p:=⟨B,3,none⟩) (by show R≠B;omega) _).other (p:=⟨B,4,none⟩) (by show R≠B;omega) _
 |cons c m=>
  have hlc:litL.contains c=false:=by simpa using h2
  have HT:=zH (fun W=>trim_at [c] litL W (by simp) (by decide) (by decide));rw[trim_one,hlc,if_neg (by simp)] at HT;have hx:(⟨(c::m).toArray⟩:ByteArray).extract 0 1=⟨[c].toArray⟩:=by rw[Lib.extract_eq];rfl
  rw[←hx] at HT;have hs1:1≤(⟨(c::m).toArray⟩:ByteArray).size:=by show 1≤(c::m).length;simp
  have e0:((⟨(c::m).toArray⟩:ByteArray).toList==[])=false:=by rw[ByteArray.toList_eq];rfl
  have e1:(⟨(c::m).toArray⟩:ByteArray).toList.isEmpty=false:=by rw[ByteArray.toList_eq];rfl
  have e2:(((⟨(c::m).toArray⟩:ByteArray).extract 0 1).toList !=[])=true:=by rw[hx,ByteArray.toList_eq];rfl
  have e3:((⟨(c::m).toArray⟩:ByteArray).extract 0 1).toList.isEmpty=false:=by rw[hx,ByteArray.toList_eq];rfl
  clear hx h2 hs;generalize (⟨(c::m).toArray⟩:ByteArray)=S at*;unfold litL at HT;go_enter Tryz.func276,Tryz.ntmps276;go_wp2_with fail;simp only[←hW,←hB]
  clear hW hB;clear hc hf;have hc:=HRW.out.cells;have hf:=HRW.out.froz;refine (HCP.out _).mono ?_;rintro e w1 ⟨rfl,rfl⟩;go_wp2_with fail;refine (HT.out _).mono ?_;rintro e w2 ⟨rfl,hb2⟩;have HK2:=zH (HK0.out.below hb2 HK0.out.lt);have HR2:=zH (HRW.out.below hb2 HRW.out.lt);have HO2:Hid (Onl R w w2):=HOW.out.trans (Onl.of_below hb2);clear hc hf hb2;have hc2:=HK2.out.cells;have hf2:=HK2.out.froz;go_wp2;refine bodyPost_ret (v:=.tuple #[(nd 0 zR []).v,.bool false]) (by simp[results,Tryz.results276,go_sem,hc2,nd,Nd.v,zR]) rfl (HP.out _ ?_ ?_)
  ·have h:=HB.out;exact ((((HO2.out.fresh (by omega) 0 _).fresh (by omega) 1 _).fresh (by omega) 2 _).fresh (by omega) 3 _).fresh (by omega) 4 _
  ·exact ((((HR2.out.other (p:=⟨B,0,none⟩) (by show R≠B;omega) _).other (p:=⟨B,1,none⟩) (by show R≠B;omega) _).other (p:=⟨B,2,none⟩) (by show R≠B;omega) _).other (p:=⟨B,3,none⟩) (by show R≠B;omega) _).other (p:=⟨B,4,none⟩) (by show R≠B;omega) _
theorem lit_num (c:UInt8) (m:List UInt8) (R:Nat) (t:TypeId) (l:List Value) (w:World) (hR:Blk w R t (.string ⟨(c::m).toArray⟩::l)) (hU:Under R w) (hs:(c::m).length≤1048576) (h:Lib.hasPrefix (c::m) [36]=false) (hlc:litL.contains c=true):
  Calls Tryz.prog 276 #[.pointer (some ⟨R,0,none⟩)] w (LitPost ((numA (c::m)).map fun q=>if Lib.hasPrefix q.2 [100] then some (nd 2 q.1 [],q.2.drop 1) else some (nd 3 q.1 [],q.2)) (c::m) R t l w):=by
 have HCP:=zH (fun W=>cutp_at (c::m) [36] W);have htp:Lib.trimPrefix (c::m) [36]=c::m:=by unfold Lib.trimPrefix;rw[if_neg (by rw[h];simp)]
 rw[htp,h] at HCP;clear htp h;obtain⟨W,hW⟩:=zE (w.alloc (.cells #[.int .i64 0,.bool false,.string ⟨#[]⟩,.string ⟨#[]⟩,.string ⟨#[]⟩] 59));have hba:Below w.heap.size w W:=by rw[hW];exact zB _ _
 have hk0:Blk W w.heap.size 59 [.int .i64 0,.bool false,.string ⟨#[]⟩,.string ⟨#[]⟩,.string ⟨#[]⟩]:=by rw[hW];exact Blk.new w _ _
 have hsz:W.heap.size=w.heap.size+1:=by rw[hW];exact Array.size_push _
 obtain⟨B,hB⟩:=zE w.heap.size;have HB:=zH hB;rw[←hB] at hba hsz hk0;have hRB:R<B:=by rw[HB.out];exact hR.lt
 have hRW:=hR.below hba hRB;have HUW:Hid (Under R W):=hU.onl (Onl.of_below (by rw[←HB.out];exact hba));have HOW:Hid (Onl R w W):=Onl.of_below (by rw[←HB.out];exact hba);have HRW:=zH hRW;have HK0:=zH hk0;have hc:=hRW.cells;have hf:=hRW.froz;rw[hW] at hc hf;clear hR hU hba hRW hk0;have HT:=zH (fun W=>trim_at [c] litL W (by simp) (by decide) (by decide));rw[trim_one,hlc,if_pos rfl] at HT;have hx:(⟨(c::m).toArray⟩:ByteArray).extract 0 1=⟨[c].toArray⟩:=by rw[Lib.extract_eq];rfl
 rw[←hx] at HT;have hs1:1≤(⟨(c::m).toArray⟩:ByteArray).size:=by show 1≤(c::m).length;simp
 have e0:((⟨(c::m).toArray⟩:ByteArray).toList==[])=false:=by rw[ByteArray.toList_eq];rfl
 have e1:(⟨(c::m).toArray⟩:ByteArray).toList.isEmpty=false:=by rw[ByteArray.toList_eq];rfl
 clear hx hlc;unfold litL at HT;cases hn:numA (c::m) with
 |none=>
  have HP:Hid (∀w',Onl R w w'→LitPost ((none:Option (Ra × List UInt8)).map fun q=>if Lib.hasPrefix q.2 [100] then some (nd 2 q.1 [],q.2.drop 1) else some (nd 3 q.1 [],q.2)) (c::m) R t l w (.panicked noText) w'):=fun w' h=>⟨rfl,h⟩
  have HN:=zH (fun W h1 h2=>num_no (c::m) R t l W h1 h2 hs hn);clear hn hs;generalize (⟨(c::m).toArray⟩:ByteArray)=S at*;go_enter Tryz.func276,Tryz.ntmps276;go_wp2_with fail;simp only[←hW,←hB]
  clear hW hB;clear hc hf;have hc:=HRW.out.cells;have hf:=HRW.out.froz;refine (HCP.out _).mono ?_;rintro e w1 ⟨rfl,rfl⟩;go_wp2_with fail;refine (HT.out _).mono ?_;rintro e w2 ⟨rfl,hb2⟩;have HR2:=zH (HRW.out.below hb2 HRW.out.lt);have HU2:Hid (Under R w2):=HUW.out.onl (Onl.of_below hb2);have HO2:Hid (Onl R w w2):=HOW.out.trans (Onl.of_below hb2);clear hc hf hb2;go_wp2_with fail;refine (HN.out _ HR2.out HU2.out).mono ?_;rintro e w3 ⟨rfl,ho3⟩;have HO3:=zH (HO2.out.trans ho3);clear ho3;go_wp2;exact⟨rfl,HP.out _ HO3.out⟩
 |some ar=>
  obtain⟨a,r⟩:=ar;have hrl:=numA_len hn;have hrl2:r.length≤1048576:=by omega
  have HN:=zH (fun W h1 h2=>num_yes (c::m) R t l W h1 h2 hs a r hn);have HC2:=zH (fun W=>cutp_at r [100] W);cases hd:Lib.hasPrefix r [100]
  ·have HP:Hid (∀w',Onl R w w'→Blk w' R t (.string ⟨r.toArray⟩::l)→LitPost ((some (a,r)).map fun q=>if Lib.hasPrefix q.2 [100] then some (nd 2 q.1 [],q.2.drop 1) else some (nd 3 q.1 [],q.2)) (c::m) R t l w (.returned (.tuple #[(nd 3 a []).v,.bool true])) w'):=fun w' h h2=>by
    simp only[Option.map_some,hd,if_neg Bool.false_ne_true]
    exact⟨⟨rfl,h2⟩,h⟩
   have htp:Lib.trimPrefix r [100]=r:=by unfold Lib.trimPrefix;rw[if_neg (by rw[hd];simp)]
   rw[htp,hd] at HC2;obtain⟨neg,num,den⟩:=a;unfold Ra.v at HN;simp only at HN;clear hn hs hd htp hrl hrl2;generalize (⟨(c::m).toArray⟩:ByteArray)=S at*;generalize (⟨r.toArray⟩:ByteArray)=S2 at*;go_enter Tryz.func276,Tryz.ntmps276;go_wp2_with fail;simp only[←hW,←hB]
   clear hW hB;clear hc hf;have hc:=HRW.out.cells;have hf:=HRW.out.froz;refine (HCP.out _).mono ?_;rintro e w1 ⟨rfl,rfl⟩;go_wp2_with fail;refine (HT.out _).mono ?_;rintro e w2 ⟨rfl,hb2⟩;have HR2:=zH (HRW.out.below hb2 HRW.out.lt);have HK2:=zH (HK0.out.below hb2 HK0.out.lt);have HU2:Hid (Under R w2):=HUW.out.onl (Onl.of_below hb2);have HO2:Hid (Onl R w w2):=HOW.out.trans (Onl.of_below hb2);clear hc hf hb2;go_wp2_with fail;refine (HN.out _ HR2.out HU2.out).mono ?_;rintro e w3 ⟨rfl,hk3,ho3⟩;have hkB:=(ho3.blk HK2.out (by omega)).alloc (.cells #[.int .i64 3,.bool neg,.string num,.string den,.string ⟨#[]⟩] 59);have hk3':=hk3.alloc (.cells #[.int .i64 3,.bool neg,.string num,.string den,.string ⟨#[]⟩] 59);have HO3:Hid (Onl R w (w3.alloc (.cells #[.int .i64 3,.bool neg,.string num,.string den,.string ⟨#[]⟩] 59))):=(HO2.out.trans ho3).trans (Onl.of_below (zB _ _));have HKB:=zH hkB;have HK3:=zH hk3';have hc:=hk3'.cells;have hf:=hk3'.froz;have hc2:=hkB.cells;have hf2:=hkB.froz;clear hk3 ho3 hkB hk3';go_wp2_with fail;refine (HC2.out _).mono ?_;rintro e w4 ⟨rfl,rfl⟩;go_wp2;refine bodyPost_ret (v:=.tuple #[(nd 3 ⟨neg,num,den⟩ []).v,.bool true]) (by simp[results,Tryz.results276,go_sem,hc2,nd,Nd.v]) rfl (HP.out _ ?_ ?_)
   ·have h:=HB.out;exact ((((HO3.out.fresh (by omega) 0 _).fresh (by omega) 1 _).fresh (by omega) 2 _).fresh (by omega) 3 _).fresh (by omega) 4 _
   ·exact ((((HK3.out.other (p:=⟨B,0,none⟩) (by show R≠B;omega) _).other (p:=⟨B,1,none⟩) (by show R≠B;omega) _).other (p:=⟨B,2,none⟩) (by show R≠B;omega) _).other (p:=⟨B,3,none⟩) (by show R≠B;omega) _).other (p:=⟨B,4,none⟩) (by show R≠B;omega) _
  ·have HP:Hid (∀w',Onl R w w'→Blk w' R t (.string ⟨(r.drop 1).toArray⟩::l)→LitPost ((some (a,r)).map fun q=>if Lib.hasPrefix q.2 [100] then some (nd 2 q.1 [],q.2.drop 1) else some (nd 3 q.1 [],q.2)) (c::m) R t l w (.returned (.tuple #[(nd 2 a []).v,.bool true])) w'):=fun w' h h2=>by
    simp only[Option.map_some,hd,if_true]
    exact⟨⟨rfl,h2⟩,h⟩
   have htp:Lib.trimPrefix r [100]=r.drop 1:=by unfold Lib.trimPrefix;rw[if_pos hd];rfl
   rw[htp,hd] at HC2;obtain⟨neg,num,den⟩:=a;unfold Ra.v at HN;simp only at HN;clear hn hs hd htp hrl hrl2;generalize (⟨(c::m).toArray⟩:ByteArray)=S at*;generalize (⟨r.toArray⟩:ByteArray)=S2 at*;generalize (⟨(r.drop 1).toArray⟩:ByteArray)=S3 at*;go_enter Tryz.func276,Tryz.ntmps276;go_wp2_with fail;simp only[←hW,←hB]
   clear hW hB;clear hc hf;have hc:=HRW.out.cells;have hf:=HRW.out.froz;refine (HCP.out _).mono ?_;rintro e w1 ⟨rfl,rfl⟩;go_wp2_with fail;refine (HT.out _).mono ?_;rintro e w2 ⟨rfl,hb2⟩;have HR2:=zH (HRW.out.below hb2 HRW.out.lt);have HK2:=zH (HK0.out.below hb2 HK0.out.lt);have HU2:Hid (Under R w2):=HUW.out.onl (Onl.of_below hb2);have HO2:Hid (Onl R w w2):=HOW.out.trans (Onl.of_below hb2);clear hc hf hb2;go_wp2_with fail;refine (HN.out _ HR2.out HU2.out).mono ?_;rintro e w3 ⟨rfl,hk3,ho3⟩;have hk3b:=ho3.blk HK2.out (by omega);have hkB:=hk3b.alloc (.cells #[.int .i64 3,.bool neg,.string num,.string den,.string ⟨#[]⟩] 59);have hk3':=hk3.alloc (.cells #[.int .i64 3,.bool neg,.string num,.string den,.string ⟨#[]⟩] 59);have hk6:=Blk.new w3 59 #[.int .i64 3,.bool neg,.string num,.string den,.string ⟨#[]⟩];have HO3:Hid (Onl R w (w3.alloc (.cells #[.int .i64 3,.bool neg,.string num,.string den,.string ⟨#[]⟩] 59))):=(HO2.out.trans ho3).trans (Onl.of_below (zB _ _));have hR6:R<w3.heap.size:=hk3.lt;have hB6:B<w3.heap.size:=hk3b.lt;have HLT:Hid (R<w3.heap.size∧B<w3.heap.size∧w.heap.size≤w3.heap.size):=⟨hR6,hB6,by have:=hB6;have:=HB.out;omega⟩
   have HKB:=zH hkB;have HK3:=zH hk3';have HK6:=zH hk6;have hc:=hk3'.cells;have hf:=hk3'.froz;clear hk3 ho3 hkB hk3' hk6 hk3b hR6 hB6;go_wp2_with fail;refine (HC2.out _).mono ?_;rintro e w4 ⟨rfl,rfl⟩;generalize hN:w3.heap.size=N6 at*;have hRN:R<N6:=HLT.out.1;have hBN:B<N6:=HLT.out.2.1;have hq1:¬R=N6:=by omega
   have hq2:¬N6=R:=by omega
   have hq3:¬B=N6:=by omega
   have hq4:¬N6=B:=by omega
   have hq5:¬R=B:=by omega
   have hq6:¬B=R:=by omega
   generalize w3.alloc (.cells #[.int .i64 3,.bool neg,.string num,.string den,.string ⟨#[]⟩] 59)=W4 at*;clear hN;have hc2:=HKB.out.cells;have hf2:=HKB.out.froz;have hc6:=HK6.out.cells;have hf6:=HK6.out.froz;go_wp2;refine bodyPost_ret (v:=.tuple #[(nd 2 ⟨neg,num,den⟩ []).v,.bool true]) (by simp[results,Tryz.results276,go_sem,hc2,hc6,hq1,hq2,hq3,hq4,nd,Nd.v]) rfl (HP.out _ ?_ ?_)
   ·have h:=HB.out;have h2:=HLT.out.2.2;exact ((((((HO3.out.set 0 _).fresh (by omega) 0 _).fresh (by omega) 0 _).fresh (by omega) 1 _).fresh (by omega) 2 _).fresh (by omega) 3 _).fresh (by omega) 4 _
   ·exact (((((((HK3.out.set 0 (.string S3))).other (p:=⟨N6,0,none⟩) (by show R≠N6;omega) _).other (p:=⟨B,0,none⟩) (by show R≠B;omega) _).other (p:=⟨B,1,none⟩) (by show R≠B;omega) _).other (p:=⟨B,2,none⟩) (by show R≠B;omega) _).other (p:=⟨B,3,none⟩) (by show R≠B;omega) _).other (p:=⟨B,4,none⟩) (by show R≠B;omega) _
theorem step_push_at {P:Program} (W:World) (news:Array Value) {ops:Array Oper} {o:Oper} {a:Act} {K:Act→World→Prop} {Q:Exit→Act→World→Prop} {E:Prop} (hgd:o.guard=none) (s x:Operand) (t:TypeId)
  (ho:o.op=.call {callee:=.builtin .append,args:=#[s,x],argTypes:=#[t,t]})
  (base:Nat) (e:TypeId) (z:Value) (size bytes m:Nat) (ht:P.underlying t=some (.slice e)) (hinfo:(P.info? e).map (fun i=>(i.zero,i.size,i.bytes))=some (some z,size,bytes)) (hzs:z.cells.size=size) (hsz:0<size)
  (v:Value) (n:Nat) (xs:List Value) (hs:a.eval s=v) (hown:W.ownsRow base e size v n xs)
  (hx:a.eval x=.slice (some ⟨W.heap.size,0,none⟩) m m) (hl:news.size=m*size) (h1:∀u∈news.toList,u.oneCell'=true)
  (h63:n+m≤maxLen) (hbytes:(n+m)*bytes≤140737488355328) (hbase:base≤W.heap.size)
  (h:∀v' w',w'.ownsRow base e size v' (n+m) (xs++news.toList)→W.grownBy w' v.ownBlock→(∀g,v'.ownBlock=some g→v.ownBlock=some g∨W.heap.size≤g)→K (a.put o.dst v') w'):
  if Region.wanted o (yielded ops a.tmps)=true then Oper.wp P o a (W.alloc (.cells news e)) K Q else E:=by
 have hw:Region.wanted o (yielded ops a.tmps)=true:=by simp[Region.wanted,hgd]
 rw[if_pos hw];obtain⟨i,hi,hzz⟩:=Option.map_eq_some_iff.1 hinfo;simp only[Prod.mk.injEq] at hzz;obtain⟨hz,hs1,hb⟩:=hzz
 have hnews:∀j u,news.toList[j]?=some u→(W.alloc (.cells news e)).cell? ((⟨W.heap.size,0,none⟩:Addr).add j)=some u:=by
  intro j u hj;have hb:=Blk.new W e news;have hj':j<news.toList.length:=(List.getElem?_eq_some_iff.1 hj).1;have:=hb.cell hj';rw[show Addr.add ⟨W.heap.size,0,none⟩ j=⟨W.heap.size,j,none⟩ from by unfold Addr.add;split<;>simp_all,this,←(List.getElem?_eq_some_iff.1 hj).2]
 obtain⟨v',w',hr,h2,h3,h4,h5⟩:=run_append_own_at (P:=P) (W.alloc (.cells news e)) base t o.type e i z size bytes ht hi hz hs1 hb hzs hsz v n xs (hown.alloc _) ⟨W.heap.size,0,none⟩ m m news.toList (by simpa using hl) hnews h1 h63 hbytes (by simp;omega);unfold Oper.wp execOp;simp only[ho,resolve,invoke,builtin,Sem.run_bind,Sem.run_pure,Result.andThen_ok,List.map_toArray,List.map_cons,List.map_nil,hs,hx,hr]
 refine h v' w' h2 ?_ ?_
 ·have ha:=World.grownBy_alloc W (.cells news e) v.ownBlock;exact⟨h3.os.trans ha.os,h3.tape.trans ha.tape,h3.output.trans ha.output,Nat.le_trans ha.size h3.size,fun k hk hne=>(h3.block k (Nat.lt_of_lt_of_le hk ha.size) hne).trans (ha.block k hk hne)⟩
 ·intro g hgv;rcases h5 with hv|hv
  ·exact .inl (by rw[←hv];exact hgv)
  ·rw[hv] at hgv;injection hgv with hgv;subst hgv;exact .inr (by rw[World.size_alloc];omega)
structure PF (R:Nat) (w:World) (v:Value) (w':World) (v':Value):Prop where
 os:w'.os=w.os
 tape:w'.tape=w.tape
 output:w'.output=w.output
 size:w.heap.size≤w'.heap.size
 block:∀k,k<w.heap.size→k≠R→v.ownBlock≠some k→w'.heap[k]?=w.heap[k]?
 own:∀g,v'.ownBlock=some g→v.ownBlock=some g∨w.heap.size≤g
theorem PF.trans {R:Nat} {w w' w'':World} {v v' v'':Value} (h:PF R w v w' v') (k:PF R w' v' w'' v''):PF R w v w'' v'':=
 ⟨k.os.trans h.os,k.tape.trans h.tape,k.output.trans h.output,Nat.le_trans h.size k.size,
   fun i hi hR hv=>(k.block i (Nat.lt_of_lt_of_le hi h.size) hR (fun he=>by rcases h.own i he with h'|h';exact hv h';omega)).trans (h.block i hi hR hv),
   fun g hg=>by
    rcases k.own g hg with h'|h'
    ·exact h.own g h'
    ·exact .inr (Nat.le_trans h.size h')⟩
theorem PF.of_onl {R:Nat} {w w':World} {v:Value} (h:Onl R w w'):PF R w v w' v:=
 ⟨h.os,h.tape,h.output,h.size,fun k hk hR _=>h.block k hk hR,fun g hg=>.inl hg⟩
theorem PF.of_below {R:Nat} {w w':World} {v:Value} (h:Below w.heap.size w w'):PF R w v w' v:=PF.of_onl (Onl.of_below h)
theorem PF.blk {R b:Nat} {w w':World} {v v':Value} {t:TypeId} {cs:List Value} (h:PF R w v w' v') (hb:Blk w b t cs) (hR:b≠R) (hv:v.ownBlock≠some b):Blk w' b t cs:=hb.of_block (h.block b hb.lt hR hv)
theorem PF.below {R B n:Nat} {w w':World} {v v':Value} {xs:List Value} {e:TypeId} {sz:Nat} (h:PF R w v w' v') (hown:w.ownsRow (R+1) e sz v n xs) (hB:B≤R) (hw:B≤w.heap.size):Below B w w':=
 ⟨h.os,h.tape,h.output,h.size,fun k hk=>h.block k (by omega) (by omega) (fun he=>by have:=(hown.lt k he).1;omega)⟩
def ExPost (r:Option PS) (R:Nat) (v:Value) (w:World) (e:Ending) (w':World):Prop:=
 match r with
 |none=>e=.panicked noText∧Below R w w'
 |some q=>e=.returned (.tuple #[])∧∃v',Blk w' R 272 [.string ⟨q.1.toArray⟩,v',.int .i64 (q.2.2:Int)]∧w'.ownsRow (R+1) 59 5 v' q.2.1.length (nds q.2.1)∧PF R w v w' v'
theorem drop_len (s:List UInt8) (n:Nat):(s.drop n).length≤s.length:=by rw[List.length_drop];omega
theorem spanR_len (cs s:List UInt8):(spanR cs s).length≤s.length:=(List.dropWhile_sublist _).length_le
theorem spanW_len (cs s:List UInt8):(spanW cs s).length≤s.length:=(List.takeWhile_sublist _).length_le
theorem litA_len {s:List UInt8} {q:Nd × List UInt8} (h:litA s=some (some q)):q.2.length≤s.length:=by
 unfold litA at h;split at h
 ·cases hn:numA (s.drop 1) with
  |none=>rw[hn] at h;cases h
  |some ar=>
   obtain⟨a,r⟩:=ar;rw[hn] at h;injection h with h;injection h with h;have:=numA_len hn;have:=drop_len s 1;rw[←h];show r.length≤_;omega
 ·split at h
  ·cases h
  ·cases hn:numA s with
   |none=>rw[hn] at h;cases h
   |some ar=>
    obtain⟨a,r⟩:=ar;rw[hn] at h;have h1:=numA_len hn;have h2:=drop_len r 1;simp only[Option.map_some] at h;split at h
    ·injection h with h;injection h with h;rw[←h];show (r.drop 1).length≤_;omega
    ·injection h with h;injection h with h;rw[←h];exact h1
structure PB (s:List UInt8) (ns:List Nd) (b:Nat) (q:PS):Prop where
 rest:q.1.length≤s.length
 begun:b≤q.2.2
 most:q.2.2≤60
 nodes:ns.length+q.2.2≥q.2.1.length+b
theorem opsA_pb {p:List UInt8→List Nd→Nat→Option PS} (hp:∀s ns b q,p s ns b=some q→PB s ns b q) (m:Nat):∀k s ns b q,b≤60→opsA p m k s ns b=some q→PB s ns b q:=by
 induction m with
 |zero=>
  intro k s ns b q hb h;injection h with h;subst h;exact⟨Nat.le_refl _,Nat.le_refl _,hb,Nat.le_refl _⟩
 |succ m ih=>
  intro k s ns b q hb h;rw[opsA] at h;split at h
  ·obtain⟨t,h1,h2⟩:=Option.bind_eq_some_iff.1 h;have p1:=hp _ _ _ _ h1;have p2:=ih _ _ _ _ _ p1.most h2;have:=drop_len s (sepW k).length;exact⟨Nat.le_trans p2.rest (Nat.le_trans p1.rest this),Nat.le_trans p1.begun p2.begun,p2.most,by have:=p1.nodes;have:=p2.nodes;omega⟩
  ·cases h
theorem stpA_len {y:Bool} {s:List UInt8} {q:Ra × List UInt8} (h:stpA y s=some q):q.2.length≤s.length:=by
 unfold stpA at h;split at h
 ·split at h
  ·obtain⟨t,h1,h2⟩:=Option.bind_eq_some_iff.1 h;split at h2
   ·injection h2 with h2;have a1:=numA_len h1;have a2:=drop_len s 1;have a3:=drop_len t.2 1;rw[←h2];show (t.2.drop 1).length≤_;obtain⟨t1,t2⟩:=t;simp only at*;omega
   ·cases h2
  ·cases h
 ·injection h with h;rw[←h];exact Nat.le_refl _
theorem dotA_len (s:List UInt8):(dotA s).2.length≤s.length∧(dotA s).1.length≤s.length+1:=by
 have h1:=spanR_len lettersL s;have h2:=spanW_len lettersL s;have h3:=drop_len (spanR lettersL s) 1;unfold dotA;split
 ·exact⟨by show (List.drop 1 _).length≤_;omega,by simp;omega⟩
 ·exact⟨h1,by show (spanW lettersL s).length≤_;omega⟩
theorem parA_pb (f:Nat):∀s ns b q,parA f s ns b=some q→PB s ns b q∧b<q.2.2:=by
 induction f with
 |zero=>intro s ns b q h;cases h
 |succ f ih=>
  intro s ns b q h;rw[parA] at h;split at h
  ·cases h
  ·next hb=>
   obtain⟨t,h1,h2⟩:=Option.bind_eq_some_iff.1 h;cases t with
   |some t=>
    injection h2 with h2;have:=litA_len h1;subst h2;exact⟨⟨this,Nat.le_succ _,by show b+1≤60;omega,by simp;omega⟩,Nat.lt_succ_self _⟩
   |none=>
    have hl:=spanR_len lettersL s;simp only at h2;split at h2
    ·injection h2 with h2;subst h2;exact⟨⟨hl,Nat.le_succ _,by show b+1≤60;omega,by simp;omega⟩,Nat.lt_succ_self _⟩
    ·split at h2
     ·injection h2 with h2;subst h2;exact⟨⟨hl,Nat.le_succ _,by show b+1≤60;omega,by simp;omega⟩,Nat.lt_succ_self _⟩
     ·split at h2
      ·cases h2
      ·have hd:=(dotA_len s).1;unfold tailA at h2;obtain⟨u,h3,h4⟩:=Option.bind_eq_some_iff.1 h2;obtain⟨x,h5,h6⟩:=Option.bind_eq_some_iff.1 h4;have a1:=stpA_len h3
       have a2:(if (shp (placeOf ⟨(dotA s).1.toArray⟩)).nam=true then spanR namesL (dotA s).2 else (dotA s).2).length≤(dotA s).2.length:=by
        split
        ·exact spanR_len _ _
        ·exact Nat.le_refl _
       have a3:=opsA_pb (fun s ns b q h=>(ih s ns b q h).1) _ _ _ _ _ _ (by omega) h5;have a4:=a3.rest;have a5:=a3.begun;have a6:=a3.most;have a7:=a3.nodes;split at h6
       ·split at h6
        ·injection h6 with h6;subst h6;have a8:=drop_len x.1 1;exact⟨⟨by show (x.1.drop 1).length≤_;omega,by show b≤x.2.2;omega,a6,by simp;omega⟩,by show b<x.2.2;omega⟩
        ·cases h6
       ·injection h6 with h6;subst h6;exact⟨⟨by show x.1.length≤_;omega,by show b≤x.2.2;omega,a6,by simp;omega⟩,by show b<x.2.2;omega⟩
theorem lit_any (s:List UInt8) (R:Nat) (t:TypeId) (l:List Value) (w:World) (hR:Blk w R t (.string ⟨s.toArray⟩::l)) (hU:Under R w) (hs:s.length≤1048576):
  Calls Tryz.prog 276 #[.pointer (some ⟨R,0,none⟩)] w (LitPost (litA s) s R t l w):=by
 unfold litA;cases h:Lib.hasPrefix s [36]
 ·simp only[Bool.false_eq_true,if_false]
  split
  ·next h2=>exact lit_miss s R t l w hR hU hs h (by simpa using h2)
  ·next h2=>
   cases s with
   |nil=>simp at h2
   |cons c m=>exact lit_num c m R t l w hR hU hs h (by simpa using h2)
 ·simp only[if_true]
  exact lit_cash s R t l w hR hU hs h
theorem reP {P:Program} {md:Region.Mode} {S:World→Prop} {x0 f:Nat} {l:Array Bool} (i:Nat) {W:World} {news:Array Value} {ops:Array Oper} {o:Oper} {a:Act} {Q:Exit→Act→World→Prop} {s x:Operand} {t e:TypeId} {z v:Value} {base size bytes n:Nat} {xs:List Value} {a':Value→Act}
  (hinfo:(P.info? e).map (fun i=>(i.zero,i.size,i.bytes))=some (some z,size,bytes)) (ht:P.underlying t=some (.slice e)) (hown:W.ownsRow base e size v n xs) (hn:n≤100000) (hbase:base≤W.heap.size)
  (h:∀v' w',w'.ownsRow base e size v' (n+1) (xs++news.toList)→W.grownBy w' v.ownBlock→(∀g,v'.ownBlock=some g→v.ownBlock=some g∨W.heap.size≤g)→Below base W w'→S w'∧(S w'→wpAnyE P md ops Q S x0 f (l.setIfInBounds i true) (a' v') w'))
  (hi:ops[i]?=some o:=by rfl) (hr:Region.ready md ops l=[i]:=by kernel_rfl)
  (hgd:o.guard=none:=by rfl) (ho:o.op=.call {callee:=.builtin .append,args:=#[s,x],argTypes:=#[t,t]}:=by rfl) (hs:a.eval s=v:=by rfl) (hx:a.eval x=.slice (some ⟨W.heap.size,0,none⟩) 1 1:=by rfl)
  (hl:news.size=1*size:=by rfl) (hzs:z.cells.size=size:=by rfl) (hsz:0<size:=by decide) (hby:bytes≤1000:=by decide) (h1:∀u∈news.toList,u.oneCell'=true:=by (simp<;>(repeat' constructor)))
  (ha:∀v,a.put o.dst v=a' v:=by (intro v;(try simp only[Act.put,tk1,tk2,tk3,tk4,tk5,tk6]);rfl)):wpAnyE P md ops Q S x0 (f+1) l a (W.alloc (.cells news e)):=by
 refine reR i (fun K hK=>?_) hi hr;refine step_push_at W news hgd s x t ho base e z size bytes 1 ht hinfo hzs hsz v n xs hs hown hx hl h1 (by unfold maxLen;omega) (Nat.le_trans (Nat.mul_le_mul (show n+1≤100001 by omega) hby) (by decide)) hbase (fun v' w' h2 h3 h4=>?_);have hb:Below base W w':=(Below.refl _ _).grown h3 hbase (fun k hk=>(hown.lt k hk).1);obtain⟨h5,h6⟩:=h v' w' h2 h3 h4 hb;exact hK.out _ _ (fun _=>h5) (fun s=>by rw[ha];exact h6 h5)
theorem under_of {w0 w:World} (hL:LaidE w0) {R:Nat} (hR0:w0.heap.size≤R) (h:Below w0.heap.size w0 w):Under R w:=⟨w0,hL.base,h,hR0⟩
theorem PF.push {R:Nat} {W w5:World} {v v5:Value} (hg:W.grownBy w5 v.ownBlock) (hv:∀g,v5.ownBlock=some g→v.ownBlock=some g∨W.heap.size≤g) (i:Nat) (u:Value):PF R W v (w5.setCell ⟨R,i,none⟩ u) v5:=
 ⟨hg.os,hg.tape,hg.output,by simpa [World.setCell] using hg.size,fun k hk hR hne=>(Below.heap_setCell w5 _ u k (by show k≠R;exact hR)).trans (hg.block k hk (fun h=>hne h.symm)),hv⟩
theorem own_set {w:World} {R:Nat} {e:TypeId} {sz:Nat} {v:Value} {n:Nat} {xs:List Value} (h:w.ownsRow (R+1) e sz v n xs) (i:Nat) (u:Value):(w.setCell ⟨R,i,none⟩ u).ownsRow (R+1) e sz v n xs:=
 h.kept (grown_set w R i u) (by
  cases hv:v.ownBlock with
  |none=>exact .inl rfl
  |some g=>exact .inr (by intro h';injection h' with h';have:=(h.lt g hv).1;omega))
theorem nds_snoc (ns:List Nd) (n:Nd):nds (ns++[n])=nds ns++n.cells:=by rw[nds_append];simp[nds]
theorem own_onl {R:Nat} {w w':World} {e:TypeId} {sz:Nat} {v:Value} {n:Nat} {xs:List Value} (h:w.ownsRow (R+1) e sz v n xs) (ho:Onl R w w'):w'.ownsRow (R+1) e sz v n xs:=
 h.kept (row:=some R) ⟨ho.os,ho.tape,ho.output,ho.size,fun k hk hne=>ho.block k hk (fun h=>hne (by rw[h]))⟩ (by
  cases hv:v.ownBlock with
  |none=>exact .inl rfl
  |some g=>exact .inr (by intro h';injection h' with h';have:=(h.lt g hv).1;omega))
theorem PF.drew {R:Nat} {w w':World} {v v':Value} (h:PF R w v w' v'):PF R w v w'.drew v':=⟨h.os,h.tape,h.output,h.size,h.block,h.own⟩
theorem PF.alloc {R:Nat} {w w':World} {v v':Value} (h:PF R w v w' v') (o:Obj):PF R w v (w'.alloc o) v':=h.trans (PF.of_below (zB _ _))
def SP (R N:Nat) (cs ds:List Value) (X:World):Prop:=Blk X R 272 cs∧Blk X N 59 ds
theorem SP.all {R N:Nat} {a b c d0 d1 d2 d3 d4:Value} {X:World} (_:SP R N [a,b,c] [d0,d1,d2,d3,d4] X):∀Y,SP R N [a,b,c] [d0,d1,d2,d3,d4] Y→Y.cell? ⟨R,1,none⟩=some b∧Y.cell? ⟨N,0,none⟩=some d0∧Y.cell? ⟨N,1,none⟩=some d1∧Y.cell? ⟨N,2,none⟩=some d2∧Y.cell? ⟨N,3,none⟩=some d3∧Y.cell? ⟨N,4,none⟩=some d4∧Y.frozen? ⟨R,1,none⟩=false:=
 fun _ k=>⟨k.1.cells 1,k.2.cells 0,k.2.cells 1,k.2.cells 2,k.2.cells 3,k.2.cells 4,k.1.froz 1⟩
theorem SP.alloc {R N:Nat} {cs ds:List Value} {X:World} (h:SP R N cs ds X) (o:Obj):SP R N cs ds (X.alloc o):=⟨h.1.alloc o,h.2.alloc o⟩
structure XA (w:World) (R:Nat) (v:Value) (L:List (Nat × TypeId × List Value)) (s:List UInt8) (ns:List Nd) (b:Nat) (u:Value) (X:World):Prop where
 k:Blk X R 272 [.string ⟨s.toArray⟩,u,.int .i64 (b:Int)]
 o:X.ownsRow (R+1) 59 5 u ns.length (nds ns)
 p:PF R w v X u
 e:Below R w X
 l:∀q∈L,Blk X q.1 q.2.1 q.2.2∧R<q.1∧w.heap.size≤q.1∧u.ownBlock≠some q.1
 s:s.length≤1048576
 n:ns.length≤b
section
variable {w X X':World} {R:Nat} {v u u':Value} {L:List (Nat × TypeId × List Value)} {s s':List UInt8} {ns ns':List Nd} {b b':Nat}
theorem XA.to (h:XA w R v L s ns b u X) (p:PF R X u X' u') (k:Blk X' R 272 [.string ⟨s'.toArray⟩,u',.int .i64 (b':Int)]) (o:X'.ownsRow (R+1) 59 5 u' ns'.length (nds ns')) (hs:s'.length≤s.length) (hn:ns'.length≤b'):XA w R v L s' ns' b' u' X':=
 ⟨k,o,h.p.trans p,h.e.trans (p.below h.o (Nat.le_refl _) (Nat.le_of_lt h.k.lt)),fun q hq=>
   let ⟨h1,h2,h3,h4⟩:=h.l q hq
   ⟨p.blk h1 (Nat.ne_of_gt h2) h4,h2,h3,fun h5=>by rcases p.own _ h5 with h6|h6;exact h4 h6;have:=h1.lt;omega⟩,Nat.le_trans hs h.s,hn⟩
theorem XA.onl (h:XA w R v L s ns b u X) (k:Blk X' R 272 [.string ⟨s'.toArray⟩,u,.int .i64 (b:Int)]) (o:Onl R X X') (hs:s'.length≤s.length):XA w R v L s' ns b u X':=h.to (PF.of_onl o) k (own_onl h.o o) hs h.n
theorem XA.grow (h:XA w R v L s ns b u X) (o:Below X.heap.size X X'):XA w R v L s ns b u X':=h.onl (h.k.below o h.k.lt) (Onl.of_below o) (Nat.le_refl _)
theorem XA.new {t:TypeId} {cs:Array Value} (h:XA w R v L s ns b u X) (e:X.alloc (.cells cs t)=X'):XA w R v ((X.heap.size,t,cs.toList)::L) s ns b u X':=
 let h2:=h.grow (zA e).2
 ⟨h2.k,h2.o,h2.p,h2.e,fun q hq=>by
   rcases List.mem_cons.1 hq with rfl|hq
   ·exact⟨(zA e).1,h.k.lt,h.e.size,fun h5=>by have:=(h.o.lt _ h5).2;omega⟩
   ·exact h2.l q hq,h2.s,h2.n⟩
theorem XA.set {N:Nat} {t:TypeId} {cs:List Value} (h:XA w R v ((N,t,cs)::L) s ns b u X) (i:Nat) (x:Value) (hN:∀q∈L,q.1≠N):XA w R v ((N,t,cs.set i x)::L) s ns b u (X.setCell ⟨N,i,none⟩ x):=by
 obtain⟨h1,h2,h3,h4⟩:=h.l _ (List.mem_cons_self ..)
 refine⟨h.k.other (p:=⟨N,i,none⟩) (Nat.ne_of_lt h2) _,h.o.kept (grown_set X N i x) (by cases hu:u.ownBlock with|none=>exact .inl rfl|some g=>exact .inr (fun h'=>h4 (hu.trans h'))),
  ⟨h.p.os,h.p.tape,h.p.output,by simpa [World.setCell] using h.p.size,fun k hk hR hne=>(Below.heap_setCell X _ x k (by show k≠N;omega)).trans (h.p.block k hk hR hne),h.p.own⟩,
  h.e.setCell (p:=⟨N,i,none⟩) (Nat.le_of_lt h2) _,fun q hq=>?_,h.s,h.n⟩
 rcases List.mem_cons.1 hq with rfl|hq
 ·exact⟨h1.set i x,h2,h3,h4⟩
 ·obtain⟨g1,g2⟩:=h.l q (List.mem_cons_of_mem _ hq);exact⟨g1.other (p:=⟨N,i,none⟩) (hN q hq) _,g2⟩
theorem XA.b0 {q:Nat × TypeId × List Value} (h:XA w R v (q::L) s ns b u X):Blk X q.1 q.2.1 q.2.2:=(h.l _ (List.mem_cons_self ..)).1
theorem XA.sp {N:Nat} {ds:List Value} (h:XA w R v ((N,59,ds)::L) s ns b u X):SP R N [.string ⟨s.toArray⟩,u,.int .i64 (b:Int)] ds X:=⟨h.k,h.b0⟩
theorem XA.grown {N:Nat} {ds:List Value} (h:XA w R v ((N,59,ds)::L) s ns b u X) (hg:X.grownBy X' u.ownBlock):SP R N [.string ⟨s.toArray⟩,u,.int .i64 (b:Int)] ds X':=
 ⟨h.k.of_block (hg.block R h.k.lt (fun e=>by have:=(h.o.lt R e.symm).1;omega)),h.b0.of_block (hg.block N h.b0.lt (fun e=>(h.l _ (List.mem_cons_self ..)).2.2.2 e.symm))⟩
theorem XA.tl {q:Nat × TypeId × List Value} (h:XA w R v (q::L) s ns b u X):XA w R v L s ns b u X:={h with l:=fun p hp=>h.l p (List.mem_cons_of_mem _ hp)}
theorem XA.sw {q r:Nat × TypeId × List Value} (h:XA w R v (q::r::L) s ns b u X):XA w R v (r::q::L) s ns b u X:={h with l:=fun p hp=>h.l p (by simp only[List.mem_cons] at hp⊢;rcases hp with h|h|h<;>simp[h])}
theorem XA.two {t1 t2:TypeId} {c1 c2:Array Value} {l1 l2:List Value} (h:XA w R v L s ns b u X) (e1:c1.toList=l1:=by rfl) (e2:c2.toList=l2:=by rfl):XA w R v ((X.heap.size+1,t2,l2)::(X.heap.size,t1,l1)::L) s ns b u ((X.alloc (.cells c1 t1)).alloc (.cells c2 t2)).drew:=by
 subst e1 e2;have h:=(h.new (cs:=c1) (t:=t1) rfl).new (cs:=c2) (t:=t2) rfl;rw[World.size_alloc] at h;exact h.grow (drewN_below _ _ 1)
theorem XA.span (cs:List UInt8) (h:XA w R v L s ns b u X) (h1:cs.length<4294967281:=by decide) (h2:cs.all (fun b=>decide (b.toNat<128))=true:=by decide):
  Calls Tryz.prog 277 #[.pointer (some ⟨R,0,none⟩),.string ⟨cs.toArray⟩] X fun e X'=>e=.returned (.string ⟨(spanW cs s).toArray⟩)∧XA w R v L (spanR cs s) ns b u X':=
 (spanL_at s cs R _ _ X h.k h.s h1 h2).mono (by rintro e X' ⟨rfl,hk,ho⟩;exact⟨rfl,h.onl hk ho (spanR_len _ _)⟩)
theorem XA.want (p:List UInt8) (h:XA w R v L s ns b u X):
  Calls Tryz.prog 278 #[.pointer (some ⟨R,0,none⟩),.string ⟨p.toArray⟩] X fun e X'=>(Lib.hasPrefix s p=true∧e=.returned (.tuple #[])∧XA w R v L (s.drop p.length) ns b u X')∨(Lib.hasPrefix s p=false∧e=.panicked noText∧Below R w X'):=by
 cases hp:Lib.hasPrefix s p
 ·refine (want_no ⟨s.toArray⟩ ⟨p.toArray⟩ R _ _ X h.k hp).mono ?_;rintro e X' ⟨rfl,rfl⟩;exact .inr ⟨rfl,rfl,h.e⟩
 ·refine (wantL_yes s p R _ _ X h.k hp).mono ?_;rintro e X' ⟨rfl,hk,ho⟩;exact .inl ⟨rfl,rfl,h.onl hk ho (drop_len _ _)⟩
theorem XA.num (h:XA w R v L s ns b u X) (hU:Under R X):
  Calls Tryz.prog 281 #[.pointer (some ⟨R,0,none⟩)] X fun e X'=>(∃a r,numA s=some (a,r)∧e=.returned a.v∧XA w R v L r ns b u X')∨(numA s=none∧e=.panicked noText∧Below R w X'):=by
 cases hn:numA s with
 |none=>
  refine (num_no s R _ _ X h.k hU h.s hn).mono ?_;rintro e X' ⟨rfl,ho⟩;exact .inr ⟨rfl,rfl,h.e.trans (ho.below (Nat.le_refl _) (Nat.le_of_lt h.k.lt))⟩
 |some q=>
  refine (num_yes s R _ _ X h.k hU h.s q.1 q.2 hn).mono ?_;rintro e X' ⟨rfl,hk,ho⟩;exact .inl ⟨_,_,rfl,rfl,h.onl hk ho (numA_len hn)⟩
theorem XA.fin {w5:World} {u5:Value} {n:Nd} {T:Option PS} (h:XA w R v L s ns b u X) (hg:X.grownBy w5 u.ownBlock) (ho:w5.ownsRow (R+1) 59 5 u5 (ns.length+1) (nds ns++n.cells)) (h4:∀g,u5.ownBlock=some g→u.ownBlock=some g∨X.heap.size≤g) (hT:T=some (s,ns++[n],b)):
  ExPost T R v w (.returned (.tuple #[])) (w5.setCell ⟨R,1,none⟩ u5):=by
 subst hT;exact⟨rfl,u5,(h.k.of_block (hg.block R h.k.lt (fun e=>by have:=(h.o.lt R e.symm).1;omega))).set 1 _,by rw[List.length_append,nds_snoc];exact own_set ho 1 _,h.p.trans (PF.push hg h4 1 _)⟩
theorem xnone {T:Option PS} (hT:T=none) (h:Below R w X):ExPost T R v w (.panicked noText) X:=by subst hT;exact⟨rfl,h⟩
end
theorem idxFrom_spec {α:Type} [Inhabited α] (eq:α→α→Bool) (x:α):∀(l:List α) (i:Nat),Lib.idxByFrom eq x l i= -1∨∃k,k<l.length∧Lib.idxByFrom eq x l i=((i+k:Nat):Int)∧eq x l[k]! =true:=by
 intro l
 induction l with
 |nil=>intro i;exact .inl rfl
 |cons y l ih=>
  intro i;rw[Lib.idxByFrom];cases h:eq x y
  ·simp only[Bool.false_eq_true,if_false]
   rcases ih (i+1) with h1|⟨k,h1,h2,h3⟩
   ·exact .inl h1
   ·refine .inr ⟨k+1,by simp;omega,by rw[h2];congr 1;omega,?_⟩;simpa using h3
  ·simp only[if_true]
   exact .inr ⟨0,by simp,by simp,by simpa using h⟩
theorem place_spec {q:List UInt8} {k:Nat} (h:placeOf ⟨q.toArray⟩=(k:Int)):k<25∧(shp (k:Int)).word=q∧q≠[]:=by
 have hl:shs.length=25:=rfl;rcases idxFrom_spec (fun (_:Sh) y=>wordIs ⟨q.toArray⟩ y) default shs 0 with h1|⟨j,h1,h2,h3⟩
 ·have:placeOf ⟨q.toArray⟩= -1:=h1;omega
 ·have h4:placeOf ⟨q.toArray⟩=((0+j:Nat):Int):=h2;have hjk:j=k:=by omega
  subst hjk
  have hj:shs[j]! =shp (j:Int):=by
   have:=shp_get j (by omega);rw[getElem!_pos shs j h1];rw[List.getElem?_eq_getElem h1] at this;exact Option.some.inj this
  rw[hj] at h3;unfold wordIs at h3;simp only[Bool.and_eq_true,decide_eq_true_eq,Bool.not_eq_true',decide_eq_false_iff_not] at h3;refine⟨by omega,?_,fun he=>h3.2 (by rw[he])⟩;have h5:=congrArg (fun b:ByteArray=>b.data.toList) h3.1;simpa using h5
theorem place_neg (q:ByteArray):placeOf q= -1∨∃k:Nat,placeOf q=(k:Int):=by
 rcases idxFrom_spec (fun (_:Sh) y=>wordIs q y) default shs 0 with h1|⟨j,_,h2,_⟩
 ·exact .inl h1
 ·exact .inr ⟨0+j,h2⟩
theorem hasp_at (s p:List UInt8) (w:World):Calls Tryz.prog 267 #[.string ⟨s.toArray⟩,.string ⟨p.toArray⟩] w fun e w'=>e=.returned (.bool (Lib.hasPrefix s p))∧w'=w:=Tryz.strings_HasPrefix ⟨s.toArray⟩ ⟨p.toArray⟩ w
theorem ba_ne {a b:List UInt8} (h:a≠b):((⟨a.toArray⟩:ByteArray).toList==b)=false:=by
 rw[ByteArray.toList_eq,beq_eq_false_iff_ne];simpa using h
theorem tab_cells {w:World} (hL:LaidE w):∀j,j<shs.length→∀i v,(Sh.cells shs[j]!)[i]?=some v→w.cell? ⟨1,0+j*5+i,none⟩=some v:=by
 intro j hj i v hv
 have hi:i<5:=by
  have:=(List.getElem?_eq_some_iff.1 hv).1;exact this
 have hs:shs[j]! =shp (j:Int):=by
  have:=shp_get j hj;rw[getElem!_pos shs j hj];rw[List.getElem?_eq_getElem hj] at this;exact Option.some.inj this
 rw[Nat.zero_add,hL.cell j i hj hi,←hs];exact hv
theorem LaidE.row {w:World} {k oo:Nat} {wdl:List UInt8} {lit nam stp:Bool} (h:LaidE w) (hk:k<25) (e:shp (k:Int)=⟨wdl,oo,lit,nam,stp⟩):w.cell? ⟨1,k*5,none⟩=some (.string ⟨wdl.toArray⟩)∧w.cell? ⟨1,k*5+1,none⟩=some (.int .i64 (oo:Int))∧w.cell? ⟨1,k*5+2,none⟩=some (.bool lit)∧w.cell? ⟨1,k*5+3,none⟩=some (.bool nam)∧w.cell? ⟨1,k*5+4,none⟩=some (.bool stp):=by
 have h1:=fun i hi=>h.cell k i hk hi
 rw[e] at h1;exact⟨h1 0 (by omega),h1 1 (by omega),h1 2 (by omega),h1 3 (by omega),h1 4 (by omega)⟩
theorem stpA_t {s:List UInt8} (h1:Lib.hasPrefix s [91]=true):stpA true s=(numA (s.drop 1)).bind fun q=>if Lib.hasPrefix q.2 [93] then some (q.1,q.2.drop 1) else none:=by unfold stpA;rw[if_pos rfl,if_pos h1]
def tl4 (oo:Nat) (n:Nd) (t:PS):Option PS:=if 0<oo then (if Lib.hasPrefix t.1 [41] then some (t.1.drop 1,t.2.1++[n],t.2.2) else none) else some (t.1,t.2.1++[n],t.2.2)
end Go.Proofs.YtkgiaegmkncljaaGreatDoor
