/- A part of the proof: S8 Gw Gx P6 Gy Gz. -/
import Derived.Deep.Cut
import Derived.Deep.QuietTactic
import Derived.BigQuiet
import Derived.Test.YtbicehdehiakgaaGreatDoorG15
import Derived.Test.YtbicehdehiakgaaGreatDoorG17
import Derived.Test.YtbicehdehiakgaaGreatDoorG25
import Derived.Test.YtbicehdehiakgaaGreatDoorG26
import Derived.Test.YtbicehdehiakgaaGreatDoorG29
import Derived.Test.YtbicehdehiakgaaGreatDoorG30
set_option linter.unusedVariables false
set_option linter.unusedSimpArgs false
namespace Go.Proofs.YtbicehdehiakgaaGreatDoor
open Go.RowKit
theorem ext_list (s:ByteArray) (a b:Nat):(s.extract a b).data.toList=(s.data.toList.take b).drop a:=by
 rw[ByteArray.data_extract,Array.toList_extract,List.extract_eq_take_drop,List.drop_take]
theorem ext_take (s:ByteArray) (b:Nat):(s.extract 0 b).data.toList=s.data.toList.take b:=by rw[ext_list];rfl
theorem ext_drop (s:ByteArray) (a:Nat):(s.extract a s.size).data.toList=s.data.toList.drop a:=by
 rw[ext_list,List.take_of_length_le (by simp)]
theorem at_list (s:ByteArray) (i:Nat) (h:i<s.size):s.data.toList[i]'(by simpa using h)=s[i]:=rfl
theorem cut_first (r:ByteArray) (i:Nat) (hi:i<r.size) (h:∀j (hj:j<i),r[j]'(by omega)≠47) (h47:r[i]=47):Lib.cut r.data.toList [47]=((r.extract 0 i).data.toList,(r.extract (i+1) r.size).data.toList,true):=by
 have hl:r.data.toList.length=r.size:=by simp
 have e1:r.data.toList.take i++([47]++r.data.toList.drop (i+1))=r.data.toList:=by
  have h1:=List.drop_eq_getElem_cons (l:=r.data.toList) (i:=i) (by omega);rw[at_list r i hi,h47] at h1;have h2:=List.take_append_drop i r.data.toList;rw[h1] at h2;exact h2
 have h2:=cut_at (r.data.toList.take i) (r.data.toList.drop (i+1)) (fun c hc=>by
  obtain⟨j,hj,rfl⟩:=List.getElem_of_mem hc;rw[List.length_take] at hj;rw[List.getElem_take,at_list r j (by omega)];exact h j (by omega))
 rw[e1] at h2;rw[ext_take,ext_drop];exact h2
theorem cut_never (r:ByteArray) (h:∀j (hj:j<r.size),r[j]≠47):Lib.cut r.data.toList [47]=(r.data.toList,[],false):=by
 refine cut_none _ fun c hc=>?_
 obtain⟨j,hj,rfl⟩:=List.getElem_of_mem hc;exact h j (by simpa using hj)
def SPF (s nu de:ByteArray) (neg:Bool):Prop:=∃(pn pd tx:ByteArray) (bn bd bm d:Bool) (m:Ra),
  Hid (∀W,Calls Tryz.prog 159 #[.string nu] W fun e w'=>e=.returned (.tuple #[.string pn,.bool bn])∧Below W.heap.size W w')∧
  Hid (∀W,Calls Tryz.prog 159 #[.string de] W fun e w'=>e=.returned (.tuple #[.string pd,.bool bd])∧Below W.heap.size W w')∧
  Hid (∀W,Calls Tryz.prog 107 #[.bool neg,.string pn,.string pd] W fun e w'=>e=.returned (.tuple #[m.v,.bool bm])∧Below W.heap.size W w')∧
  Hid (∀W,Calls Tryz.prog 51 #[m.v] W fun e w'=>e=.returned (.string tx)∧Below W.heap.size W w')∧
  (tx.toList==s.toList)=d∧Hid (ratParse s=if bn&&bd&&bm&&d then (m,true) else (⟨false,⟨#[]⟩,⟨#[]⟩⟩,false))
theorem sp_facts (s nu de:ByteArray) (neg:Bool) (hcu:cutR s.data.toList=(neg,nu.data.toList,de.data.toList)) (h1:nu.size≤1048576) (h2:de.size≤1048576):SPF s nu de neg:=by
 have hn:=natParse_size nu.data.toList;have hd:=natParse_size de.data.toList;have hl1:nu.data.toList.length=nu.size:=by simp
 have hl2:de.data.toList.length=de.size:=by simp
 have hms:=mkR_size neg (natParse nu.data.toList).1 (natParse de.data.toList).1 1048576 (by omega) (by omega);refine⟨_,_,_,_,_,_,_,_,fun W=>rParse_any nu W h1,fun W=>rParse_any de W h2,fun W=>sMake_any neg _ _ W (by omega) (by omega),fun W=>sText_any _ W hms.1 hms.2,beq_toList _ _,?_⟩;show _=_;unfold ratParse;rw[hcu]
set_option maxRecDepth 100000 in
set_option maxHeartbeats 3200000 in
theorem sParse_any (s:ByteArray) (w:World) (hs:s.size≤1048576):
  Calls Tryz.prog 120 #[.string s] w fun e w'=>e=.returned (.tuple #[(ratParse s).1.v,.bool (ratParse s).2])∧Below w.heap.size w w':=by
 obtain⟨neg,r,hnr,hrs,hcs⟩:∃(neg:Bool) (r:ByteArray),Hid ((neg=false∧r=s∧(s.size=0∨∃h:0<s.size,((s[0].toNat:Int)==45)=false))∨(neg=true∧r=s.extract 1 s.size∧∃h:0<s.size,((s[0].toNat:Int)==45)=true))∧r.size≤1048576∧
   Hid (cutR s.data.toList=(neg,(Lib.cut r.data.toList [47]).1,if (Lib.cut r.data.toList [47]).2.2 then (Lib.cut r.data.toList [47]).2.1 else [49])):=by
  unfold cutR;have hl:s.data.toList.length=s.size:=by simp
  rcases Nat.eq_zero_or_pos s.size with h0|h0
  ·refine⟨false,s,.inl ⟨rfl,rfl,.inl h0⟩,hs,?_⟩;have:s.data.toList=[]:=List.eq_nil_of_length_eq_zero (by omega);show _=_;rw[this];rfl
  ·have e1:s.data.toList.head?=some s[0]:=by
    rw[List.head?_eq_getElem?,List.getElem?_eq_getElem (by omega),at_list s 0 h0]
   have hh:Lib.hasPrefix s.data.toList [45]=decide (s[0]=45):=by rw[prefix_one,e1];exact Bool.eq_iff_iff.2 (by simp)
   by_cases h45:s[0]=45
   ·refine⟨true,s.extract 1 s.size,.inr ⟨rfl,rfl,h0,by rw[h45];rfl⟩,by rw[ByteArray.size_extract];omega,?_⟩;show _=_
    have ht:Lib.trimPrefix s.data.toList [45]=(s.extract 1 s.size).data.toList:=by
     unfold Lib.trimPrefix;rw[hh,h45,ext_drop];rfl
    rw[ht,hh,h45];rfl
   ·refine⟨false,s,.inl ⟨rfl,rfl,.inr ⟨h0,?_⟩⟩,hs,?_⟩
    ·rw[beq_eq_false_iff_ne];intro h;exact h45 (UInt8.toNat_inj.1 (by show _=45;omega))
    ·show _=_
     have ht:Lib.trimPrefix s.data.toList [45]=s.data.toList:=by
      unfold Lib.trimPrefix;rw[hh,decide_eq_false h45];rfl
     rw[ht,hh,decide_eq_false h45]
 have HP:∀c,cutR s.data.toList=c→∀n,natParse c.2.1=n→∀d,natParse c.2.2=d→∀m,mkR c.1 n.1 d.1=m→
   ratParse s=if n.2&&d.2&&m.2&&decide (textR m.1=s) then (m.1,true) else (⟨false,⟨#[]⟩,⟨#[]⟩⟩,false):=by
  rintro c rfl n rfl d rfl m rfl;rfl
 have HP:=Lib.hid HP;obtain⟨W,hW⟩:∃W,W=w.alloc (.cells #[.bool false,.string ⟨#[]⟩,.string ⟨#[]⟩] 31):=⟨_,rfl⟩
 have hba:Below w.heap.size w W:=by rw[hW];exact (Below.refl _ _).alloc (Nat.le_refl _) _
 have hblk:Blk W w.heap.size 31 [.bool false,.string ⟨#[]⟩,.string ⟨#[]⟩]:=by rw[hW];exact Blk.new w _ _
 obtain⟨B,hB⟩:∃B,B=w.heap.size:=⟨_,rfl⟩
 rw[←hB] at hblk;have HB:=Lib.hid hB;have HBA:=Lib.hid hba;have HBK:=Lib.hid hblk;clear hba hblk
 have hcs2:∀(i:Nat) (h:i<r.size),r[i]=47↔((r[i].toNat:Int)==47)=true:=fun i h=>by
  rw[beq_iff_eq];exact⟨fun e=>by rw[e];rfl,fun e=>UInt8.toNat_inj.1 (by show _=47;omega)⟩
 have HCS2:=Lib.hid hcs2;clear hcs2;go_enter Tryz.func120,Tryz.ntmps120
 go_upto_region 2 with fail
 simp only[←hW,←hB]
 clear hW hB
 go_cut [5] from 16 (fun nv wc=>nv=.bool neg∧wc=W)
 case first=>
  rcases hnr.out with⟨rfl,rfl,h|⟨h0,h⟩⟩|⟨rfl,rfl,h0,h⟩
  all_goals
   clear hnr;go_wp2
   go_meet
   case rel=>exact⟨rfl,rfl⟩
 case rest=>
  obtain⟨rfl,hwc⟩:=hcut;rw[hwc];clear hwc
  go_upto_if 24 with fail
  go_cut [4] from 25 (fun rv wc=>rv=.string r∧wc=W)
  case first=>
   rcases hnr.out with⟨rfl,rfl,h⟩|⟨rfl,rfl,h0,h⟩
   all_goals
    clear hnr;go_wp2
    go_meet
    case rel=>exact⟨rfl,rfl⟩
  case rest=>
   obtain⟨rfl,hwc⟩:=hcut;rw[hwc];clear hwc hnr;go_wp2
   go_loopg [6,7,8] r.size (fun g nv dv iv wr=>∃i:Nat,i+g=r.size∧nv=.string r∧dv=.string ⟨#[49]⟩∧iv=.int .i64 i∧Hid (∀j (hj:j<i) (h:j<r.size),r[j]≠47)∧wr=W)
   case atStart=>exact⟨0,by omega,rfl,rfl,rfl,(fun j hj=>absurd hj (by omega)),rfl⟩
   case round=>
    obtain⟨i,hi,rfl,rfl,rfl,hall,hwr⟩:=hrel;rw[hwr];clear hwr;by_cases hcont:∃h:i<r.size,r[i]≠47
    ·obtain⟨hlt,h47⟩:=hcont
     have e4:((r[i].toNat:Int)==47)=false:=by
      cases h:((r[i].toNat:Int)==47)
      ·rfl
      ·exact absurd ((HCS2.out i hlt).2 h) h47
     have hal2:Hid (∀j (hj:j<i+1) (h:j<r.size),r[j]≠47):=fun j hj h=>by
      by_cases hji:j<i
      ·exact hall.out j hji h
      ·obtain rfl:j=i:=by omega
       exact h47
     clear hall h47;go_wp2
     go_roundg (r.size-(i+1))
     case measure=>omega
     case rel=>exact⟨i+1,by omega,rfl,rfl,by go_num,hal2,rfl⟩
    ·have hway:(∃h:i<r.size,((r[i].toNat:Int)==47)=true∧SPF s (r.extract 0 i) (r.extract (i+1) r.size) neg)∨(¬i<r.size∧SPF s r ⟨#[49]⟩ neg):=by
      by_cases hlt:i<r.size
      ·have h47:r[i]=47:=Classical.byContradiction fun h=>hcont ⟨hlt,h⟩
       refine .inl ⟨hlt,(HCS2.out i hlt).1 h47,sp_facts s _ _ neg ?_ (by rw[ByteArray.size_extract];omega) (by rw[ByteArray.size_extract];omega)⟩;rw[hcs.out,cut_first r i hlt (fun j hj=>hall.out j hj (by omega)) h47];rfl
      ·refine .inr ⟨hlt,sp_facts s r ⟨#[49]⟩ neg ?_ hrs (by decide)⟩;rw[hcs.out,cut_never r (fun j hj=>hall.out j (by omega) hj)];rfl
     have hw1:IntKind.i64.wrap ((i:Int)+1)=(i:Int)+1:=IntWalk.i64_in _ (by omega);clear hcont hcs hall HCS2 hs;rcases hway with⟨hlt,e4,hcu⟩|⟨hlt,hcu⟩
     all_goals
      obtain⟨pn,pd,tx,bn,bd,bm,d,m,HN,HD,HM,HT,e1,HP⟩:=hcu;obtain⟨mn,mu,md⟩:=m;unfold Ra.v at HM HT;simp only at HM HT HP;have e2:(tx.toList !=s.toList)= !d:=by rw[←e1];rfl
      go_wp2_with fail;refine (HN.out _).mono ?_;rintro e w3 ⟨rfl,hb3⟩;go_wp2_with fail;refine (HD.out _).mono ?_;rintro e w4 ⟨rfl,hb4⟩;have hb4:=bstep hb3 hb4;clear hb3 HN HD;have hbb:(bn=false∨bn=true∧bd=false)∨bn=true∧bd=true:=by cases bn<;>cases bd<;>simp
      rcases hbb with hbb|⟨rfl,rfl⟩
      ·have HP2:Hid (ratParse s=(⟨false,⟨#[]⟩,⟨#[]⟩⟩,false)):=by
        show _=_;rw[HP.out];rcases hbb with rfl|⟨rfl,rfl⟩<;>rfl
       have hk5:=HBK.out.below hb4 HBK.out.lt;have hc:=hk5.cells;have hf:=hk5.froz;have hB4:Below B w w4:=by rw[HB.out];exact bstep HBA.out hb4
       clear HP HM HT e1 e2;rcases hbb with rfl|⟨rfl,rfl⟩
       all_goals
        go_wp2_with fail;refine bodyPost_ret (v:=.tuple #[.agg #[.bool false,.string ⟨#[]⟩,.string ⟨#[]⟩],.bool false]) (by simp[results,Tryz.results120,go_sem,hc]) rfl ⟨?_,?_⟩
        ·rw[HP2.out];rfl
        ·rw[←HB.out];exact below_set3 hB4 _ _ _
      ·go_wp2_with fail;refine (HM.out _).mono ?_;rintro e w5 ⟨rfl,hb5⟩;have hbw:=bstep hb4 hb5;have hkB:=(HBK.out.below hbw HBK.out.lt).alloc (.cells #[.bool mn,.string mu,.string md] 31);have hc:=hkB.cells;have hf:=hkB.froz;have hkA:=Blk.new w5 31 #[.bool mn,.string mu,.string md];have hB5:Below B w (w5.alloc (.cells #[.bool mn,.string mu,.string md] 31)):=by rw[HB.out];exact (bstep HBA.out hbw).alloc (by have:=HBA.out.size;have:=hbw.size;omega) _
       have HBB:=Lib.hid hB5;have HAA:=Lib.hid hkA;have HKB:=Lib.hid hkB;clear hbw hb4 hb5 hkA hB5 hkB HM;cases bm
       ·have HP2:Hid (ratParse s=(⟨false,⟨#[]⟩,⟨#[]⟩⟩,false)):=HP.out;go_wp2_with fail;refine bodyPost_ret (v:=.tuple #[.agg #[.bool false,.string ⟨#[]⟩,.string ⟨#[]⟩],.bool false]) (by simp[results,Tryz.results120,go_sem,hc]) rfl ⟨?_,?_⟩
        ·rw[HP2.out];rfl
        ·rw[←HB.out];exact below_set3 HBB.out _ _ _
       ·go_wp2_with fail;refine (HT.out _).mono ?_;rintro e w7 ⟨rfl,hb7⟩;clear hc hf;have hkB:=HKB.out.below hb7 HKB.out.lt;have hkA:=HAA.out.below hb7 HAA.out.lt;have hbw:=HBB.out.trans (hb7.mono (Nat.le_of_lt HKB.out.lt));have hc:=hkB.cells;have hf:=hkB.froz;have hcA:=hkA.cells;have HBB:=Lib.hid hbw;clear hkA hkB hb7 hbw HT;cases d
        all_goals
         go_wp2_with fail;refine bodyPost_ret (v:=.tuple #[(ratParse s).1.v,.bool (ratParse s).2]) (by rw[HP.out];simp[results,Tryz.results120,go_sem,hc,Ra.v]) rfl ⟨rfl,?_⟩;rw[←HB.out];exact below_set3 HBB.out _ _ _
theorem span_take (cs s:List UInt8) (n:Nat) (hn:n≤s.length) (h:∀j (hj:j<n),cs.contains (s[j]'(by omega))=true) (he:∀h:n<s.length,cs.contains s[n]=false):spanW cs s=s.take n∧spanR cs s=s.drop n:=by
 have h1:=span_app cs (s.take n) (s.drop n) ?_ ?_
 ·rwa[List.take_append_drop] at h1
 ·intro c hc;obtain⟨j,hj,rfl⟩:=List.getElem_of_mem hc;rw[List.length_take] at hj;rw[List.getElem_take];exact h j (by omega)
 ·intro c hc;rw[List.head?_drop] at hc;obtain⟨h2,rfl⟩:=List.getElem?_eq_some_iff.1 hc;exact he h2
theorem ba_list {x:ByteArray} {l:List UInt8} (h:x.data.toList=l):(⟨l.toArray⟩:ByteArray)=x:=by subst h;rfl
theorem contains_succ (l:List UInt8) (k:Nat) (hk:k<l.length) (x:UInt8):(l.take (k+1)).contains x=((l.take k).contains x||x==l[k]):=by
 rw[List.take_succ_eq_append_getElem hk,Bool.eq_iff_iff,Bool.or_eq_true,List.contains_iff_mem,List.contains_iff_mem,List.mem_append,List.mem_singleton,beq_iff_eq]
set_option maxRecDepth 100000 in
set_option maxHeartbeats 1600000 in
theorem gWord_at (s cs:ByteArray) (R:Nat) (t:TypeId) (l:List Value) (w:World) (hR:Blk w R t (.string s::l)) (hs:s.size≤1048576) (hc:cs.size≤100):
  Calls Tryz.prog 93 #[.pointer (some ⟨R,0,none⟩),.string cs] w fun e w'=>e=.returned (.string ⟨(spanW cs.data.toList s.data.toList).toArray⟩)∧Blk w' R t (.string ⟨(spanR cs.data.toList s.data.toList).toArray⟩::l)∧Onl R w w':=by
 have HEND:∀n,n≤s.size→(∀j (hj:j<n) (h:j<s.size),cs.data.toList.contains s[j]=true)→(∀h:n<s.size,cs.data.toList.contains s[n]=false)→(⟨(spanW cs.data.toList s.data.toList).toArray⟩:ByteArray)=s.extract 0 n∧(⟨(spanR cs.data.toList s.data.toList).toArray⟩:ByteArray)=s.extract n s.size:=by
  intro n hn h1 h2;have hl:s.data.toList.length=s.size:=by simp
  obtain⟨e1,e2⟩:=span_take cs.data.toList s.data.toList n (by omega) (fun j hj=>h1 j hj (by omega)) (fun h=>h2 (by omega));rw[e1,e2];exact⟨ba_list (ext_take s n),ba_list (ext_drop s n)⟩
 have HEND:=Lib.hid HEND;have HR0:=Lib.hid hR;generalize (⟨(spanW cs.data.toList s.data.toList).toArray⟩:ByteArray)=sw at*;generalize (⟨(spanR cs.data.toList s.data.toList).toArray⟩:ByteArray)=sr at*;clear hR;go_enter Tryz.func93,Tryz.ntmps93;go_wp2
 go_loopg [5] s.size (fun g nv wr=>∃n:Nat,n+g=s.size∧nv=.int .i64 n∧Hid (∀j (hj:j<n) (h:j<s.size),cs.data.toList.contains s[j]=true)∧Hid (Blk wr R t (.string s::l))∧Hid (Onl R w wr))
 case atStart=>exact⟨0,by omega,rfl,(fun j hj=>absurd hj (by omega)),HR0,Onl.refl _ _⟩
 case round=>
  obtain⟨n,hn,rfl,hall,hk,ho⟩:=hrel;have hc:=hk.out.cells;have hf:=hk.out.froz;by_cases hlt:n<s.size
  ·go_wp2;clear hc hf
   go_loopg [6,7] cs.size (fun g bv kv wi=>∃(k:Nat) (b:Bool),k+g=cs.size∧kv=.int .i64 k∧bv=.bool b∧Hid (b=(cs.data.toList.take k).contains s[n])∧Hid (Blk wi R t (.string s::l))∧Hid (Onl R w wi))
   case atStart=>exact⟨0,false,by omega,rfl,rfl,rfl,hk,ho⟩
   case round=>
    obtain⟨k,b,hkk,rfl,rfl,hb,hki,hoi⟩:=hrel;clear hk ho;have hc:=hki.out.cells;have hf:=hki.out.froz;by_cases hkl:k<cs.size
    ·have hcl:cs.data.toList.length=cs.size:=by simp
     obtain⟨dq,hdq⟩:∃dq,((s[n].toNat:Int)==(cs[k].toNat:Int))=dq:=⟨_,rfl⟩
     have HSU:Hid ((cs.data.toList.take (k+1)).contains s[n]=(b||dq)):=by
      show _=_;rw[contains_succ _ _ (by omega),hb.out,←hdq];congr 1;rw[Bool.eq_iff_iff,beq_iff_eq,beq_iff_eq];exact⟨fun e=>by rw[e];rfl,fun e=>UInt8.toNat_inj.1 (by rw[at_list cs k hkl];omega)⟩
     clear hb;cases b
     all_goals
      go_wp2_with fail;go_quiet (fail);clear hc hf;go_wp2
      go_roundg (cs.size-(k+1))
      case measure=>omega
      case rel=>exact⟨k+1,_,by omega,by go_num,rfl,by show _=_;rw[HSU.out];rfl,hki.out.drewN _,hoi.out.drewN _⟩
    ·have hb2:Hid (b=cs.data.toList.contains s[n]):=by show _=_;rw[hb.out,List.take_of_length_le (by simp;omega)]
     have hx:decide (k<cs.size)=false:=decide_eq_false hkl;clear hb;cases b
     ·obtain⟨e1,e2⟩:=HEND.out n (by omega) hall.out (fun _=>hb2.out.symm);go_wp2;go_ret;exact⟨by rw[e1];rfl,by rw[e2];exact hki.out.set 0 _,hoi.out.set 0 _⟩
     ·clear hc hf;go_wp2
      go_roundg (s.size-(n+1))
      case measure=>omega
      case rel=>
       refine⟨n+1,by omega,by go_num,fun j hj h=>?_,hki,hoi⟩;by_cases hjn:j<n
       ·exact hall.out j hjn h
       ·obtain rfl:j=n:=by omega
        exact hb2.out.symm
  ·obtain⟨e1,e2⟩:=HEND.out n (by omega) hall.out (fun h=>absurd h hlt);have hx:decide (n<s.size)=false:=decide_eq_false hlt;go_wp2;go_ret;exact⟨by rw[e1];rfl,by rw[e2];exact hk.out.set 0 _,ho.out.set 0 _⟩
theorem begB_list (s p:List UInt8):begB ⟨s.toArray⟩ ⟨p.toArray⟩=Lib.hasPrefix s p∧(⟨s.toArray⟩:ByteArray).extract (⟨p.toArray⟩:ByteArray).size (⟨s.toArray⟩:ByteArray).size=⟨(s.drop p.length).toArray⟩:=by
 constructor
 ·unfold begB Lib.hasPrefix;have e1:(⟨s.toArray⟩:ByteArray).extract 0 (⟨p.toArray⟩:ByteArray).size=⟨(s.take p.length).toArray⟩:=(ba_list (ext_take _ _)).symm;rw[e1,Bool.eq_iff_iff,Bool.and_eq_true,decide_eq_true_eq,decide_eq_true_eq,List.isPrefixOf_iff_prefix,List.prefix_iff_eq_take];constructor
  ·rintro⟨_,h⟩;have:=congrArg (fun b:ByteArray=>b.data.toList) h;simpa using this.symm
  ·intro h;refine⟨?_,by rw[←h]⟩;have:=congrArg List.length h;rw[List.length_take] at this;show p.length≤s.length;omega
 ·exact (ba_list (ext_drop _ _)).symm
theorem gIs_at (s p:List UInt8) (R:Nat) (t:TypeId) (l:List Value) (w:World) (hR:Blk w R t (.string ⟨s.toArray⟩::l)):
  Calls Tryz.prog 91 #[.pointer (some ⟨R,0,none⟩),.string ⟨p.toArray⟩] w fun e w'=>e=.returned (.bool (Lib.hasPrefix s p))∧Blk w' R t (.string ⟨(if Lib.hasPrefix s p then s.drop p.length else s).toArray⟩::l)∧Onl R w w':=
 (gIs_any ⟨s.toArray⟩ ⟨p.toArray⟩ R t l w hR).mono (by
   obtain⟨h1,h2⟩:=begB_list s p;rw[h1,h2];rintro e w' ⟨rfl,rfl⟩;cases Lib.hasPrefix s p
   ·exact⟨rfl,hR,Onl.refl _ _⟩
   ·exact⟨rfl,hR.set 0 _,(Onl.refl _ _).set 0 _⟩)
theorem span_congr {cs ds:List UInt8} (h:∀c,cs.contains c=ds.contains c) (s:List UInt8):spanW cs s=spanW ds s∧spanR cs s=spanR ds s:=by
 have:(cs.contains ·)=(ds.contains ·):=funext h;unfold spanW spanR;rw[this];exact⟨rfl,rfl⟩
theorem num_same (c:UInt8):([45,48,49,50,51,52,53,54,55,56,57,47]:List UInt8).contains c=numL.contains c:=mem_small (fun c=>([45,48,49,50,51,52,53,54,55,56,57,47]:List UInt8).contains c) (numL.contains ·) (by decide+kernel) c
def numG (s:List UInt8):Ra × Bool:=ratParse ⟨(spanW numL s).toArray⟩
set_option maxRecDepth 100000 in
set_option maxHeartbeats 1600000 in
theorem gNumber_at (s:List UInt8) (R:Nat) (v:Value) (b:Int) (w:World) (hR:Blk w R 87 [.string ⟨s.toArray⟩,v,.int .i64 b,.bool false]) (hs:s.length≤1000000):
  Calls Tryz.prog 92 #[.pointer (some ⟨R,0,none⟩)] w fun e w'=>e=.returned (numG s).1.v∧Blk w' R 87 [.string ⟨(spanR numL s).toArray⟩,v,.int .i64 b,.bool (!(numG s).2)]∧Onl R w w':=by
 have hws:(spanW numL s).length≤1000000:=Nat.le_trans (List.takeWhile_sublist _).length_le hs;have HW:=fun (W:World) (h:Blk W R 87 [.string ⟨s.toArray⟩,v,.int .i64 b,.bool false])=>gWord_at ⟨s.toArray⟩ ⟨#[45,48,49,50,51,52,53,54,55,56,57,47]⟩ R _ _ W h (by show s.length≤_;omega) (by decide)
 obtain⟨e1,e2⟩:=span_congr num_same s;have e1':spanW (⟨#[45,48,49,50,51,52,53,54,55,56,57,47]⟩:ByteArray).data.toList (⟨s.toArray⟩:ByteArray).data.toList=spanW numL s:=e1;have e2':spanR (⟨#[45,48,49,50,51,52,53,54,55,56,57,47]⟩:ByteArray).data.toList (⟨s.toArray⟩:ByteArray).data.toList=spanR numL s:=e2;simp only[e1',e2'] at HW;have HQ:=fun (W:World)=>sParse_any ⟨(spanW numL s).toArray⟩ W (by show (spanW numL s).length≤_;omega)
 unfold numG;generalize ratParse ⟨(spanW numL s).toArray⟩=q at*;generalize (⟨(spanW numL s).toArray⟩:ByteArray)=sw at*;generalize (⟨(spanR numL s).toArray⟩:ByteArray)=sr at*;obtain⟨⟨vn,vu,vd⟩,vb⟩:=q;unfold Ra.v at HQ⊢;simp only at HQ⊢;have HW:=Lib.hid HW;have HQ:=Lib.hid HQ;clear e1 e2 e1' e2' hws hs;obtain⟨W,hW⟩:∃W,W=w.alloc (.cells #[.bool false,.string ⟨#[]⟩,.string ⟨#[]⟩] 31):=⟨_,rfl⟩
 have hba:Below w.heap.size w W:=by rw[hW];exact (Below.refl _ _).alloc (Nat.le_refl _) _
 have hk0:Blk W w.heap.size 31 [.bool false,.string ⟨#[]⟩,.string ⟨#[]⟩]:=by rw[hW];exact Blk.new w _ _
 have hsz:W.heap.size=w.heap.size+1:=by rw[hW];exact Array.size_push _
 obtain⟨B,hB⟩:∃B,B=w.heap.size:=⟨_,rfl⟩
 have HB:=Lib.hid hB;rw[←hB] at hba hsz hk0;have hRB:R<B:=by rw[HB.out];exact hR.lt
 have hRW:=hR.below hba hRB;have HOW:Hid (Onl R w W):=Onl.of_below (by rw[←HB.out];exact hba);clear hR hba;cases vb
 all_goals
  go_enter Tryz.func92,Tryz.ntmps92;go_wp2_with fail;simp only[←hW,←hB]
  clear hW hB;refine (HW.out _ hRW).mono ?_;rintro e w1 ⟨rfl,hk1,ho1⟩;have hr1:=ho1.blk hk0 (by omega);have HO1:=Lib.hid (HOW.out.trans ho1);clear hk0 hRW HOW ho1;go_wp2_with fail;refine (HQ.out _).mono ?_;rintro e w2 ⟨rfl,hb2⟩;have hr2:=(hr1.below hb2 hr1.lt).alloc (.cells #[.bool vn,.string vu,.string vd] 31);have hk2:=(hk1.below hb2 hk1.lt).alloc (.cells #[.bool vn,.string vu,.string vd] 31);have HO2:Hid (Onl R w (w2.alloc (.cells #[.bool vn,.string vu,.string vd] 31))):=(HO1.out.trans (Onl.of_below hb2)).trans (Onl.of_below ((Below.refl _ _).alloc (Nat.le_refl _) _));have HK2:=Lib.hid hk2;have hc:=hr2.cells;have hf:=hr2.froz;have hcR:=hk2.cells;have hfR:=hk2.froz;clear hr1 hk1 HO1 hb2 hr2 hk2;go_wp2
 ·refine bodyPost_ret (v:=.agg #[.bool vn,.string vu,.string vd]) (by simp[results,Tryz.results92,go_sem,hc]) rfl ⟨rfl,?_,?_⟩
  ·exact (((HK2.out.set 3 _).other (p:=⟨B,0,none⟩) (by show R≠B;omega) _).other (p:=⟨B,1,none⟩) (by show R≠B;omega) _).other (p:=⟨B,2,none⟩) (by show R≠B;omega) _
  ·have h:=HB.out;exact (((HO2.out.set 3 _).fresh (by omega) 0 _).fresh (by omega) 1 _).fresh (by omega) 2 _
 ·refine bodyPost_ret (v:=.agg #[.bool vn,.string vu,.string vd]) (by simp[results,Tryz.results92,go_sem,hc]) rfl ⟨rfl,?_,?_⟩
  ·exact ((HK2.out.other (p:=⟨B,0,none⟩) (by show R≠B;omega) _).other (p:=⟨B,1,none⟩) (by show R≠B;omega) _).other (p:=⟨B,2,none⟩) (by show R≠B;omega) _
  ·have h:=HB.out;exact ((HO2.out.fresh (by omega) 0 _).fresh (by omega) 1 _).fresh (by omega) 2 _
theorem parA_cash (f:Nat) (s l:List UInt8) (ns:List Nd) (b:Nat) (hb:b≤59) (h:Lib.hasPrefix s [36]=true) (hl:s.drop 1=l):parA (f+1) s ns b=if !(numG l).2 then none else some (spanR numL l,ns++[nd 1 (numG l).1 []],b+1):=by
 rw[parA,if_neg (by omega)];unfold litA numA numG;rw[h,if_pos rfl,hl];cases (ratParse ⟨(spanW numL l).toArray⟩).2<;>rfl
theorem ratParse_slash (m:List UInt8):(ratParse ⟨(47::m).toArray⟩).2=false:=by
 have h:cutR (47::m)=(false,[],m):=by
  unfold cutR;have h1:Lib.hasPrefix (47::m) [45]=false:=by rw[prefix_one];rfl
  have h2:Lib.trimPrefix (47::m) [45]=47::m:=by unfold Lib.trimPrefix;rw[h1];rfl
  have h3:=cut_at [] m (fun c hc=>by simp at hc);rw[h1,h2,show (47::m)=[]++([47]++m) from rfl,h3];rfl
 unfold ratParse;have e:(⟨(47::m).toArray⟩:ByteArray).data.toList=47::m:=rfl;rw[e,h];have:(natParse []).2=false:=by decide+kernel
 simp[this]
theorem span_not {cs:List UInt8} {c:UInt8} {l:List UInt8} (h:cs.contains c=false):spanW cs (c::l)=[]∧spanR cs (c::l)=c::l:=by
 have h2:¬(cs.contains c=true):=by rw[h];simp
 exact⟨List.takeWhile_cons_of_neg h2,List.dropWhile_cons_of_neg h2⟩
theorem parA_num (f:Nat) (c:UInt8) (l:List UInt8) (ns:List Nd) (b:Nat) (hb:b≤59) (h:Lib.hasPrefix (c::l) [36]=false) (hc:c.toNat<97):parA (f+1) (c::l) ns b=
  if !(numG (c::l)).2 then none else if Lib.hasPrefix (spanR numL (c::l)) [100] then some ((spanR numL (c::l)).drop 1,ns++[nd 2 (numG (c::l)).1 []],b+1) else some (spanR numL (c::l),ns++[nd 3 (numG (c::l)).1 []],b+1):=by
 have hlet:lettersL.contains c=false:=by
  rw[letters_mem];simp only[letterC,Bool.and_eq_false_iff,decide_eq_false_iff_not];left;omega
 rw[parA,if_neg (by omega)];cases hl:litL.contains c
 ·have hz:(numG (c::l)).2=false:=by
   unfold numG;by_cases h47:c=47
   ·subst h47;have:spanW numL (47::l)=47::spanW numL l:=List.takeWhile_cons_of_pos (by rfl);rw[this];exact ratParse_slash _
   ·have hn:numL.contains c=false:=by
     have h1:=lit_mem c;rw[hl] at h1;have h2:numL.contains c=(litL.contains c||decide (c=47)):=mem_small (numL.contains ·) (fun c=>litL.contains c||decide (c=47)) (by decide+kernel) c;rw[h2,hl,decide_eq_false h47];rfl
    rw[(span_not hn).1];decide+kernel
  have hq:litA (c::l)=some none:=by
   unfold litA;rw[h];simp only[Bool.false_eq_true,if_false,List.headD_cons,hl]
   simp
  rw[hz,hq];obtain⟨e1,e2⟩:=span_not (l:=l) hlet
  have hd:placeOf ⟨(dotA (c::l)).1.toArray⟩<0:=by
   unfold dotA;rw[e1,e2];split
   ·show placeOf ⟨#[46]⟩<0;decide+kernel
   ·show placeOf ⟨#[]⟩<0;decide+kernel
  simp only[Option.bind_some,e1]
  rw[if_neg (by decide),if_neg (by decide),if_pos hd];rfl
 ·unfold litA numA numG;rw[h];simp only[Bool.false_eq_true,if_false,List.headD_cons,hl]
  cases (ratParse ⟨(spanW numL (c::l)).toArray⟩).2
  ·rfl
  ·cases hp:Lib.hasPrefix (spanR numL (c::l)) [100]
   ·simp[hp]
   ·simp[hp]
theorem litA_big {c:UInt8} {l:List UInt8} (hc:97≤c.toNat):litA (c::l)=some none:=by
 have h1:Lib.hasPrefix (c::l) [36]=false:=by
  rw[prefix_one];simp only[List.head?_cons,beq_eq_false_iff_ne,ne_eq,Option.some.injEq]
  rintro rfl;revert hc;decide
 have h2:litL.contains c=false:=by
  rw[lit_mem];simp only[isDig,Bool.or_eq_false_iff,Bool.and_eq_false_iff,decide_eq_false_iff_not]
  refine⟨.inr (by omega),?_⟩;rintro rfl;revert hc;decide
 unfold litA;rw[h1];simp only[Bool.false_eq_true,if_false,List.headD_cons,h2]
 simp
theorem parA_word (f:Nat) {c:UInt8} {l:List UInt8} (ns:List Nd) (b:Nat) (hb:b≤59) (hc:97≤c.toNat):parA (f+1) (c::l) ns b=
  if spanW lettersL (c::l)=yesL then some (spanR lettersL (c::l),ns++[nd 4 (ofI 1) []],b+1)
  else if spanW lettersL (c::l)=noL then some (spanR lettersL (c::l),ns++[nd 4 (ofI 0) []],b+1)
  else if placeOf ⟨(dotA (c::l)).1.toArray⟩<0 then none else tailA (parA f) (placeOf ⟨(dotA (c::l)).1.toArray⟩) (dotA (c::l)).2 ns (b+1):=by
 rw[parA,if_neg (by omega),litA_big hc];rfl
theorem dot_mem (s:List UInt8):∀c∈(dotA s).1,lettersL.contains c=true∨c=46:=by
 have h:∀c∈spanW lettersL s,lettersL.contains c=true:=fun c hc=>List.all_eq_true.1 (List.all_takeWhile (p:=(lettersL.contains ·)) (l:=s)) c hc
 intro c hc;unfold dotA at hc;split at hc
 ·rcases List.mem_append.1 hc with hc|hc
  ·exact .inl (h c hc)
  ·exact .inr (by simpa using hc)
 ·exact .inl (h c hc)
theorem place_ge {s:List UInt8} {k:Nat} (h:placeOf ⟨(dotA s).1.toArray⟩=(k:Int)):5≤k∧k≤24:=by
 obtain⟨h1,h2,h3⟩:=place_spec h;refine⟨Classical.byContradiction fun hk=>?_,by omega⟩;have hall:∀j∈List.range 5,(shp (j:Int)).word=[]∨(shp (j:Int)).word=[36]:=by decide
 rcases hall k (List.mem_range.2 (by omega)) with h4|h4
 ·exact h3 (by rw[←h2,h4])
 ·have:=dot_mem s 36 (by rw[←h2,h4];simp);rcases this with h|h<;>revert h<;>decide
theorem place_at {q:List UInt8} {k:Nat} (hk:5≤k∧k≤24):(shp (k:Int)).word=q↔placeOf ⟨q.toArray⟩=(k:Int):=by
 constructor
 ·rintro rfl;exact (word_facts (k:Int) (by omega)).2.2.2.2.2
 ·intro h;exact (place_spec h).2.1
structure GS (R:Nat) (w:World) (v:Value) (s:List UInt8) (ns:List Nd) (b:Int) (bad:Bool) (w':World) (v':Value):Prop where
 blk:Blk w' R 87 [.string ⟨s.toArray⟩,v',.int .i64 b,.bool bad]
 own:w'.ownsRow (R+1) 33 5 v' ns.length (nds ns)
 pf:PF R w v w' v'
theorem own_onlG {R n sz:Nat} {e:TypeId} {w w':World} {v:Value} {xs:List Value} (h:w.ownsRow (R+1) e sz v n xs) (ho:Onl R w w'):w'.ownsRow (R+1) e sz v n xs:=
 h.kept (row:=some R) ⟨ho.os,ho.tape,ho.output,ho.size,fun k hk hne=>ho.block k hk (fun h=>hne (by rw[h]))⟩ (by
  cases hv:v.ownBlock with
  |none=>exact .inl rfl
  |some g=>exact .inr (by intro h';injection h' with h';have:=(h.lt g hv).1;omega))
theorem GS.onl {R:Nat} {w w1 w2:World} {v v1:Value} {s s2:List UInt8} {ns:List Nd} {b b2:Int} {bad bad2:Bool} (h:GS R w v s ns b bad w1 v1) (ho:Onl R w1 w2)
  (hk:Blk w2 R 87 [.string ⟨s2.toArray⟩,v1,.int .i64 b2,.bool bad2]):GS R w v s2 ns b2 bad2 w2 v1:=
 ⟨hk,own_onlG h.own ho,h.pf.trans (PF.of_onl ho)⟩
theorem GS.below {R:Nat} {w w1 w2:World} {v v1:Value} {s:List UInt8} {ns:List Nd} {b:Int} {bad:Bool} (h:GS R w v s ns b bad w1 v1) (hb:Below w1.heap.size w1 w2):GS R w v s ns b bad w2 v1:=
 h.onl (Onl.of_below hb) (h.blk.below hb h.blk.lt)
theorem GS.alloc {R:Nat} {w w1:World} {v v1:Value} {s:List UInt8} {ns:List Nd} {b:Int} {bad:Bool} (h:GS R w v s ns b bad w1 v1) (o:Obj):GS R w v s ns b bad (w1.alloc o) v1:=
 h.below ((Below.refl _ _).alloc (Nat.le_refl _) _)
theorem GS.drew {R:Nat} {w w1:World} {v v1:Value} {s:List UInt8} {ns:List Nd} {b:Int} {bad:Bool} (h:GS R w v s ns b bad w1 v1):GS R w v s ns b bad w1.drew v1:=
 h.onl (Onl.refl _ _).drew h.blk.drew
def GPost (r:Option PS) (R:Nat) (v:Value) (w:World) (e:Ending) (w':World):Prop:=
 e=.returned (.tuple #[])∧match r with
 |none=>∃a c d,Blk w' R 87 [a,c,d,.bool true]∧Below R w w'
 |some q=>∃v',GS R w v q.1 q.2.1 (q.2.2:Int) false w' v'
theorem GS.bad {R n:Nat} {w w1:World} {v v1:Value} {s:List UInt8} {ns:List Nd} {b:Int} {xs:List Value} (hw:w.ownsRow (R+1) 33 5 v n xs) (hR:R≤w.heap.size) (h:GS R w v s ns b true w1 v1):GPost none R v w (.returned (.tuple #[])) w1:=
 ⟨rfl,_,_,_,h.blk,h.pf.below hw (Nat.le_refl _) hR⟩
theorem GS.fin {R n:Nat} {w w1:World} {v v1:Value} {s:List UInt8} {ns:List Nd} {b:Nat} {bad:Bool} {xs:List Value} (hw:w.ownsRow (R+1) 33 5 v n xs) (hR:R≤w.heap.size) (h:GS R w v s ns b bad w1 v1) {r:Option PS} (hr:r=if bad then none else some (s,ns,b)):GPost r R v w (.returned (.tuple #[])) w1:=by
 subst hr;cases bad
 ·exact⟨rfl,v1,h⟩
 ·exact h.bad hw hR
theorem step_push_nd {R:Nat} {w:World} {v v1:Value} {s:List UInt8} {ns:List Nd} {b:Int} {bad:Bool} (W:World) (nd:Nd) (hg:GS R w v s ns b bad W v1) {ops:Array Oper} {o:Oper} {a:Act} {K:Act→World→Prop} {Q:Exit→Act→World→Prop} {E:Prop} (hgd:o.guard=none) (p x:Operand)
  (ho:o.op=.call {callee:=.builtin .append,args:=#[p,x],argTypes:=#[22,22]}) (hs:a.eval p=v1) (hx:a.eval x=.slice (some ⟨W.heap.size,0,none⟩) 1 1) (hn:ns.length≤1000)
  (h:∀g c w',GS R w v s (ns++[nd]) b bad (w'.setCell ⟨R,1,none⟩ (.slice (some ⟨g,0,none⟩) (ns.length+1) c)) (.slice (some ⟨g,0,none⟩) (ns.length+1) c)→Blk w' R 87 [.string ⟨s.toArray⟩,v1,.int .i64 b,.bool bad]→K (a.put o.dst (.slice (some ⟨g,0,none⟩) (ns.length+1) c)) w'):
  if Region.wanted o (yielded ops a.tmps)=true then Oper.wp Tryz.prog o a (W.alloc (.cells nd.cells.toArray 33)) K Q else E:=by
 have hR:=hg.blk.lt;refine step_push_at W nd.cells.toArray hgd p x 22 ho (R+1) 33 (.agg #[.int .i64 0,.bool false,.string ⟨#[]⟩,.string ⟨#[]⟩,.string ⟨#[]⟩]) 5 64 1 Tryz.underlying22 info_node rfl (by decide) v1 ns.length (nds ns) hs hg.own hx rfl (by simp[Nd.cells,Value.oneCell']) (by unfold maxLen;omega) (by omega) hR ?_;intro v5 w5 hown hgr hv;obtain⟨g,c,rfl,_⟩:=own_form hown (by omega);have hk:=hg.blk.of_block (hgr.block R hR (fun h=>by have:=(hg.own.lt R h.symm).1;omega));refine h g c w5 ⟨hk.set 1 _,?_,hg.pf.trans (PF.push hgr hv 1 _)⟩ hk;rw[List.length_append,nds_snoc];exact own_set hown 1 _
theorem parA_over (f:Nat) (s:List UInt8) (ns:List Nd) (b:Nat) (h:60≤b∨s=[]):parA f s ns b=none:=by
 cases f with
 |zero=>rfl
 |succ f=>
  rw[parA];rcases h with h|rfl
  ·rw[if_pos (by omega)]
  ·split
   ·rfl
   ·rfl
set_option maxRecDepth 100000 in
set_option maxHeartbeats 1600000 in
theorem gx_over (R:Nat) (s:List UInt8) (ns:List Nd) (b:Nat) (v:Value) (w:World) (h0:GS R w v s ns b false w v) (hs:s.length≤1000000) (hb:b≤60) (h:b=60∨s=[]):
  Calls Tryz.prog 54 #[.pointer (some ⟨R,0,none⟩)] w (GPost none R v w):=by
 have hc:=h0.blk.cells;have hf:=h0.blk.froz;have hg:GS R w v s ns ((b:Int)+1) true ((w.setCell ⟨R,2,none⟩ (.int .i64 ((b:Int)+1))).setCell ⟨R,3,none⟩ (.bool true)) v:=h0.onl (((Onl.refl R w).set 2 _).set 3 _) ((h0.blk.set 2 _).set 3 _);have HG:=Lib.hid (hg.bad h0.own (Nat.le_of_lt h0.blk.lt));have hw1:IntKind.i64.wrap ((b:Int)+1)=(b:Int)+1:=IntWalk.i64_in _ (by omega);clear hg h0;have hl:(⟨s.toArray⟩:ByteArray).size=s.length:=rfl;cases s with
 |nil=>
  clear h hs;go_enter Tryz.func54,Tryz.ntmps54;go_wp2
  first|go_end0|refine bodyPost_ret (results_none rfl _ _ _) rfl ?_
  exact HG.out
 |cons c l=>
  obtain rfl:b=60:=by rcases h with h|h;exact h;cases h
  have hne:(((⟨(c::l).toArray⟩:ByteArray).size:Int)==0)=false:=by rw[beq_eq_false_iff_ne,hl,List.length_cons];omega
  clear hs;generalize (⟨(c::l).toArray⟩:ByteArray)=bs at*;clear hl;go_enter Tryz.func54,Tryz.ntmps54;go_wp2
  first|go_end0|refine bodyPost_ret (results_none rfl _ _ _) rfl ?_
  exact HG.out
set_option maxRecDepth 100000 in
set_option maxHeartbeats 3200000 in
theorem gx_cash (f:Nat) (R:Nat) (s:List UInt8) (ns:List Nd) (b:Nat) (v:Value) (w:World) (h0:GS R w v s ns b false w v) (hs:s.length≤1000000) (hb:b≤59) (hns:ns.length≤60) (h:Lib.hasPrefix s [36]=true):
  Calls Tryz.prog 54 #[.pointer (some ⟨R,0,none⟩)] w (GPost (parA (f+1) s ns b) R v w):=by
 have hc:=h0.blk.cells;have hf:=h0.blk.froz;have hb1:((b:Int)+1)≤60:=by omega
 have hw1:IntKind.i64.wrap ((b:Int)+1)=(b:Int)+1:=IntWalk.i64_in _ (by omega);have hl:(⟨s.toArray⟩:ByteArray).size=s.length:=rfl
 have hne:(((⟨s.toArray⟩:ByteArray).size:Int)==0)=false:=by
  rw[beq_eq_false_iff_ne,hl];intro h1;rw[List.eq_nil_of_length_eq_zero (by omega:s.length=0)] at h;cases h
 obtain⟨W1,hW1⟩:∃W1,W1=w.setCell ⟨R,2,none⟩ (.int .i64 ((b:Int)+1)):=⟨_,rfl⟩
 have hg1:GS R w v s ns ((b:Int)+1) false W1 v:=by rw[hW1];exact h0.onl ((Onl.refl R w).set 2 _) (h0.blk.set 2 _)
 have hd:(s.drop 1).length≤1000000:=by rw[List.length_drop];omega
 have HA:=Lib.hid (parA_cash f s _ ns b hb h rfl);have HIS:=fun (W:World) (hk:Blk W R 87 [.string ⟨s.toArray⟩,v,.int .i64 ((b:Int)+1),.bool false])=>gIs_at s [36] R _ _ W hk
 rw[h] at HIS;simp only[if_true,List.length_cons,List.length_nil] at HIS;have HNU:=fun (W:World) (hk:Blk W R 87 [.string ⟨(s.drop 1).toArray⟩,v,.int .i64 ((b:Int)+1),.bool false])=>gNumber_at (s.drop 1) R v ((b:Int)+1) W hk hd
 have HIS:=Lib.hid HIS;have HNU:=Lib.hid HNU;have HOW:=Lib.hid h0.own;have HRL:=Lib.hid (Nat.le_of_lt h0.blk.lt);generalize spanR numL (s.drop 1)=rs at*;generalize numG (s.drop 1)=q at*;obtain⟨⟨an,au,ad⟩,ok⟩:=q;unfold Ra.v at HNU;simp only at HNU HA;clear h0 hl h;generalize (⟨s.toArray⟩:ByteArray)=bs at hc hne;go_enter Tryz.func54,Tryz.ntmps54;go_wp2_with fail;simp only[←hW1]
 clear hW1 hc hf;refine (HIS.out _ hg1.blk).mono ?_;rintro e w2 ⟨rfl,hk2,ho2⟩;have hg2:=hg1.onl ho2 hk2;have hc:=hk2.cells;have hf:=hk2.froz;have HG2:=Lib.hid hg2;clear hg1 ho2 hk2 hg2 HIS hne;go_wp2_with fail;clear hc hf;have hc:=HG2.out.drew.blk.cells;have hf:=HG2.out.drew.blk.froz
 go_region_law (first
  |(refine step_push_nd _ ⟨1,⟨an,au,ad⟩,⟨#[]⟩⟩ HG3.out (by rfl) _ _ (by rfl) (by rfl) (by rfl) (by omega) ?_;intro g c w5 hg5 hk5;have hc:=hk5.cells;have hf:=hk5.froz;have HG5:=Lib.hid hg5;clear hg5 hk5)
  |(go_simp;go_at_call 92;refine (HNU.out _ HG2.out.drew.blk).mono ?_;rintro e w3 ⟨rfl,hk3,ho3⟩;have HG3:=Lib.hid (HG2.out.drew.onl ho3 hk3);have hc:=hk3.cells;have hf:=hk3.froz;have hca:=(hk3.alloc (.cells #[.int .i64 1,.bool an,.string au,.string ad,.string ⟨#[]⟩] 33)).cells;clear hk3 ho3))
 all_goals
  go_wp2
  first|go_end0|refine bodyPost_ret (results_none rfl _ _ _) rfl ?_
  exact GS.fin (b:=b+1) HOW.out HRL.out HG5.out HA.out
set_option maxRecDepth 100000 in
set_option maxHeartbeats 3200000 in
theorem gx_num (f:Nat) (R:Nat) (c:UInt8) (l:List UInt8) (ns:List Nd) (b:Nat) (v:Value) (w:World) (h0:GS R w v (c::l) ns b false w v) (hs:(c::l).length≤1000000) (hb:b≤59) (hns:ns.length≤60) (h:Lib.hasPrefix (c::l) [36]=false) (hc97:c.toNat<97):
  Calls Tryz.prog 54 #[.pointer (some ⟨R,0,none⟩)] w (GPost (parA (f+1) (c::l) ns b) R v w):=by
 have hc:=h0.blk.cells;have hf:=h0.blk.froz;have hb1:((b:Int)+1)≤60:=by omega
 have hw1:IntKind.i64.wrap ((b:Int)+1)=(b:Int)+1:=IntWalk.i64_in _ (by omega);obtain⟨W1,hW1⟩:∃W1,W1=w.setCell ⟨R,2,none⟩ (.int .i64 ((b:Int)+1)):=⟨_,rfl⟩
 have hg1:GS R w v (c::l) ns ((b:Int)+1) false W1 v:=by rw[hW1];exact h0.onl ((Onl.refl R w).set 2 _) (h0.blk.set 2 _)
 have HA:=Lib.hid (parA_num f c l ns b hb h hc97);obtain⟨bs,hbs⟩:∃bs:ByteArray,(⟨(c::l).toArray⟩:ByteArray)=bs:=⟨_,rfl⟩
 have hne:((bs.size:Int)==0)=false:=by rw[beq_eq_false_iff_ne,←hbs];show ((l.length+1:Nat):Int)≠0;omega
 have h0s:0<bs.size:=by rw[←hbs];exact Nat.succ_pos _
 have hlt:(bs[0].toNat:Int)<97:=by subst hbs;show (c.toNat:Int)<97;omega
 generalize c::l=s at*;have HIS:=fun (W:World) (hk:Blk W R 87 [.string ⟨s.toArray⟩,v,.int .i64 ((b:Int)+1),.bool false])=>gIs_at s [36] R _ _ W hk
 rw[h] at HIS;simp only[Bool.false_eq_true,if_false] at HIS;have HNU:=fun (W:World) (hk:Blk W R 87 [.string ⟨s.toArray⟩,v,.int .i64 ((b:Int)+1),.bool false])=>gNumber_at s R v ((b:Int)+1) W hk hs
 have HIS:=Lib.hid HIS;have HNU:=Lib.hid HNU;have HOW:=Lib.hid h0.own;have HRL:=Lib.hid (Nat.le_of_lt h0.blk.lt);generalize spanR numL s=rs at*;generalize numG s=q at*;obtain⟨⟨an,au,ad⟩,ok⟩:=q;unfold Ra.v at HNU;simp only at HNU HA;have HID:=Lib.hid (fun (W:World) (hk:Blk W R 87 [.string ⟨rs.toArray⟩,v,.int .i64 ((b:Int)+1),.bool (!ok)])=>gIs_at rs [100] R _ _ W hk);rw[hbs] at hc;have HBS:=Lib.hid hbs;clear h0 h hbs hs hc97;go_enter Tryz.func54,Tryz.ntmps54;go_wp2_with fail;simp only[←hW1]
 clear hW1 hc hf;refine (HIS.out _ hg1.blk).mono ?_;rintro e w2 ⟨rfl,hk2,ho2⟩;have hg2:=hg1.onl ho2 hk2;have hc:=hk2.cells;rw[HBS.out] at hc;have HG2:=Lib.hid hg2;clear hg1 ho2 hk2 hg2 HIS hne;go_wp2_with fail;refine (HNU.out _ HG2.out.blk).mono ?_;rintro e w3 ⟨rfl,hk3,ho3⟩;have HG3:=Lib.hid (HG2.out.onl ho3 hk3);clear hk3 ho3 hc;obtain⟨W3,hW3⟩:∃W3,W3=w3.alloc (.cells #[.bool an,.string au,.string ad] 31):=⟨_,rfl⟩
 obtain⟨N,hN⟩:∃N,N=w3.heap.size:=⟨_,rfl⟩
 have hg3:=HG3.out.alloc (.cells #[.bool an,.string au,.string ad] 31);have hkN:Blk W3 N 31 [.bool an,.string au,.string ad]:=by rw[hW3,hN];exact Blk.new w3 _ _
 have hRN:R<N:=by rw[hN];exact HG3.out.blk.lt
 rw[←hW3] at hg3;go_wp2_with fail;simp only[←hW3,←hN]
 clear hW3 hN;refine (HID.out _ hg3.blk).mono ?_;rintro e w4 ⟨rfl,hk4,ho4⟩;have hkN4:=ho4.blk hkN (by omega);have HG4:=Lib.hid (hg3.onl ho4 hk4);have HKN:=Lib.hid hkN4;clear hk4 ho4 hg3 hkN hkN4 HG3 HG2;cases hp:Lib.hasPrefix rs [100]
 ·rw[hp] at HA HG4;simp only[Bool.false_eq_true,if_false] at HA HG4;go_wp2_with fail;have hc:=HG4.out.drew.blk.cells;have hf:=HG4.out.drew.blk.froz;have hcN:=HKN.out.drew.cells;have hca:=(HG4.out.blk.alloc (.cells #[.int .i64 3,.bool an,.string au,.string ad,.string ⟨#[]⟩] 33)).cells;have hcb:=(HKN.out.alloc (.cells #[.int .i64 3,.bool an,.string au,.string ad,.string ⟨#[]⟩] 33)).cells
  go_region_law ((refine step_push_nd _ ⟨3,⟨an,au,ad⟩,⟨#[]⟩⟩ HG4.out.drew (by rfl) _ _ (by rfl) (by rfl) (by rfl) (by omega) ?_;intro g c w5 hg5 hk5;have hc:=hk5.cells;have hf:=hk5.froz;have HG5:=Lib.hid hg5;clear hg5 hk5))
  all_goals
   go_wp2
   first|go_end0|refine bodyPost_ret (results_none rfl _ _ _) rfl ?_
   exact GS.fin (b:=b+1) HOW.out HRL.out HG5.out HA.out
 ·rw[hp] at HA HG4;simp only[if_true] at HA HG4;go_wp2_with fail;have hc:=HG4.out.drew.blk.cells;have hf:=HG4.out.drew.blk.froz;have hcN:=HKN.out.drew.cells;have hca:=(HG4.out.blk.alloc (.cells #[.int .i64 2,.bool an,.string au,.string ad,.string ⟨#[]⟩] 33)).cells;have hcb:=(HKN.out.alloc (.cells #[.int .i64 2,.bool an,.string au,.string ad,.string ⟨#[]⟩] 33)).cells
  go_region_law ((refine step_push_nd _ ⟨2,⟨an,au,ad⟩,⟨#[]⟩⟩ HG4.out.drew (by rfl) _ _ (by rfl) (by rfl) (by rfl) (by omega) ?_;intro g c w5 hg5 hk5;have hc:=hk5.cells;have hf:=hk5.froz;have HG5:=Lib.hid hg5;clear hg5 hk5))
  all_goals
   go_wp2
   first|go_end0|refine bodyPost_ret (results_none rfl _ _ _) rfl ?_
   exact GS.fin (b:=b+1) HOW.out HRL.out HG5.out HA.out
theorem gWord_l (s cs:List UInt8) (R:Nat) (t:TypeId) (l:List Value) (w:World) (hR:Blk w R t (.string ⟨s.toArray⟩::l)) (hs:s.length≤1000000) (hc:cs.length≤100):
  Calls Tryz.prog 93 #[.pointer (some ⟨R,0,none⟩),.string ⟨cs.toArray⟩] w fun e w'=>e=.returned (.string ⟨(spanW cs s).toArray⟩)∧Blk w' R t (.string ⟨(spanR cs s).toArray⟩::l)∧Onl R w w':=
 gWord_at ⟨s.toArray⟩ ⟨cs.toArray⟩ R t l w hR (by show s.length≤_;omega) (by show cs.length≤_;omega)
set_option maxRecDepth 100000 in
set_option maxHeartbeats 1600000 in
theorem gx_bad (R:Nat) (a v:Value) (b:Int) (w:World) (h0:Blk w R 87 [a,v,.int .i64 b,.bool true]) (hb0:0≤b) (hb:b≤1000):
  Calls Tryz.prog 54 #[.pointer (some ⟨R,0,none⟩)] w (GPost none R v w):=by
 have hc:=h0.cells;have hf:=h0.froz
 have HG:Hid (GPost none R v w (.returned (.tuple #[])) ((w.setCell ⟨R,2,none⟩ (.int .i64 (b+1))).setCell ⟨R,3,none⟩ (.bool true))):=
  ⟨rfl,_,_,_,(h0.set 2 (.int .i64 (b+1))).set 3 (.bool true),(((Onl.refl R w).set 2 _).set 3 _).below (Nat.le_refl _) (Nat.le_of_lt h0.lt)⟩
 have hw1:IntKind.i64.wrap (b+1)=b+1:=IntWalk.i64_in _ (by omega);clear h0;go_enter Tryz.func54,Tryz.ntmps54;go_wp2
 first|go_end0|refine bodyPost_ret (results_none rfl _ _ _) rfl ?_
 exact HG.out
set_option maxRecDepth 100000 in
set_option maxHeartbeats 3200000 in
theorem gx_yes (f:Nat) (R:Nat) (c:UInt8) (l:List UInt8) (ns:List Nd) (b:Nat) (v:Value) (w:World) (h0:GS R w v (c::l) ns b false w v) (hs:(c::l).length≤1000000) (hb:b≤59) (hns:ns.length≤60) (hc97:97≤c.toNat) (hw:spanW lettersL (c::l)=yesL):
  Calls Tryz.prog 54 #[.pointer (some ⟨R,0,none⟩)] w (GPost (parA (f+1) (c::l) ns b) R v w):=by
 have HA:Hid (parA (f+1) (c::l) ns b=some (spanR lettersL (c::l),ns++[⟨4,ofI 1,⟨#[]⟩⟩],b+1)):=by
  show _=_;rw[parA_word f ns b hb hc97,hw];rw[if_pos rfl];rfl
 have hc:=h0.blk.cells;have hf:=h0.blk.froz;have hb1:((b:Int)+1)≤60:=by omega
 have hw1:IntKind.i64.wrap ((b:Int)+1)=(b:Int)+1:=IntWalk.i64_in _ (by omega);obtain⟨W1,hW1⟩:∃W1,W1=w.setCell ⟨R,2,none⟩ (.int .i64 ((b:Int)+1)):=⟨_,rfl⟩
 have HO1:Hid (Onl R w W1):=by show Onl _ _ _;rw[hW1];exact (Onl.refl R w).set 2 _
 have hk1:Blk W1 R 87 [.string ⟨(c::l).toArray⟩,v,.int .i64 ((b:Int)+1),.bool false]:=by rw[hW1];exact h0.blk.set 2 _
 have h36:Lib.hasPrefix (c::l) [36]=false:=by
  rw[prefix_one];simp only[List.head?_cons,beq_eq_false_iff_ne,ne_eq,Option.some.injEq]
  rintro rfl;revert hc97;decide
 obtain⟨bs,hbs⟩:∃bs:ByteArray,(⟨(c::l).toArray⟩:ByteArray)=bs:=⟨_,rfl⟩
 have hne:((bs.size:Int)==0)=false:=by rw[beq_eq_false_iff_ne,←hbs];show ((l.length+1:Nat):Int)≠0;omega
 have h0s:0<bs.size:=by rw[←hbs];exact Nat.succ_pos _
 have hlt:¬((bs[0].toNat:Int)<97):=by subst hbs;show ¬((c.toNat:Int)<97);omega
 generalize c::l=s at*;have HIS:=fun (W:World) (hk:Blk W R 87 [.string ⟨s.toArray⟩,v,.int .i64 ((b:Int)+1),.bool false])=>gIs_at s [36] R _ _ W hk
 rw[h36] at HIS;simp only[Bool.false_eq_true,if_false] at HIS;have HWO:=fun (W:World) (hk:Blk W R 87 [.string ⟨s.toArray⟩,v,.int .i64 ((b:Int)+1),.bool false])=>gWord_l s lettersL R _ _ W hk hs (by decide)
 unfold lettersL at HWO;rw[show ([97,98,99,100,101,102,103,104,105,106,107,108,109,110,111,112,113,114,115,116,117,118,119,120,121,122]:List UInt8)=lettersL from rfl] at HWO;have HIS:=Lib.hid HIS;have HOW:=Lib.hid h0.own;have HRL:=Lib.hid (Nat.le_of_lt h0.blk.lt);have H0:=Lib.hid h0;rw[hw] at HWO;unfold yesL at HWO;have HWO:=Lib.hid HWO;generalize spanR lettersL s=rs at*;have HQ:=fun (W:World)=>sOf_any 1 W (by omega) (by omega)
 generalize ofI 1=o at*;obtain⟨an,au,ad⟩:=o;unfold Ra.v at HQ;simp only at HQ;have HQ:=Lib.hid HQ;have HBS:=Lib.hid hbs;rw[hbs] at hc;clear h0 hbs hs hc97 hw h36;go_enter Tryz.func54,Tryz.ntmps54;go_wp2_with fail;simp only[←hW1]
 clear hW1 hc hf;refine (HIS.out _ hk1).mono ?_;rintro e w2 ⟨rfl,hk2,ho2⟩;have HO2:Hid (Onl R w w2):=HO1.out.trans ho2;have hc:=hk2.cells;rw[HBS.out] at hc;have HK2:=Lib.hid hk2;clear hk1 ho2 hk2 HIS hne HO1;go_wp2_with fail;refine (HWO.out _ HK2.out).mono ?_;rintro e w3 ⟨rfl,hk3,ho3⟩;have HO3:Hid (Onl R w w3):=HO2.out.trans ho3;have HK3:=Lib.hid hk3;clear hk3 ho3 hc HK2 HO2;have hkk:0<1:=Nat.one_pos;go_wp2_with fail;have hc:=HK3.out.drew.cells;have hf:=HK3.out.drew.froz;have HG3:Hid (GS R w v rs ns ((b:Int)+1) false w3.drew v):=H0.out.onl HO3.out.drew HK3.out.drew
 go_region_law (first
  |(refine step_push_nd _ ⟨4,⟨an,au,ad⟩,⟨#[]⟩⟩ HG4.out (by rfl) _ _ (by rfl) (by rfl) (by rfl) (by omega) ?_;intro g c w5 hg5 hk5;have hc:=hk5.cells;have hf:=hk5.froz;have HG5:=Lib.hid hg5;clear hg5 hk5)
  |(go_simp;go_at_call 37;refine (HQ.out _).mono ?_;rintro e w4 ⟨rfl,hb4⟩;have HG4:=Lib.hid (HG3.out.below hb4);have hc:=HG4.out.blk.cells;have hf:=HG4.out.blk.froz;have hca:=(HG4.out.blk.alloc (.cells #[.int .i64 4,.bool an,.string au,.string ad,.string ⟨#[]⟩] 33)).cells;clear hb4))
 all_goals
  go_wp2
  first|go_end0|refine bodyPost_ret (results_none rfl _ _ _) rfl ?_
  exact GS.fin (b:=b+1) HOW.out HRL.out HG5.out HA.out
set_option maxRecDepth 100000 in
set_option maxHeartbeats 3200000 in
theorem gx_no (f:Nat) (R:Nat) (c:UInt8) (l:List UInt8) (ns:List Nd) (b:Nat) (v:Value) (w:World) (h0:GS R w v (c::l) ns b false w v) (hs:(c::l).length≤1000000) (hb:b≤59) (hns:ns.length≤60) (hc97:97≤c.toNat) (hw:spanW lettersL (c::l)=noL):
  Calls Tryz.prog 54 #[.pointer (some ⟨R,0,none⟩)] w (GPost (parA (f+1) (c::l) ns b) R v w):=by
 have HA:Hid (parA (f+1) (c::l) ns b=some (spanR lettersL (c::l),ns++[⟨4,ofI 0,⟨#[]⟩⟩],b+1)):=by
  show _=_;rw[parA_word f ns b hb hc97,hw];rw[if_neg (by decide),if_pos rfl];rfl
 have hc:=h0.blk.cells;have hf:=h0.blk.froz;have hb1:((b:Int)+1)≤60:=by omega
 have hw1:IntKind.i64.wrap ((b:Int)+1)=(b:Int)+1:=IntWalk.i64_in _ (by omega);obtain⟨W1,hW1⟩:∃W1,W1=w.setCell ⟨R,2,none⟩ (.int .i64 ((b:Int)+1)):=⟨_,rfl⟩
 have HO1:Hid (Onl R w W1):=by show Onl _ _ _;rw[hW1];exact (Onl.refl R w).set 2 _
 have hk1:Blk W1 R 87 [.string ⟨(c::l).toArray⟩,v,.int .i64 ((b:Int)+1),.bool false]:=by rw[hW1];exact h0.blk.set 2 _
 have h36:Lib.hasPrefix (c::l) [36]=false:=by
  rw[prefix_one];simp only[List.head?_cons,beq_eq_false_iff_ne,ne_eq,Option.some.injEq]
  rintro rfl;revert hc97;decide
 obtain⟨bs,hbs⟩:∃bs:ByteArray,(⟨(c::l).toArray⟩:ByteArray)=bs:=⟨_,rfl⟩
 have hne:((bs.size:Int)==0)=false:=by rw[beq_eq_false_iff_ne,←hbs];show ((l.length+1:Nat):Int)≠0;omega
 have h0s:0<bs.size:=by rw[←hbs];exact Nat.succ_pos _
 have hlt:¬((bs[0].toNat:Int)<97):=by subst hbs;show ¬((c.toNat:Int)<97);omega
 generalize c::l=s at*;have HIS:=fun (W:World) (hk:Blk W R 87 [.string ⟨s.toArray⟩,v,.int .i64 ((b:Int)+1),.bool false])=>gIs_at s [36] R _ _ W hk
 rw[h36] at HIS;simp only[Bool.false_eq_true,if_false] at HIS;have HWO:=fun (W:World) (hk:Blk W R 87 [.string ⟨s.toArray⟩,v,.int .i64 ((b:Int)+1),.bool false])=>gWord_l s lettersL R _ _ W hk hs (by decide)
 unfold lettersL at HWO;rw[show ([97,98,99,100,101,102,103,104,105,106,107,108,109,110,111,112,113,114,115,116,117,118,119,120,121,122]:List UInt8)=lettersL from rfl] at HWO;have HIS:=Lib.hid HIS;have HOW:=Lib.hid h0.own;have HRL:=Lib.hid (Nat.le_of_lt h0.blk.lt);have H0:=Lib.hid h0;rw[hw] at HWO;unfold noL at HWO;have HWO:=Lib.hid HWO;generalize spanR lettersL s=rs at*;have HQ:=fun (W:World)=>sOf_any 0 W (by omega) (by omega)
 generalize ofI 0=o at*;obtain⟨an,au,ad⟩:=o;unfold Ra.v at HQ;simp only at HQ;have HQ:=Lib.hid HQ;have HBS:=Lib.hid hbs;rw[hbs] at hc;clear h0 hbs hs hc97 hw h36;go_enter Tryz.func54,Tryz.ntmps54;go_wp2_with fail;simp only[←hW1]
 clear hW1 hc hf;refine (HIS.out _ hk1).mono ?_;rintro e w2 ⟨rfl,hk2,ho2⟩;have HO2:Hid (Onl R w w2):=HO1.out.trans ho2;have hc:=hk2.cells;rw[HBS.out] at hc;have HK2:=Lib.hid hk2;clear hk1 ho2 hk2 HIS hne HO1;go_wp2_with fail;refine (HWO.out _ HK2.out).mono ?_;rintro e w3 ⟨rfl,hk3,ho3⟩;have HO3:Hid (Onl R w w3):=HO2.out.trans ho3;have HK3:=Lib.hid hk3;clear hk3 ho3 hc HK2 HO2;have hkk:0<1:=Nat.one_pos;go_wp2_with fail;have hc:=HK3.out.drew.cells;have hf:=HK3.out.drew.froz;have HG3:Hid (GS R w v rs ns ((b:Int)+1) false w3.drew v):=H0.out.onl HO3.out.drew HK3.out.drew
 go_region_law (first
  |(refine step_push_nd _ ⟨4,⟨an,au,ad⟩,⟨#[]⟩⟩ HG4.out (by rfl) _ _ (by rfl) (by rfl) (by rfl) (by omega) ?_;intro g c w5 hg5 hk5;have hc:=hk5.cells;have hf:=hk5.froz;have HG5:=Lib.hid hg5;clear hg5 hk5)
  |(go_simp;go_at_call 37;refine (HQ.out _).mono ?_;rintro e w4 ⟨rfl,hb4⟩;have HG4:=Lib.hid (HG3.out.below hb4);have hc:=HG4.out.blk.cells;have hf:=HG4.out.blk.froz;have hca:=(HG4.out.blk.alloc (.cells #[.int .i64 4,.bool an,.string au,.string ad,.string ⟨#[]⟩] 33)).cells;clear hb4))
 all_goals
  go_wp2
  first|go_end0|refine bodyPost_ret (results_none rfl _ _ _) rfl ?_
  exact GS.fin (b:=b+1) HOW.out HRL.out HG5.out HA.out
end Go.Proofs.YtbicehdehiakgaaGreatDoor
