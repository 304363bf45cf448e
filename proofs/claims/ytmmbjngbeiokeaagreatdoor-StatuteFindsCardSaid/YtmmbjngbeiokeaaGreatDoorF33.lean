/- A part of the proof: Ua Ub U7 U8 Uc Ui Un. -/
import Derived.Maps.OwnOps
import Derived.Maps.RangeWalk
import Derived.Maps.Views
import Derived.StringKeys
import Derived.Deep.Cut
import Derived.Deep.CutRange
import Derived.BigQuiet
import Derived.Deep.RegionHeld3
import Derived.Test.YtmmbjngbeiokeaaGreatDoorF01
import Derived.Test.YtmmbjngbeiokeaaGreatDoorF18
import Derived.Test.YtmmbjngbeiokeaaGreatDoorF31
import Derived.Test.YtmmbjngbeiokeaaGreatDoorF32
set_option linter.unusedVariables false
set_option linter.unusedSimpArgs false
set_option maxRecDepth 100000
set_option maxHeartbeats 40000000
namespace Go.Proofs.YtmmbjngbeiokeaaGreatDoor
open Go.RowKit Go.Maps
def sortedB:List ByteArray→Bool
 |a::b::r=>Op.bytesLess a.toList b.toList&&sortedB (b::r)
 |_=>true
theorem sortedB_iff (l:List ByteArray):sortedB l=true↔∀k (h:k+1<l.length),Op.bytesLess (l[k]'(by omega)).toList l[k+1].toList=true:=by
 induction l with
 |nil=>exact⟨fun _ k h=>by simp at h,fun _=>rfl⟩
 |cons a l ih=>
  cases l with
  |nil=>exact⟨fun _ k h=>by simp at h,fun _=>rfl⟩
  |cons b r=>
   rw[sortedB,Bool.and_eq_true,ih];constructor
   ·rintro⟨h1,h2⟩ k h;cases k with
    |zero=>exact h1
    |succ k=>exact h2 k (by simpa using h)
   ·intro h;exact⟨h 0 (by simp),fun k hk=>h (k+1) (by simpa using hk)⟩
def cntN (s:ByteArray) (l:List ByteArray):Nat:=(l.filter fun x=>decide (x=s)).length
theorem cntN_append (s:ByteArray) (a b:List ByteArray):cntN s (a++b)=cntN s a+cntN s b:=by unfold cntN;rw[List.filter_append,List.length_append]
theorem cntN_one (s t:ByteArray):cntN s [t]=if t=s then 1 else 0:=by
 unfold cntN;by_cases h:t=s
 ·rw[if_pos h,List.filter_cons,decide_eq_true h];rfl
 ·rw[if_neg h,List.filter_cons,decide_eq_false h];rfl
theorem cntN_le (s:ByteArray) (l:List ByteArray):cntN s l≤l.length:=List.length_filter_le _ _
theorem cntN_mem {s:ByteArray} {l:List ByteArray} (h:0<cntN s l):s∈l:=by
 unfold cntN at h;obtain⟨x,hx⟩:=List.exists_mem_of_length_pos h;have:=List.mem_filter.1 hx;rw[←of_decide_eq_true this.2];exact this.1
def dupB (l:List ByteArray):Bool:=l.any fun s=>decide (1<cntN s l)
def nmsL (l:Lw):List (List ByteArray):=[l.facts.map Dc.name,l.schs.map Sc.name,l.provs.map Pv.name]
def namedE (NS:List (List ByteArray)):Int:=if NS.flatten.all nameOk then (if NS.all sortedB then (if dupB NS.flatten then 14 else 0) else 11) else 12
def namedL (l:Lw):Int:=namedE (nmsL l)
theorem nameOk_size {s:ByteArray} (h:nameOk s=true):s.size≤20:=by
 unfold nameOk nameB at h;rw[Bool.and_eq_true,Bool.and_eq_true,decide_eq_true_eq] at h;have:=h.1.2;show s.data.size≤20;rw[←Array.length_toList];exact this
def Counts (D:DataW Unit) (names:List ByteArray):Prop:=∀s:ByteArray,D.atKey (.string s.data.toList) (.lit (.int .i64 0))=.lit (.int .i64 (cntN s names))
theorem toList_ne {s t:ByteArray} (h:s≠t):(Lit.string s.data.toList)≠.string t.data.toList:=by
 intro e;injection e with e;exact h (ByteArray.ext (Array.toList_inj.1 e))
theorem Counts.put {D:DataW Unit} {names:List ByteArray} {s:ByteArray} (h:Counts D names) (hD:IsMap D):Counts (D.put (.string s.data.toList) (.lit (.int .i64 ((cntN s names:Int)+1)))) (names++[s]):=by
 intro t;rw[cntN_append,cntN_one];by_cases e:s=t
 ·subst e;rw[atKey_put_same hD (show WideAt.IsKeyLit (.string s.data.toList) from trivial),if_pos rfl];rfl
 ·rw[atKey_put_other (toList_ne (fun h=>e h.symm)),if_neg e];exact h t
theorem Counts.has {D:DataW Unit} {names:List ByteArray} {s:ByteArray} (h:Counts D names) (hs:s∈names):Maps.has D (.string s.data.toList)=true:=by
 cases e:Maps.has D (.string s.data.toList) with
 |true=>rfl
 |false=>
  have h1:=h s;rw[atKey_of_not_has e] at h1;injection h1 with h1;injection h1 with _ h1;exfalso
  have h2:0<cntN s names:=by
   unfold cntN;exact List.length_pos_of_mem (List.mem_filter.2 ⟨hs,decide_eq_true rfl⟩)
  omega
theorem law_str:Keyed Tryz.prog 9:=string_keyed Tryz.underlying9
theorem zero_int (w:World):(zeroValue 3).run Tryz.prog w=.ok (.int .i64 0) w:=by kernel_rfl
theorem index3 (y0 y1 y2:Hd) (r:Nat) (hr:r<3) (w:World):(Instr.index 129 (.agg #[.slice y0.a y0.n y0.c,.slice y1.a y1.n y1.c,.slice y2.a y2.n y2.c]) (.int .i64 (r:Int))).run Tryz.prog w=
  .ok (.slice (([y0,y1,y2].getD r y0).a) (([y0,y1,y2].getD r y0).n) (([y0,y1,y2].getD r y0).c)) w:=by
 have h:r=0∨r=1∨r=2:=by omega
 rcases h with rfl|rfl|rfl<;>rfl
theorem Rd.str {w:World} {A:Option Addr} {l:List ByteArray} (h:Rd w A (l.flatMap strC)) {j:Nat} (hj:j<l.length):∃b off,A=some ⟨b,off,none⟩∧b<w.heap.size∧∀k (hk:k<l.length),w.cell? ⟨b,off+k,none⟩=some (.string l[k]):=by
 obtain⟨b,off,hA,hb,_⟩:=Rd.row strC 1 (fun _=>rfl) (by omega) h hj;refine⟨b,off,hA,hb,fun k hk=>?_⟩;obtain⟨b',off',hA',hb',hc⟩:=Rd.row strC 1 (fun _=>rfl) (by omega) h hk;rw[hA] at hA';injection hA' with hA';injection hA' with h1 h2;subst h1 h2;have:=hc 0 _ rfl;rw[Nat.mul_one,Nat.add_zero] at this;exact this
theorem take_flat {NS:List (List ByteArray)} {r:Nat} (hr:r<NS.length):(NS.take (r+1)).flatten=(NS.take r).flatten++NS[r]:=by
 rw[List.take_succ_eq_append_getElem hr,List.flatten_append];simp
theorem geq_str (a b:ByteArray) (w:World):(binOp .geq 9 (.string a) (.string b)).run Tryz.prog w=.ok (.bool (!Op.bytesLess a.toList b.toList)) w:=by
 simp[binOp,Op.stringOp]
theorem uNamed_any (l:Lw) (ss:List (Sc × Hd)) (ps:List (Pv × Hd)) (f s p:Hd) (w:World) (hL:LaidE w) (h:LawAt w l ss ps f s p) (hf:FineL l):
  Calls Tryz.prog 26 #[lawV f s p] w fun e w'=>e=.returned (.int .i64 (namedL l))∧Below w.heap.size w w':=by
 have HLI:=zH (fun W hb=>uLists_any l ss ps f s p W (h.below hb) hf);have HL:Hid (∀W,Below w.heap.size w W→LaidE W):=fun W hb=>hL.below hb
 have HLEN:Hid ((nmsL l).flatten.length≤3000):=by
  have h1:=hf.fn;have h2:=hf.sn;have h3:=hf.pn;show _≤_;unfold nmsL;simp;omega
 obtain⟨NS,hNS⟩:=zE (nmsL l);have HN3:Hid (NS.length=3):=by show _=_;rw[hNS];rfl
 have HG:Hid (∀W (y0 y1 y2:Hd),RowAt W strC (l.facts.map Dc.name) y0→RowAt W strC (l.schs.map Sc.name) y1→RowAt W strC (l.provs.map Pv.name) y2→∀r (hr:r<3),RowAt W strC (NS[r]'(by rw[HN3.out];exact hr)) ([y0,y1,y2].getD r y0)):=fun W y0 y1 y2 h0 h1 h2 r hr=>by
  subst hNS;have h:r=0∨r=1∨r=2:=by omega
  rcases h with rfl|rfl|rfl
  ·exact h0
  ·exact h1
  ·exact h2
 obtain⟨R,hR⟩:=zE (namedL l)
 have HV12:Hid ((∃x∈NS.flatten,nameOk x=false)→R=12):=fun⟨x,hx,h⟩=>by
  rw[hR];unfold namedL namedE;rw[←hNS];rw[if_neg];intro h2;rw[List.all_eq_true.1 h2 x hx] at h;cases h
 have HV:Hid ((∀x∈NS.flatten,nameOk x=true)→R=if NS.all sortedB then (if dupB NS.flatten then 14 else 0) else 11):=fun h=>by
  rw[hR];unfold namedL namedE;rw[←hNS,if_pos (List.all_eq_true.2 h)]
 rw[←hR];rw[←hNS] at HLEN;clear hL h hf hNS hR;obtain⟨fa,fn,fc⟩:=f;obtain⟨sa,sn,sc⟩:=s;obtain⟨pa,pn,pc⟩:=p;unfold lawV at HLI⊢;simp only at HLI⊢;obtain⟨W,hW⟩:=zE (w.alloc (.cells #[.slice fa fn fc,.slice sa sn sc,.slice pa pn pc] 28));obtain⟨B,hB⟩:=zE w.heap.size;have HK:Hid (Blk W B 28 [.slice fa fn fc,.slice sa sn sc,.slice pa pn pc]):=by show Blk _ _ _ _;rw[hW,hB];exact Blk.new w _ _
 have HBA:Hid (Below w.heap.size w W):=by show Below _ _ _;rw[hW];exact zB _ _
 have hkc:=HK.out.cells;have hmm:=@run_makeMap Tryz.prog;go_enter Tryz.func26,Tryz.ntmps26
 go_upto_region 1 with fail
 simp only[←hW,←hB]
 clear hW hB;go_wp2_with fail;refine (HLI.out W HBA.out).mono ?_;rintro e W1 ⟨y0,y1,y2,rfl,r0,r1,r2,hb1⟩;have HB1:=zH (bstep HBA.out hb1);have HROW:=zH (fun W (hb:Below W1.heap.size W1 W) r hr=>HG.out W y0 y1 y2 (r0.below hb) (r1.below hb) (r2.below hb) r hr);have HIX:=zH (index3 y0 y1 y2);clear hb1 r0 r1 r2 HG hkc HLI
 go_upto_region 2 with fail
 obtain⟨W2,hW2⟩:∃x,x=(W1.alloc (.map #[] 0)).alloc (.cells #[.slice y0.a y0.n y0.c,.slice y1.a y1.n y1.c,.slice y2.a y2.n y2.c] 129):=⟨_,rfl⟩
 obtain⟨M,hM⟩:=zE W1.heap.size;have HM0:Hid (W2.ownsMap (H:=Unit) Tryz.prog 9 (plainElem Tryz.prog 3) M 0 (.map [])):=by show World.ownsMap _ _ _ _ _ _ _;rw[hW2,hM];exact (World.ownsMap_made _ _ _ _).alloc _
 have HBX:Hid (Blk W2 (M+1) 129 [.slice y0.a y0.n y0.c,.slice y1.a y1.n y1.c,.slice y2.a y2.n y2.c]):=by
  show Blk _ _ _ _;have h:=Blk.new (W1.alloc (.map #[] 0)) 129 #[.slice y0.a y0.n y0.c,.slice y1.a y1.n y1.c,.slice y2.a y2.n y2.c];rw[World.size_alloc] at h;rw[hW2,hM];exact h
 have HB2:Hid (Below W1.heap.size W1 W2):=by show Below _ _ _;rw[hW2];exact (zB _ _).alloc (by rw[World.size_alloc];omega) _
 have HMM:Hid (M=W1.heap.size):=hM;have HOB:Hid (∀W,Onl M W2 W→Below W1.heap.size W1 W):=fun W ho=>HB2.out.trans (ho.below (by rw[hM];exact Nat.le_refl _) HB2.out.size)
 simp only[←hW2,←hM,World.size_alloc]
 clear hW2 hM hmm;have hbx:=HBX.out.cells;go_wp2_with fail
 go_loopg [18] 3 (fun g iv wr=>∃(r n:Nat) (D:DataW Unit),r+g=3∧iv=.int .i64 r∧n≤3000∧Hid (n≤(NS.take r).flatten.length)∧Hid (wr.ownsMap Tryz.prog 9 (plainElem Tryz.prog 3) M n D)∧Hid (Counts D (NS.take r).flatten)∧Hid (∀x∈(NS.take r).flatten,nameOk x=true)∧Hid (Onl M W2 wr))
 case atStart=>exact⟨0,0,.map [],by omega,rfl,by omega,Nat.zero_le _,HM0.out,(fun s=>rfl),(fun x hx=>by cases hx),Onl.refl _ _⟩
 case round=>
  obtain⟨r,n,D,hr,rfl,hn3,hnl,hmap,hcnt,hok,hon⟩:=hrel;by_cases hlt:r<3
  ·have hrl:r<NS.length:=by rw[HN3.out];exact hlt
   have hix:=HIX.out r hlt;have HRW:=zH (fun W hb=>HROW.out W hb r hlt);have HTF:=zH (take_flat hrl);have HSUB:Hid (∀x∈NS[r],x∈NS.flatten):=fun x hx=>List.mem_flatten.2 ⟨_,List.getElem_mem hrl,hx⟩
   have HBL:Hid ((NS.take r).flatten.length+NS[r].length≤3000):=by
    have h1:=HTF.out
    have h2:(NS.take (r+1)).flatten.length≤NS.flatten.length:=by
     conv=>rhs;rw[←List.take_append_drop (r+1) NS,List.flatten_append,List.length_append]
     omega
    rw[h1,List.length_append] at h2;have:=HLEN.out;show _≤_;omega
   have hlt3:decide ((r:Int)<3)=true:=decide_eq_true (by omega);generalize [y0,y1,y2].getD r y0=hd at*;obtain⟨ha,hn,hc⟩:=hd;generalize NS[r]=L at*;generalize (NS.take r).flatten=dn at*;simp only at hix HRW;have hlen:hn=L.length:=(HRW.out W1 (Below.refl _ _)).len;have HLN:=zH hlen;clear hlen;have hib:hn≤3000:=by have:=HBL.out;have:=HLN.out;omega
   go_wp2_with fail
   go_loopg [23] hn (fun g iv wr=>∃(i n:Nat) (D:DataW Unit),i+g=hn∧iv=.int .i64 i∧n≤3000∧Hid (n≤dn.length+i)∧Hid (wr.ownsMap Tryz.prog 9 (plainElem Tryz.prog 3) M n D)∧Hid (Counts D (dn++L.take i))∧Hid (∀x∈dn++L.take i,nameOk x=true)∧Hid (Onl M W2 wr))
   case atStart=>exact⟨0,n,D,by omega,rfl,hn3,zH (by have:=hnl.out;omega),hmap,(by show Counts _ _;rw[List.take_zero,List.append_nil];exact hcnt.out),(by rw[List.take_zero,List.append_nil];exact hok.out),hon⟩
   case round=>
    obtain⟨i,n,D,hi,rfl,hn3,hnl,hmap,hcnt,hok,hon⟩:=hrel;by_cases hin:i<hn
    ·have hil:i<L.length:=by rw[←HLN.out];exact hin
     obtain⟨b,off,hA,hb,hcs⟩:=(HRW.out wr (HOB.out _ hon.out)).rd.str hil;simp only at hA;subst hA;have hc0:=hcs i hil;have HMEM:Hid (L[i]∈NS.flatten):=HSUB.out _ (List.getElem_mem hil);have HTK:Hid (L.take (i+1)=L.take i++[L[i]]):=List.take_succ_eq_append_getElem hil;generalize L[i]=x at*;have HLE:=zH (HL.out wr (bstep HB1.out (HOB.out _ hon.out)));clear hcs;go_wp2_with fail;refine (uName_any x wr HLE.out).mono ?_;rintro e w9 ⟨rfl,hb9⟩;have HO9:=zH (hon.out.trans (Onl.of_below (G:=M) hb9));have hmap9:=hmap.out.kept (below_grown hb9) (by simp);have HM9:=zH hmap9;clear hb9 hmap9 hc0;cases hq:nameOk x with
     |false=>
      obtain rfl:R=12:=HV12.out ⟨x,HMEM.out,hq⟩;have HBE:=zH (bstep HB1.out (HOB.out _ HO9.out));clear hq;go_wp2;go_ret;exact⟨rfl,HBE.out⟩
     |true=>
      have hkey:keyOf Tryz.prog 9 (.string x)=some (.string x.data.toList):=WideMaps.keyOf_string_mk Tryz.underlying9 (by have:=nameOk_size hq;unfold maxLen;omega);have HKEY:=zH hkey;have HQ:=zH hq;clear hkey hq;go_wp2_with (at_lookup;refine wpList_lookup_own_int _ rfl _ _ 131 rfl 9 3 .i64 law_str Tryz.underlying131 Tryz.underlying3 (zero_int _) M n D rfl HM9.out _ _ rfl HKEY.out ?_);intro c hat hwc
      have hcx:c=(cntN x (dn++L.take i):Int):=by
       have h1:=hcnt.out x;rw[h1] at hat;injection hat with hat;injection hat with _ hat;exact hat.symm
      have hcle:cntN x (dn++L.take i)≤dn.length+i:=by
       have:=cntN_le x (dn++L.take i);rw[List.length_append,List.length_take] at this;omega
      have HPUT:=zH (hcnt.out.put (s:=x) HM9.out.isMap);subst hcx;generalize cntN x (dn++L.take i)=cn at*;have hcn:cn≤3000:=by have:=HBL.out;have:=HLN.out;omega
      have hw1:IntKind.i64.wrap ((cn:Int)+1)=(cn:Int)+1:=IntWalk.i64_in _ (by omega);have hwf:(Lit.int .i64 ((cn:Int)+1)).wf=true:=WalkArith.wf_i64 (by omega);have HWF:=zH hwf;clear hat hwc hwf hcle;go_wp2_with (at_mapUpdate;refine wpList_mapUpdate_own _ rfl _ _ _ 131 rfl 9 3 law_str Tryz.underlying131 _ M n _ rfl HM9.out (by unfold maxLen;omega) _ _ _ rfl rfl HKEY.out _ [] (plainElem_int Tryz.underlying3 HWF.out) ?_);intro w10 hmap10 hgr;have HM10:=zH hmap10;have HO10:Hid (Onl M W2 w10):=HO9.out.trans ⟨hgr.os,hgr.tape,hgr.output,hgr.size,fun k hk hne=>hgr.block k hk (fun e=>hne (Option.some.inj e))⟩;clear hmap10 hgr;go_wp2
      go_roundg (hn-(i+1))
      case measure=>omega
      case rel=>
       refine⟨i+1,n+1,_,by omega,by go_num,?_,?_,HM10,?_,?_,HO10⟩
       ·have:=hnl.out;have:=HBL.out;have:=HLN.out;omega
       ·have:=hnl.out;show _≤_;omega
       ·show Counts _ _;rw[HTK.out,←List.append_assoc];exact HPUT.out
       ·show ∀y∈_,_;rw[HTK.out,←List.append_assoc];intro y hy;rcases List.mem_append.1 hy with hy|hy
        ·exact hok.out y hy
        ·rw[List.mem_singleton.1 hy];exact HQ.out
    ·have hie:L.take i=L:=List.take_of_length_le (by have:=HLN.out;omega);have hcnt2:=hcnt.out;have hok2:=hok.out;rw[hie,←HTF.out] at hcnt2 hok2;have HC2:=zH hcnt2;have HK2:=zH hok2
     have HNL2:Hid (n≤(NS.take (r+1)).flatten.length):=by
      show _≤_;rw[HTF.out,List.length_append];have:=hnl.out;have:=HLN.out;omega
     clear hcnt hok hcnt2 hok2 hie;go_wp2
     go_roundg (3-(r+1))
     case measure=>omega
     case rel=>exact⟨r+1,n,D,by omega,by go_num,hn3,HNL2,hmap,HC2,HK2,hon⟩
  ·have hr3:NS.take r=NS:=List.take_of_length_le (by rw[HN3.out];omega);rw[hr3] at hcnt hok hnl;have HVR:=zH (HV.out hok.out);obtain⟨W3,hW3⟩:∃x,x=wr:=⟨_,rfl⟩
   rw[←hW3] at hmap hon⊢;have HB3:=zH (bstep HB1.out (HOB.out _ hon.out));have HROW3:=zH (fun W (hb:Below W3.heap.size W3 W) r hr=>HROW.out W (bstep (HOB.out _ hon.out) hb) r hr);have hbx3:=(hon.out.blk HBX.out (by omega)).cells;have hgeq:=fun (a b:ByteArray) (W:World)=>geq_str a b W
   clear HV HV12 HM0 hW3 HOB HROW HB1 HB2 hok hnl hon HBX;go_wp2_with fail
   go_loopg [37] 3 (fun g iv wr=>∃r:Nat,r+g=3∧iv=.int .i64 r∧Hid (∀k (hk:k<NS.length),k<r→sortedB NS[k]=true)∧Hid (Below W3.heap.size W3 wr))
   case atStart=>exact⟨0,by omega,rfl,(fun k hk h=>absurd h (by omega)),Below.refl _ _⟩
   case round=>
    obtain⟨r,hr,rfl,hso,hbr⟩:=hrel;by_cases hlt:r<3
    ·have hrl:r<NS.length:=by rw[HN3.out];exact hlt
     have hix:=HIX.out r hlt;have HRW:=zH (fun W hb=>HROW3.out W hb r hlt)
     have HNS:Hid (sortedB NS[r]=false→R=11):=fun h=>by
      rw[HVR.out,if_neg];intro h2;have:=List.all_eq_true.1 h2 NS[r] (List.getElem_mem hrl);rw[h] at this;cases this
     have HNX:Hid (sortedB NS[r]=true→∀k (hk:k<NS.length),k<r+1→sortedB NS[k]=true):=fun h k hk hkr=>by
      by_cases e:k<r
      ·exact hso.out k hk e
      ·obtain rfl:k=r:=by omega
       exact h
     have hbound:NS[r].length≤3000:=by
      have h2:(NS.take (r+1)).flatten.length≤NS.flatten.length:=by
       conv=>rhs;rw[←List.take_append_drop (r+1) NS,List.flatten_append,List.length_append]
       omega
      rw[take_flat hrl,List.length_append] at h2;have:=HLEN.out;omega
     generalize [y0,y1,y2].getD r y0=hd at*;obtain⟨ha,hn,hc⟩:=hd;generalize NS[r]=L at*;simp only at hix HRW;have hlen:hn=L.length:=(HRW.out W3 (Below.refl _ _)).len;have HSB:=zH (sortedB_iff L);have hlt3:decide ((r:Int)<3)=true:=decide_eq_true (by omega);have hnb:hn≤3000:=by rw[hlen];exact hbound
     have HLN:=zH hlen;clear hlen hbound hso;go_wp2_with fail
     go_loopg [11] hn (fun g iv wr=>∃i:Nat,iv=.int .i64 i∧1≤i∧hn-i≤g∧i≤hn+1∧Hid (∀k (hk:k+1<L.length),k+1<i→Op.bytesLess L[k].toList L[k+1].toList=true)∧Hid (Below W3.heap.size W3 wr))
     case atStart=>exact⟨1,rfl,by omega,by omega,by omega,(fun k hk h=>absurd h (by omega)),hbr⟩
     case round=>
      obtain⟨i,rfl,hi1,hig,hin1,hle,hbr⟩:=hrel;by_cases hin:i<hn
      ·have hil:i<L.length:=by rw[←HLN.out];exact hin
       obtain⟨b,off,hA,hb,hcs⟩:=(HRW.out wr hbr.out).rd.str hil;simp only at hA;subst hA;obtain⟨m,rfl⟩:∃m,i=m+1:=⟨i-1,by omega⟩
       have hc0:=hcs m (by omega);have hc1:=hcs (m+1) hil;have hw1:IntKind.i64.wrap (((m+1:Nat):Int)-1)=(m:Int):=by rw[IntWalk.i64_in _ (by omega)];omega
       have HLES:Hid (Op.bytesLess (L[m]'(by omega)).toList L[m+1].toList=true→∀k (hk:k+1<L.length),k+1<m+1+1→Op.bytesLess L[k].toList L[k+1].toList=true):=fun h k hk hkm=>by
        by_cases e:k+1<m+1
        ·exact hle.out k hk e
        ·obtain rfl:k=m:=by omega
         exact h
       have HBAD:Hid (Op.bytesLess (L[m]'(by omega)).toList L[m+1].toList=false→R=11):=fun h=>by
        refine HNS.out ?_;cases e:sortedB L with
        |false=>rfl
        |true=>have:=HSB.out.1 e m hil;rw[h] at this;cases this
       have hml:m<hn:=by omega
       generalize L[m]'(by omega)=x0 at*;generalize L[m+1]=x1 at*;obtain⟨q,hq⟩:=zF (Op.bytesLess x0.toList x1.toList);rw[hq] at HLES HBAD;clear hcs hle hgeq;have HBD:=zH (below_drewN hbr.out 1);clear hbr
       go_upto_region 19 with fail
       cases q
       ·obtain rfl:R=11:=HBAD.out rfl;have HBE:=zH (bstep HB3.out HBD.out);go_region;go_wp2;go_ret;exact⟨rfl,HBE.out⟩
       ·have HLN2:=zH (HLES.out rfl);go_region;go_wp2
        go_roundg (hn-(m+1+1))
        case measure=>omega
        case rel=>exact⟨m+1+1,by go_num,by omega,by omega,by omega,HLN2,HBD⟩
      ·have HSL:Hid (sortedB L=true):=HSB.out.2 (fun k hk=>hle.out k hk (by have:=HLN.out;omega));have HSN:=zH (HNX.out HSL.out);clear hle;go_wp2
       go_roundg (3-(r+1))
       case measure=>omega
       case rel=>exact⟨r+1,by omega,by go_num,HSN,hbr⟩
    ·have hall:NS.all sortedB=true:=List.all_eq_true.2 (fun x hx=>by
      obtain⟨k,hk,rfl⟩:=List.getElem_of_mem hx;exact hso.out k hk (by have:=HN3.out;omega))
     have hvr:=HVR.out;rw[if_pos hall] at hvr
     have HV1:Hid ((∃x,1<cntN x NS.flatten)→R=14):=fun⟨x,hx⟩=>by
      rw[hvr,if_pos];exact List.any_eq_true.2 ⟨x,cntN_mem (by omega),decide_eq_true hx⟩
     have HV0:Hid ((∀x∈NS.flatten,cntN x NS.flatten≤1)→R=0):=fun h=>by
      rw[hvr,if_neg];intro h2;obtain⟨x,hx,h3⟩:=List.any_eq_true.1 h2;have:=of_decide_eq_true h3;have:=h x hx;omega
     have HMX:=zH (hmap.kept (below_grown hbr.out) (by simp));have HCN:Hid (Counts D NS.flatten):=hcnt;have HBR:=zH (bstep HB3.out hbr.out);obtain⟨W4,hW4⟩:∃x,x=wr:=⟨_,rfl⟩
     rw[←hW4] at HMX HBR⊢;clear hvr hall HVR hso hmap hcnt hbr hW4 HIX HROW3 hgeq hbx3 HN3 HLEN;go_wp2_with (at_range;refine wpList_range_own _ rfl _ 131 rfl 9 3 law_str Tryz.underlying131 _ M n _ rfl HMX.out ?_;intro w0 hrg0 hg0 hs0)
     go_frame
     obtain⟨rr,hrr⟩:∃x,x=W4.heap.size:=⟨_,rfl⟩
     rw[←hrr] at hrg0⊢;have HRR:Hid (w.heap.size≤rr):=by show _≤_;rw[hrr];exact HBR.out.size
     have HB0:Hid (Below w.heap.size w w0):=HBR.out.grown hg0 HBR.out.size (fun g hg=>by cases hg);have HRG0:=zH hrg0;clear hrr hg0 hs0 hrg0
     go_loopg [13] (Maps.size D) (fun g v wr=>∃left:Lit→Bool,Hid (wr.ranges Tryz.prog 9 (plainElem Tryz.prog 3) M rr n D left g)∧Hid (∀x∈NS.flatten,left (.string x.data.toList)=true∨cntN x NS.flatten≤1)∧Hid (Below w.heap.size w wr))
     case atStart=>exact⟨_,HRG0,(fun x hx=>.inl (HCN.out.has hx)),HB0⟩
     case round=>
      obtain⟨left,hrg,hlf,hbr⟩:=hrel;clear HRG0 HB0;go_wp2_with (at_next;refine wpList_next_ranges _ rfl _ rfl 9 law_str (plainElem Tryz.prog 3) (fun s:ByteArray=>Value.string s) (Value.int .i64) (fun key kl h=>by obtain⟨s,h1,_⟩:=WideMaps.string_of_keyOf Tryz.underlying9 h;exact⟨s,h1⟩) (fun v y h=>by obtain⟨c,h1,_⟩:=plainElem_int_inv Tryz.underlying3 h;exact⟨c,h1⟩) M rr n D left _ rfl hrg.out ?_ ?_)
      ·intro hc0 hl0
       obtain rfl:R=0:=HV0.out (fun x hx=>by
        rcases hlf.out x hx with h|h
        ·rw[hl0] at h;cases h
        ·exact h)
       clear hl0;go_wp2;go_ret;exact⟨rfl,hbr.out⟩
      ·intro x c kl yd yp w' cnt' hkey hlk hv hat hrg' hlt' hgr hsz hen;obtain⟨s,hs,rfl,_⟩:=WideMaps.string_of_keyOf Tryz.underlying9 hkey;injection hs with hs;subst hs;obtain⟨c',hc',hyy,_⟩:=plainElem_int_inv Tryz.underlying3 hv;injection hc' with _ hc';subst hc';injection hyy with hy1 hy2;subst hy1 hy2
       have hcx:c=(cntN x NS.flatten:Int):=by
        have h1:=hat (.lit (.int .i64 0));rw[HCN.out x] at h1;injection h1 with h1;injection h1 with _ h1;exact h1.symm
       have HCX:=zH hcx;have HB':Hid (Below w.heap.size w w'):=hbr.out.grown hgr hbr.out.size (fun g hg=>by obtain rfl:=Option.some.inj hg;exact HRR.out);have HRG':=zH hrg';have HLT:=zH hlt'
       have HLF:Hid (c≤1→∀t∈NS.flatten,(left (.string t.data.toList)&& !(Lit.string t.data.toList).sameKey (.string x.data.toList))=true∨cntN t NS.flatten≤1):=fun hc t ht=>by
        rcases hlf.out t ht with h|h
        ·cases e:(Lit.string t.data.toList).sameKey (.string x.data.toList) with
         |false=>left;rw[h];rfl
         |true=>
          right
          have h2:=WideAt.sameKey_eq e;injection h2 with h2;have h3:t=x:=ByteArray.ext (Array.toList_inj.1 h2);rw[h3];omega
        ·exact .inr h
       clear hkey hlk hv hat hrg' hlt' hgr hsz hcx hlf hrg hbr;by_cases h1:1<c
       ·obtain rfl:R=14:=HV1.out ⟨x,by have:=HCX.out;omega⟩;go_wp2;go_ret;exact⟨rfl,HB'.out⟩
       ·have HLF2:=zH (HLF.out (by omega));go_wp2
        go_roundg cnt'
        case measure=>exact HLT.out
        case rel=>exact⟨_,HRG',HLF2,HB'⟩
end Go.Proofs.YtmmbjngbeiokeaaGreatDoor
namespace Go.Proofs.YtmmbjngbeiokeaaGreatDoor
open Go.RowKit
theorem fits_size {a:Ra} (h:fitsR a=true):okR a=true∧a.num.size≤50∧a.den.size≤50:=by
 unfold fitsR at h;simp only[Bool.and_eq_true,decide_eq_true_eq] at h;obtain⟨⟨h1,h2⟩,h3⟩:=h;obtain⟨p1,p2,p3,p4⟩:=okR_prts h1
 have key:∀L n,bitsN n≤8*L→n<256 ^ L:=fun L n hn=>by
  unfold bitsN at hn;rw[show (256:Nat)=2 ^ 8 from rfl,←Nat.pow_mul];split at hn
  ·next h0=>rw[h0];exact Nat.pow_pos (by omega)
  ·next h0=>exact (Nat.log2_lt h0 (k:=8*L)).1 (by omega)
 refine⟨h1,?_,?_⟩
 ·rw[←nb_ok p3];exact nbs_size_le _ 50 (key 50 _ h2)
 ·rw[←nb_ok p1];exact nbs_size_le _ 50 (key 50 _ h3)
theorem sign_pos {a:Ra} (h:0<signR a):a.num≠⟨#[]⟩:=by
 intro e;unfold signR at h;split at h
 ·next h1=>
  split at h
  ·cases h
  ·next h2=>
   split at h
   ·cases h
   ·next h3=>
    obtain⟨p1,p2,p3,p4⟩:=okR_prts h1;refine h2 ?_;rw[←p4,e];unfold low ofI;have e0:vbs ⟨#[]⟩=0:=rfl;rw[e0,Nat.gcd_zero_left,Nat.zero_div,Nat.div_self p2];simp
 ·cases h
theorem fld_den (x:Bool) (y z:ByteArray) (w:World):(Instr.field 39 (.agg #[.bool x,.string y,.string z]) 2).run Tryz.prog w=.ok (.string z) w:=by kernel_rfl
theorem uPlain_any (x:Pv × Hd) (w:World):Calls Tryz.prog 53 #[.agg (pvCells x).toArray] w fun e w'=>e=.returned (.bool (plainP x.1))∧Below w.heap.size w w':=by
 have HP:Hid (plainP x.1=(decide (x.1.step=zR)&&decide (x.1.cap=zR))):=rfl;rw[HP.out];have HE1:=fun W=>eql_ra x.1.step zR W
 have HE2:=fun W=>eql_ra x.1.cap zR W
 generalize decide (x.1.step=zR)=a at*;generalize decide (x.1.cap=zR)=b at*;clear HP;obtain⟨⟨nm,⟨tt,tm,td⟩,ch,⟨sn1,sn2,sn3⟩,⟨cn1,cn2,cn3⟩,bo⟩,⟨ha,hn,hcc⟩⟩:=x;unfold pvCells;simp only[Ra.v,zR] at HE1 HE2⊢;obtain⟨W,hW⟩:=zE (w.alloc (.cells #[.string nm,.bool tt,.int .i64 tm,.int .i64 td,.slice ha hn hcc,.bool ch,.bool sn1,.string sn2,.string sn3,.bool cn1,.string cn2,.string cn3] 41));obtain⟨B,hB⟩:=zE w.heap.size;have HK:Hid (Blk W B 41 [.string nm,.bool tt,.int .i64 tm,.int .i64 td,.slice ha hn hcc,.bool ch,.bool sn1,.string sn2,.string sn3,.bool cn1,.string cn2,.string cn3]):=by show Blk _ _ _ _;rw[hW,hB];exact Blk.new w _ _
 have HBA:Hid (Below w.heap.size w W):=by show Below _ _ _;rw[hW];exact zB _ _
 have hkc:=HK.out.cells;cases a
 ·skip
  go_enter Tryz.func53,Tryz.ntmps53
  go_upto_region 1 with fail
  simp only[←hW,←hB]
  clear hW hB;go_wp2;go_ret;exact⟨by simp,HBA.out⟩
 ·skip
  go_enter Tryz.func53,Tryz.ntmps53
  go_upto_region 1 with fail
  simp only[←hW,←hB]
  clear hW hB;go_wp2;go_ret;exact⟨by simp,HBA.out⟩
theorem uCapped_any (x:Pv × Hd) (w:World) (hs:FineR x.1.step) (hc:FineR x.1.cap):Calls Tryz.prog 75 #[.agg (pvCells x).toArray] w fun e w'=>e=.returned (.bool (cappedP x.1))∧Below w.heap.size w w':=by
 obtain⟨s1,s2⟩:=hs;obtain⟨c1,c2⟩:=hc;have HP:Hid (cappedP x.1=(!x.1.ty.truth&&(fitsR x.1.step&&(fitsR x.1.cap&&(decide (0<signR x.1.step)&&(decide ((quoR x.1.cap x.1.step).1.den=(ofI 1).den)&&(decide (0<signR (quoR x.1.cap x.1.step).1)&&decide (cmpR (quoR x.1.cap x.1.step).1 (ofI 200)≤0)))))))):=rfl;rw[HP.out];have HF1:=zH (fun W=>mFits_any x.1.step W (by omega) (by omega));have HF2:=zH (fun W=>mFits_any x.1.cap W (by omega) (by omega));have HS1:=zH (fun W=>qSign_any x.1.step W (by omega) (by omega));have HZ1:=zH (fun h:fitsR x.1.step=true=>fits_size h);have HZ2:=zH (fun h:fitsR x.1.cap=true=>fits_size h)
 have HQ:Hid (∀W,fitsR x.1.step=true→fitsR x.1.cap=true→0<signR x.1.step→Calls Tryz.prog 112 #[x.1.cap.v,x.1.step.v] W fun e w'=>e=.returned (.tuple #[(quoR x.1.cap x.1.step).1.v,.bool true])∧Below W.heap.size W w'):=fun W h1 h2 h3=>by
  obtain⟨p1,p2,p3⟩:=HZ1.out h1;obtain⟨q1,q2,q3⟩:=HZ2.out h2;exact qQuo_ok x.1.cap x.1.step W q1 p1 (sign_pos h3) 50 (by omega) q2 q3 p2 p3
 have HQZ:Hid (fitsR x.1.step=true→fitsR x.1.cap=true→0<signR x.1.step→okR (quoR x.1.cap x.1.step).1=true∧(quoR x.1.cap x.1.step).1.num.size≤100∧(quoR x.1.cap x.1.step).1.den.size≤100):=fun h1 h2 h3=>by
  obtain⟨p1,p2,p3⟩:=HZ1.out h1;obtain⟨q1,q2,q3⟩:=HZ2.out h2;have hz:=quoR_size x.1.cap x.1.step 50 q2 q3 p2 p3;refine⟨?_,hz.1,hz.2⟩;unfold quoR;rw[if_neg (sign_pos h3)];refine low_okR _ _ _ (Nat.mul_pos (okR_prts q1).2.1 ?_);exact vbs_pos (okR_prts p1).2.2.1 (sign_pos h3)
 have HO1:=zH (fun W=>qOf_any 1 W (by omega) (by omega));have HO2:=zH (fun W=>qOf_any 200 W (by omega) (by omega));generalize quoR x.1.cap x.1.step=q at*;obtain⟨⟨qn,qm,qd⟩,qb⟩:=q;simp only at HQ HQZ⊢;generalize fitsR x.1.step=f1 at*;generalize fitsR x.1.cap=f2 at*;generalize signR x.1.step=sg at*;clear HP HZ1 HZ2 s1 s2 c1 c2;obtain⟨⟨nm,⟨tt,tm,td⟩,ch,⟨sn1,sn2,sn3⟩,⟨cn1,cn2,cn3⟩,bo⟩,⟨ha,hn,hcc⟩⟩:=x;unfold pvCells;simp only[Ra.v] at HF1 HF2 HS1 HQ⊢;obtain⟨W,hW⟩:=zE (w.alloc (.cells #[.string nm,.bool tt,.int .i64 tm,.int .i64 td,.slice ha hn hcc,.bool ch,.bool sn1,.string sn2,.string sn3,.bool cn1,.string cn2,.string cn3] 41));obtain⟨B,hB⟩:=zE w.heap.size;have HK:Hid (Blk W B 41 [.string nm,.bool tt,.int .i64 tm,.int .i64 td,.slice ha hn hcc,.bool ch,.bool sn1,.string sn2,.string sn3,.bool cn1,.string cn2,.string cn3]):=by show Blk _ _ _ _;rw[hW,hB];exact Blk.new w _ _
 have HBA:Hid (Below w.heap.size w W):=by show Below _ _ _;rw[hW];exact zB _ _
 have hkc:=HK.out.cells;cases tt
 ·cases f1
  ·skip
   go_enter Tryz.func75,Tryz.ntmps75
   go_upto_region 1 with fail
   simp only[←hW,←hB]
   clear hW hB;go_wp2_with fail;refine (HF1.out W).mono ?_;rintro e w5 ⟨rfl,hb5⟩;have HB5:=zH (bstep HBA.out hb5);clear hb5;go_wp2;go_ret;exact⟨by simp,HB5.out⟩
  cases f2
  ·skip
   go_enter Tryz.func75,Tryz.ntmps75
   go_upto_region 1 with fail
   simp only[←hW,←hB]
   clear hW hB;go_wp2_with fail;refine (HF1.out W).mono ?_;rintro e w5 ⟨rfl,hb5⟩;have HB5:=zH (bstep HBA.out hb5);have HK5:=zH (HK.out.below hb5 HK.out.lt);have hk5:=HK5.out.cells;clear hb5;go_wp2_with fail;refine (HF2.out w5).mono ?_;rintro e w6 ⟨rfl,hb6⟩;have HB6:=zH (bstep HB5.out hb6);clear hb6;go_wp2;go_ret;exact⟨by simp,HB6.out⟩
  by_cases hsg:0<sg
  ·have hsn:decide (sg≤0)=false:=decide_eq_false (by omega);have hdp:decide (0<sg)=true:=decide_eq_true hsg;rw[hdp];obtain⟨z1,z2,z3⟩:=HQZ.out rfl rfl hsg;have HQ2:=zH (fun W=>HQ.out W rfl rfl hsg);have HSG:=zH (fun W=>qSign_any ⟨qn,qm,qd⟩ W (Nat.le_trans z2 (by omega)) (Nat.le_trans z3 (by omega)));have HCM:=zH (fun W=>qCmp_ok ⟨qn,qm,qd⟩ (ofI 200) W z1 (by decide) 100 (by omega) z2 z3 (by decide) (by decide));simp only[Ra.v] at HSG HCM;generalize signR ⟨qn,qm,qd⟩=sq at*;generalize cmpR ⟨qn,qm,qd⟩ (ofI 200)=cq at*;obtain⟨dq,hdq⟩:=zF ((qd.toList==(nbs 1).toList));have hdd:decide (qd=(ofI 1).den)=dq:=by rw[←hdq,beq_toList];rfl
   rw[hdd];clear hdd;have hfd:=fld_den;clear hsg z1 z2 z3 HQ HQZ hdp;go_enter Tryz.func75,Tryz.ntmps75
   go_upto_region 1 with fail
   simp only[←hW,←hB]
   clear hW hB;go_wp2_with fail;refine (HF1.out W).mono ?_;rintro e w5 ⟨rfl,hb5⟩;have HB5:=zH (bstep HBA.out hb5);have HK5:=zH (HK.out.below hb5 HK.out.lt);have hk5:=HK5.out.cells;clear hb5;go_wp2_with fail;refine (HF2.out w5).mono ?_;rintro e w6 ⟨rfl,hb6⟩;have HB6:=zH (bstep HB5.out hb6);have HK6:=zH (HK5.out.below hb6 HK5.out.lt);have hk6:=HK6.out.cells;clear hb6;go_wp2_with fail;refine (HS1.out w6).mono ?_;rintro e w8 ⟨rfl,hb8⟩;have HB8:=zH (bstep HB6.out hb8);have HK8:=zH (HK6.out.below hb8 HK6.out.lt);have hk8:=HK8.out.cells;clear hb8;go_wp2_with fail;refine (HQ2.out w8).mono ?_;rintro e w9 ⟨rfl,hb9⟩;have HB9:=zH (bstep HB8.out hb9);clear hb9
   go_upto_region 4 with fail
   obtain⟨w7,hw7⟩:∃x,x=w9.alloc (.cells #[.bool qn,.string qm,.string qd] 39):=⟨_,rfl⟩
   obtain⟨N,hN⟩:=zE w9.heap.size;have HKN:Hid (Blk w7 N 39 [.bool qn,.string qm,.string qd]):=by show Blk _ _ _ _;rw[hw7,hN];exact Blk.new _ _ _
   have HB7:Hid (Below w.heap.size w w7):=by show Below _ _ _;rw[hw7];exact bstep HB9.out (zB _ _)
   simp only[←hw7,←hN]
   clear hw7 hN hkc hk5 hk6 hk8
   have HSS:Hid (∀W,Below w7.heap.size w7 W→Below w7.heap.size w7 W∧W.cell? ⟨N,0,none⟩=some (.bool qn)∧W.cell? ⟨N,1,none⟩=some (.string qm)∧W.cell? ⟨N,2,none⟩=some (.string qd)):=fun W hb=>
    ⟨hb,(hb.cell HKN.out.lt).trans (HKN.out.cells 0),(hb.cell HKN.out.lt).trans (HKN.out.cells 1),(hb.cell HKN.out.lt).trans (HKN.out.cells 2)⟩
   cases dq
   ·skip
    refine wp_region_noPanic ?_;refine wp_region_held_drew (S:=(fun w'=>Below w7.heap.size w7 w'∧w'.cell? ⟨N,0,none⟩=some (.bool qn)∧w'.cell? ⟨N,1,none⟩=some (.string qm)∧w'.cell? ⟨N,2,none⟩=some (.string qd))) (by kernel_rfl) (HSS.out _ (drewN_below w7.heap.size w7 1)) (fun hHeld=>?_);refine tkZ 0 ?_;refine tkZ 1 ?_;refine tkR 2 fun K hK=>?_
    go_simp;have hbS:=hHeld.1;refine (HO1.out _).mono ?_;rintro e w10 ⟨rfl,hb10⟩;simp only[Ra.v,ofI]
    have HBT:=zH (bstep hbS hb10);go_wp2_with fail;refine tkK hK (HSS.out _ HBT.out) fun hHeld=>?_
    clear hK K;refine tkZ 3 ?_;refine tkY 4 (.bool false) rfl ?_ ?_
    ·intro w hSw;(try dsimp only at hSw);go_simp
     all_goals with_reducible rfl
    try simp only[Act.put,tk1,tk2,tk3,tk4,tk5,tk6]
    refine tkZ 5 ?_;refine tkN 6 rfl ?_
    try simp only[Act.put,tk1,tk2,tk3,tk4,tk5,tk6]
    refine tkN 7 rfl ?_
    try simp only[Act.put,tk1,tk2,tk3,tk4,tk5,tk6]
    refine tkN 8 rfl ?_
    try simp only[Act.put,tk1,tk2,tk3,tk4,tk5,tk6]
    refine tkZ 9 ?_;refine tkZ 10 ?_;refine tkN 11 rfl ?_
    try simp only[Act.put,tk1,tk2,tk3,tk4,tk5,tk6]
    refine tkN 12 rfl ?_
    try simp only[Act.put,tk1,tk2,tk3,tk4,tk5,tk6]
    refine tkN 13 rfl ?_
    try simp only[Act.put,tk1,tk2,tk3,tk4,tk5,tk6]
    refine tkN 14 rfl ?_
    try simp only[Act.put,tk1,tk2,tk3,tk4,tk5,tk6]
    refine tkZ 15 ?_;refine tkZ 16 ?_;refine wpAnyH_done (by kernel_rfl) ?_ _;refine NoPanic.normal ?_;go_wp2;go_ret;exact⟨by simp,bstep HB7.out HBT.out⟩
   by_cases hsq:0<sq
   ·have hsqd:decide (0<sq)=true:=decide_eq_true hsq;by_cases hcq:cq≤0
    ·have hcqd:decide (cq≤0)=true:=decide_eq_true hcq;refine wp_region_noPanic ?_;refine wp_region_held_drew (S:=(fun w'=>Below w7.heap.size w7 w'∧w'.cell? ⟨N,0,none⟩=some (.bool qn)∧w'.cell? ⟨N,1,none⟩=some (.string qm)∧w'.cell? ⟨N,2,none⟩=some (.string qd))) (by kernel_rfl) (HSS.out _ (drewN_below w7.heap.size w7 1)) (fun hHeld=>?_);refine tkZ 0 ?_;refine tkZ 1 ?_;refine tkR 2 fun K hK=>?_
     go_simp;have hbS:=hHeld.1;refine (HO1.out _).mono ?_;rintro e w10 ⟨rfl,hb10⟩;simp only[Ra.v,ofI]
     have HBT:=zH (bstep hbS hb10);go_wp2_with fail;refine tkK hK (HSS.out _ HBT.out) fun hHeld=>?_
     clear hK K;refine tkZ 3 ?_;refine tkY 4 (.bool true) rfl ?_ ?_
     ·intro w hSw;(try dsimp only at hSw);go_simp
      all_goals with_reducible rfl
     try simp only[Act.put,tk1,tk2,tk3,tk4,tk5,tk6]
     refine tkZ 5 ?_;refine tkZ 6 ?_;refine tkR 7 fun K hK=>?_
     go_simp;have hbS:=hHeld.1;refine (HSG.out _).mono ?_;rintro e w10 ⟨rfl,hb10⟩;simp only[Ra.v,ofI]
     have HBT:=zH (bstep hbS hb10);go_wp2_with fail;refine tkK hK (HSS.out _ HBT.out) fun hHeld=>?_
     clear hK K;refine tkZ 8 ?_;refine tkZ 9 ?_;refine tkZ 10 ?_;refine tkZ 11 ?_;refine tkR 12 fun K hK=>?_
     go_simp;have hbS:=hHeld.1;refine (HO2.out _).mono ?_;rintro e w10 ⟨rfl,hb10⟩;simp only[Ra.v,ofI]
     have HBT:=zH (bstep hbS hb10);go_wp2_with fail;refine tkK hK (HSS.out _ HBT.out) fun hHeld=>?_
     clear hK K;refine tkR 13 fun K hK=>?_
     go_simp;have hbS:=hHeld.1;refine (HCM.out _).mono ?_;rintro e w10 ⟨rfl,hb10⟩;simp only[Ra.v,ofI]
     have HBT:=zH (bstep hbS hb10);go_wp2_with fail;refine tkK hK (HSS.out _ HBT.out) fun hHeld=>?_
     clear hK K;refine tkZ 14 ?_;refine tkZ 15 ?_;refine tkZ 16 ?_;refine wpAnyH_done (by kernel_rfl) ?_ _;refine NoPanic.normal ?_;go_wp2;go_ret;exact⟨by simp[hsqd,hcqd],bstep HB7.out HBT.out⟩
    ·have hcqd:decide (cq≤0)=false:=decide_eq_false hcq;refine wp_region_noPanic ?_;refine wp_region_held_drew (S:=(fun w'=>Below w7.heap.size w7 w'∧w'.cell? ⟨N,0,none⟩=some (.bool qn)∧w'.cell? ⟨N,1,none⟩=some (.string qm)∧w'.cell? ⟨N,2,none⟩=some (.string qd))) (by kernel_rfl) (HSS.out _ (drewN_below w7.heap.size w7 1)) (fun hHeld=>?_);refine tkZ 0 ?_;refine tkZ 1 ?_;refine tkR 2 fun K hK=>?_
     go_simp;have hbS:=hHeld.1;refine (HO1.out _).mono ?_;rintro e w10 ⟨rfl,hb10⟩;simp only[Ra.v,ofI]
     have HBT:=zH (bstep hbS hb10);go_wp2_with fail;refine tkK hK (HSS.out _ HBT.out) fun hHeld=>?_
     clear hK K;refine tkZ 3 ?_;refine tkY 4 (.bool true) rfl ?_ ?_
     ·intro w hSw;(try dsimp only at hSw);go_simp
      all_goals with_reducible rfl
     try simp only[Act.put,tk1,tk2,tk3,tk4,tk5,tk6]
     refine tkZ 5 ?_;refine tkZ 6 ?_;refine tkR 7 fun K hK=>?_
     go_simp;have hbS:=hHeld.1;refine (HSG.out _).mono ?_;rintro e w10 ⟨rfl,hb10⟩;simp only[Ra.v,ofI]
     have HBT:=zH (bstep hbS hb10);go_wp2_with fail;refine tkK hK (HSS.out _ HBT.out) fun hHeld=>?_
     clear hK K;refine tkZ 8 ?_;refine tkZ 9 ?_;refine tkZ 10 ?_;refine tkZ 11 ?_;refine tkR 12 fun K hK=>?_
     go_simp;have hbS:=hHeld.1;refine (HO2.out _).mono ?_;rintro e w10 ⟨rfl,hb10⟩;simp only[Ra.v,ofI]
     have HBT:=zH (bstep hbS hb10);go_wp2_with fail;refine tkK hK (HSS.out _ HBT.out) fun hHeld=>?_
     clear hK K;refine tkR 13 fun K hK=>?_
     go_simp;have hbS:=hHeld.1;refine (HCM.out _).mono ?_;rintro e w10 ⟨rfl,hb10⟩;simp only[Ra.v,ofI]
     have HBT:=zH (bstep hbS hb10);go_wp2_with fail;refine tkK hK (HSS.out _ HBT.out) fun hHeld=>?_
     clear hK K;refine tkZ 14 ?_;refine tkZ 15 ?_;refine tkZ 16 ?_;refine wpAnyH_done (by kernel_rfl) ?_ _;refine NoPanic.normal ?_;go_wp2;go_ret;exact⟨by simp[hsqd,hcqd],bstep HB7.out HBT.out⟩
   ·have hsqd:decide (0<sq)=false:=decide_eq_false hsq;refine wp_region_noPanic ?_;refine wp_region_held_drew (S:=(fun w'=>Below w7.heap.size w7 w'∧w'.cell? ⟨N,0,none⟩=some (.bool qn)∧w'.cell? ⟨N,1,none⟩=some (.string qm)∧w'.cell? ⟨N,2,none⟩=some (.string qd))) (by kernel_rfl) (HSS.out _ (drewN_below w7.heap.size w7 1)) (fun hHeld=>?_);refine tkZ 0 ?_;refine tkZ 1 ?_;refine tkR 2 fun K hK=>?_
    go_simp;have hbS:=hHeld.1;refine (HO1.out _).mono ?_;rintro e w10 ⟨rfl,hb10⟩;simp only[Ra.v,ofI]
    have HBT:=zH (bstep hbS hb10);go_wp2_with fail;refine tkK hK (HSS.out _ HBT.out) fun hHeld=>?_
    clear hK K;refine tkZ 3 ?_;refine tkY 4 (.bool true) rfl ?_ ?_
    ·intro w hSw;(try dsimp only at hSw);go_simp
     all_goals with_reducible rfl
    try simp only[Act.put,tk1,tk2,tk3,tk4,tk5,tk6]
    refine tkZ 5 ?_;refine tkZ 6 ?_;refine tkR 7 fun K hK=>?_
    go_simp;have hbS:=hHeld.1;refine (HSG.out _).mono ?_;rintro e w10 ⟨rfl,hb10⟩;simp only[Ra.v,ofI]
    have HBT:=zH (bstep hbS hb10);go_wp2_with fail;refine tkK hK (HSS.out _ HBT.out) fun hHeld=>?_
    clear hK K;refine tkZ 8 ?_;refine tkZ 9 ?_;refine tkZ 10 ?_;refine tkN 11 rfl ?_
    try simp only[Act.put,tk1,tk2,tk3,tk4,tk5,tk6]
    refine tkN 12 rfl ?_
    try simp only[Act.put,tk1,tk2,tk3,tk4,tk5,tk6]
    refine tkN 13 rfl ?_
    try simp only[Act.put,tk1,tk2,tk3,tk4,tk5,tk6]
    refine tkN 14 rfl ?_
    try simp only[Act.put,tk1,tk2,tk3,tk4,tk5,tk6]
    refine tkZ 15 ?_;refine tkZ 16 ?_;refine wpAnyH_done (by kernel_rfl) ?_ _;refine NoPanic.normal ?_;go_wp2;go_ret;exact⟨by simp[hsqd],bstep HB7.out HBT.out⟩
  ·have hsn:decide (sg≤0)=true:=decide_eq_true (by omega);have hdp:decide (0<sg)=false:=decide_eq_false hsg;rw[hdp];go_enter Tryz.func75,Tryz.ntmps75
   go_upto_region 1 with fail
   simp only[←hW,←hB]
   clear hW hB;go_wp2_with fail;refine (HF1.out W).mono ?_;rintro e w5 ⟨rfl,hb5⟩;have HB5:=zH (bstep HBA.out hb5);have HK5:=zH (HK.out.below hb5 HK.out.lt);have hk5:=HK5.out.cells;clear hb5;go_wp2_with fail;refine (HF2.out w5).mono ?_;rintro e w6 ⟨rfl,hb6⟩;have HB6:=zH (bstep HB5.out hb6);have HK6:=zH (HK5.out.below hb6 HK5.out.lt);have hk6:=HK6.out.cells;clear hb6;go_wp2_with fail;refine (HS1.out w6).mono ?_;rintro e w8 ⟨rfl,hb8⟩;have HB8:=zH (bstep HB6.out hb8);clear hb8;go_wp2;go_ret;exact⟨by simp,HB8.out⟩
 ·skip
  go_enter Tryz.func75,Tryz.ntmps75
  go_upto_region 1 with fail
  simp only[←hW,←hB]
  clear hW hB;go_wp2;go_ret;exact⟨by simp,HBA.out⟩
theorem uProvision_any (sg:List Sg) (x:Pv × Hd) (A1:Option Addr) (k1 c1:Nat) (w:World) (hL:LaidK w) (hk1:k1=sg.length) (hm1:k1≤maxLen) (hr1:Rd w A1 (sgs sg)) (hb:RowAt w Nd.cells x.1.body x.2) (hs:FineR x.1.step) (hc:FineR x.1.cap) (hf:∀n∈x.1.body,Fine n):
  Calls Tryz.prog 29 #[.slice A1 k1 c1,.agg (pvCells x).toArray] w fun e w'=>e=.returned (.int .i64 (provE sg x.1))∧Below w.heap.size w w':=by
 have HT:=zH (fun W (h:Below w.heap.size w W)=>kType_any sg x.1.body A1 x.2.a k1 c1 x.2.n x.2.c W (hL.below h) hk1 hm1 (hr1.below h) ⟨(hb.below h).len,(hb.below h).cap,(hb.below h).max,(hb.below h).rd⟩ hf);have HPL:=zH (fun W=>uPlain_any x W);have HCP:=zH (fun W=>uCapped_any x W hs hc);have HL:Hid (∀W,Below w.heap.size w W→LaidK W):=fun W hb=>hL.below hb
 have HV1:Hid ((typeE sg x.1.body).2≠0→provE sg x.1=(typeE sg x.1.body).2):=fun h=>by unfold provE;rw[if_pos h]
 have HV2:Hid ((typeE sg x.1.body).2=0→decide ((typeE sg x.1.body).1=x.1.ty)=false→provE sg x.1=13):=fun h h2=>by unfold provE;rw[if_neg (by rw[h];simp),if_pos (of_decide_eq_false h2)]
 have HV3:Hid ((typeE sg x.1.body).2=0→decide ((typeE sg x.1.body).1=x.1.ty)=true→provE sg x.1=if (x.1.charge&& !decide ((typeE sg x.1.body).1=tCash))||(!plainP x.1&& !cappedP x.1) then 1 else 0):=fun h h2=>by
  have e:=of_decide_eq_true h2;unfold provE;rw[if_neg (by rw[h];simp),if_neg (by rw[e];simp),e];congr 3;rw[decide_not]
 have HNE:=fun W=>neq_ty (typeE sg x.1.body).1 x.1.ty W
 have HNC:=fun W=>neq_ty (typeE sg x.1.body).1 tCash W
 generalize provE sg x.1=R at*;generalize typeE sg x.1.body=te at*;generalize plainP x.1=pl at*;generalize cappedP x.1=cp at*;clear hL hk1 hm1 hr1 hb hs hc hf;obtain⟨te,z⟩:=te;simp only at HT HV1 HV2 HV3 HNE HNC;generalize decide (te=x.1.ty)=q1 at*;generalize decide (te=tCash)=q2 at*;obtain⟨et,em,ed⟩:=te;obtain⟨⟨nm,⟨tt,tm,td⟩,ch,⟨sn1,sn2,sn3⟩,⟨cn1,cn2,cn3⟩,bo⟩,⟨ha,hn,hcc⟩⟩:=x;unfold pvCells at HPL HCP⊢;simp only[Ty.v,tCash] at HT HNE HNC HPL HCP HV3⊢;obtain⟨W,hW⟩:=zE (w.alloc (.cells #[.string nm,.bool tt,.int .i64 tm,.int .i64 td,.slice ha hn hcc,.bool ch,.bool sn1,.string sn2,.string sn3,.bool cn1,.string cn2,.string cn3] 41));obtain⟨B,hB⟩:=zE w.heap.size;have HK:Hid (Blk W B 41 [.string nm,.bool tt,.int .i64 tm,.int .i64 td,.slice ha hn hcc,.bool ch,.bool sn1,.string sn2,.string sn3,.bool cn1,.string cn2,.string cn3]):=by show Blk _ _ _ _;rw[hW,hB];exact Blk.new w _ _
 have HBA:Hid (Below w.heap.size w W):=by show Below _ _ _;rw[hW];exact zB _ _
 have hkc:=HK.out.cells;go_enter Tryz.func29,Tryz.ntmps29
 go_upto_region 1 with fail
 simp only[←hW,←hB]
 clear hW hB;go_wp2_with fail;refine (HT.out W HBA.out).mono ?_;rintro e w5 ⟨rfl,hb5⟩;have HB5:=zH (bstep HBA.out hb5);have HK5:=zH (HK.out.below hb5 HK.out.lt);clear hb5 hkc HT
 go_upto_region 2 with fail
 obtain⟨w6,hw6⟩:∃x,x=w5.alloc (.cells #[.bool et,.int .i64 em,.int .i64 ed] 35):=⟨_,rfl⟩
 obtain⟨N,hN⟩:=zE w5.heap.size;have HKN:Hid (Blk w6 N 35 [.bool et,.int .i64 em,.int .i64 ed]):=by show Blk _ _ _ _;rw[hw6,hN];exact Blk.new _ _ _
 have HK6:Hid (Blk w6 B 41 [.string nm,.bool tt,.int .i64 tm,.int .i64 td,.slice ha hn hcc,.bool ch,.bool sn1,.string sn2,.string sn3,.bool cn1,.string cn2,.string cn3]):=by show Blk _ _ _ _;rw[hw6];exact HK5.out.alloc _
 have HB6:Hid (Below w.heap.size w w6):=by show Below _ _ _;rw[hw6];exact bstep HB5.out (zB _ _)
 simp only[←hw6,←hN]
 clear hw6 hN;have hkn:=HKN.out.cells;have hk6:=HK6.out.cells;have g0:=(HL.out _ HB6.out).scash 0 _ rfl;have g1:=(HL.out _ HB6.out).scash 1 _ rfl;have g2:=(HL.out _ HB6.out).scash 2 _ rfl;unfold tCash at g0 g1 g2;simp only at g0 g1 g2;by_cases hz:z=0
 ·subst hz;cases q1
  ·obtain rfl:R=13:=HV2.out rfl rfl;go_wp2;go_ret;exact⟨rfl,HB6.out⟩
  ·have hv3:=HV3.out rfl rfl;clear HV1 HV2 HV3;by_cases h1:(ch&& !q2)=true
   ·obtain⟨rfl,h2⟩:=Bool.and_eq_true_iff.1 h1;obtain rfl:q2=false:=by simpa using h2
    obtain rfl:R=1:=hv3;clear h1 h2;go_wp2;go_ret;exact⟨rfl,HB6.out⟩
   ·have h1':(ch&& !q2)=false:=by simpa using h1
    rw[h1',Bool.false_or] at hv3;have HV:=zH hv3;clear h1 hv3;have HX:Hid (∀W',Below w.heap.size w W'→True):=fun _ _=>trivial
    go_upto_region 6 with fail
    go_cut [23] from 24 to 30 (fun v wc=>v=.bool false∧wc=w6)
    case first=>
     cases ch
     ·go_wp2
      go_meet
      case rel=>exact⟨rfl,rfl⟩
     ·obtain rfl:q2=true:=by simpa using h1'
      go_wp2
      go_meet
      case rel=>exact⟨rfl,rfl⟩
    case rest=>
     obtain⟨rfl,rfl⟩:=hcut;clear h1';go_wp2_with fail;refine (HPL.out _).mono ?_;rintro e w7 ⟨rfl,hb7⟩;have HB7:=zH (bstep HB6.out hb7);have hk7:=(HK6.out.below hb7 HK6.out.lt).cells;clear hb7;cases pl
     ·go_wp2_with fail;refine (HCP.out _).mono ?_;rintro e w8 ⟨rfl,hb8⟩;have HB8:=zH (bstep HB7.out hb8);clear hb8;cases cp
      ·obtain rfl:R=1:=HV.out;go_wp2;go_ret;exact⟨rfl,HB8.out⟩
      ·obtain rfl:R=0:=HV.out;go_wp2;go_ret;exact⟨rfl,HB8.out⟩
     ·obtain rfl:R=0:=HV.out;go_wp2;go_ret;exact⟨rfl,HB7.out⟩
 ·obtain rfl:R=z:=HV1.out hz;have hzb:(R !=0)=true:=by simp[hz]
  have hzc:(R==0)=false:=by simp[hz]
  clear HV1 HV2 HV3 hz;go_wp2;go_ret;exact⟨rfl,HB6.out⟩
def firstE:List Int→Int
 |[]=>0
 |z::r=>if z=0 then firstE r else z
def checkL (l:Lw):Int:=if 20<l.facts.length∨8<l.schs.length∨30<l.provs.length then 2 else if namedL l≠0 then namedL l else if typedL l=false then 13 else
 if firstE (l.schs.map fun s=>rateE s.brs)≠0 then firstE (l.schs.map fun s=>rateE s.brs) else firstE (l.provs.map (provE (sigsL l)))
theorem firstE_cons (z:Int) (r:List Int):firstE (z::r)=if z=0 then firstE r else z:=rfl
theorem uCheck_any (l:Lw) (ss:List (Sc × Hd)) (ps:List (Pv × Hd)) (f s p:Hd) (w:World) (hL:LaidK w) (h:LawAt w l ss ps f s p) (hf:FineL l):
  Calls Tryz.prog 13 #[lawV f s p] w fun e w'=>e=.returned (.int .i64 (checkL l))∧Below w.heap.size w w':=by
 have HNA:=zH (fun W hb=>uNamed_any l ss ps f s p W (hL.below hb).e (h.below hb) hf);have HTY:=zH (fun W hb=>uTyped_any l ss ps f s p W (h.below hb));have HSI:=zH (fun W hb=>uSigs_any l ss ps f s p W (h.below hb) hf);have HL:Hid (∀W,Below w.heap.size w W→LaidK W):=fun W hb=>hL.below hb
 have HLA:=zH h;have HF:=zH hf;obtain⟨R,hR⟩:=zE (checkL l);have HFN:Hid (f.n=l.facts.length):=h.f.len;have HSN:Hid (s.n=l.schs.length):=by show _=_;rw[←h.sl,List.length_map];exact h.s.len
 have HPN:Hid (p.n=l.provs.length):=by show _=_;rw[←h.pl,List.length_map];exact h.p.len
 have HVM:Hid (20<f.n∨8<s.n∨30<p.n→R=2):=fun h=>by rw[hR];unfold checkL;rw[HFN.out,HSN.out,HPN.out] at h;rw[if_pos h]
 have HVN:Hid (¬(20<f.n∨8<s.n∨30<p.n)→R=if namedL l≠0 then namedL l else if typedL l=false then 13 else if firstE (l.schs.map fun s=>rateE s.brs)≠0 then firstE (l.schs.map fun s=>rateE s.brs) else firstE (l.provs.map (provE (sigsL l)))):=fun h=>by
  rw[hR];unfold checkL;rw[HFN.out,HSN.out,HPN.out] at h;rw[if_neg h]
 have HFX:Hid (∀k (hk:k<l.schs.length) (hk':k<ss.length),l.schs[k]=ss[k].1):=fun k hk hk'=>by have e:=h.sl;simp[←e]
 have HPX:Hid (∀k (hk:k<l.provs.length) (hk':k<ps.length),l.provs[k]=ps[k].1):=fun k hk hk'=>by have e:=h.pl;simp[←e]
 rw[←hR];generalize typedL l=ty at*;generalize namedL l=nz at*;clear hL h hf hR;obtain⟨fa,fn,fc⟩:=f;obtain⟨sa,sn,sc⟩:=s;obtain⟨pa,pn,pc⟩:=p;unfold lawV at HNA HTY HSI⊢;simp only at HNA HTY HSI HFN HSN HPN HVM HVN⊢;obtain⟨W,hW⟩:=zE (w.alloc (.cells #[.slice fa fn fc,.slice sa sn sc,.slice pa pn pc] 28));obtain⟨B,hB⟩:=zE w.heap.size;have HK:Hid (Blk W B 28 [.slice fa fn fc,.slice sa sn sc,.slice pa pn pc]):=by show Blk _ _ _ _;rw[hW,hB];exact Blk.new w _ _
 have HBA:Hid (Below w.heap.size w W):=by show Below _ _ _;rw[hW];exact zB _ _
 have hkc:=HK.out.cells;by_cases hm:20<fn∨8<sn∨30<pn
 ·obtain rfl:R=2:=HVM.out hm;go_enter Tryz.func13,Tryz.ntmps13
  go_upto_region 1 with fail
  simp only[←hW,←hB]
  clear hW hB;by_cases h1:20<fn
  ·go_wp2;go_ret;exact⟨rfl,HBA.out⟩
  by_cases h2:8<sn
  ·go_wp2;go_ret;exact⟨rfl,HBA.out⟩
  have h3:30<pn:=by omega
  clear hm;go_wp2;go_ret;exact⟨rfl,HBA.out⟩
 have hv:=HVN.out hm;have h1:¬20<fn:=fun h=>hm (.inl h)
 have h2:¬8<sn:=fun h=>hm (.inr (.inl h))
 have h3:¬30<pn:=fun h=>hm (.inr (.inr h))
 have HV:=zH hv;clear hm HVM HVN hv;go_enter Tryz.func13,Tryz.ntmps13
 go_upto_region 1 with fail
 simp only[←hW,←hB]
 clear hW hB;go_wp2_with fail;refine (HNA.out W HBA.out).mono ?_;rintro e w5 ⟨rfl,hb5⟩;have HB5:=zH (bstep HBA.out hb5);have HK5:=zH (HK.out.below hb5 HK.out.lt);have hk5:=HK5.out.cells;clear hb5 HNA hkc;by_cases hz:nz=0;rotate_left
 ·obtain rfl:R=nz:=by rw[HV.out,if_pos hz]
  have hzb:(R !=0)=true:=by simp[hz]
  have hzc:(R==0)=false:=by simp[hz]
  clear HV;go_wp2;go_ret;exact⟨rfl,HB5.out⟩
 subst hz;go_wp2_with fail;refine (HTY.out w5 HB5.out).mono ?_;rintro e w6 ⟨rfl,hb6⟩;have HB6:=zH (bstep HB5.out hb6);have HK6:=zH (HK5.out.below hb6 HK5.out.lt);have hk6:=HK6.out.cells;clear hb6 HTY hk5;cases ty
 ·obtain rfl:R=13:=by rw[HV.out];simp
  clear HV;go_wp2;go_ret;exact⟨rfl,HB6.out⟩
 have HV2:Hid (R=if firstE (l.schs.map fun s=>rateE s.brs)≠0 then firstE (l.schs.map fun s=>rateE s.brs) else firstE (l.provs.map (provE (sigsL l)))):=by show _=_;rw[HV.out];simp
 clear HV;go_wp2_with fail
 go_loopg [38] sn (fun g iv wr=>∃j:Nat,j+g=sn∧iv=.int .i64 j∧Hid (firstE (l.schs.map fun s=>rateE s.brs)=firstE ((l.schs.drop j).map fun s=>rateE s.brs))∧Hid (Below w.heap.size w wr)∧Hid (Blk wr B 28 [.slice fa fn fc,.slice sa sn sc,.slice pa pn pc]))
 case atStart=>exact⟨0,by omega,rfl,rfl,HB6,HK6⟩
 case round=>
  obtain⟨j,hj,rfl,hfe,hbr,hkr⟩:=hrel;by_cases hlt:j<sn
  ·have hjx:j<l.schs.length:=by rw[←HSN.out];exact hlt
   have hjm:j<ss.length:=by rw[←HLA.out.s.len];exact hlt
   obtain⟨b,off,hA,hb,hc⟩:=Rd.row scCells 4 (fun _=>rfl) (by omega) (HLA.out.s.below hbr.out).rd hjm;have hrow:=(HLA.out.sb _ (List.getElem_mem hjm)).below hbr.out;have hfin:=HF.out.sb _ (List.getElem_mem hjx);have hfe2:=hfe.out;rw[List.drop_eq_getElem_cons hjx,List.map_cons,firstE_cons] at hfe2;rw[HFX.out j hjx hjm] at hfe2 hfin;simp only at hA;subst hA;generalize ss[j]=x at*;obtain⟨⟨nm,mo,da,br⟩,⟨ha,hn,hcc⟩⟩:=x;simp only at hrow hfin hfe2;have HRC:=zH (fun W (hb:Below wr.heap.size wr W)=>rCheck_any nm mo da br ha hn hcc W (hrow.below hb).len (Nat.le_trans hrow.cap hrow.max) (hrow.below hb).rd hfin);have c0:=hc 0 _ rfl;have c1:=hc 1 _ rfl;have c2:=hc 2 _ rfl;have c3:=hc 3 _ rfl;simp only[Nat.add_zero] at c0;generalize rateE br=z at*;have HFE:=zH hfe2;have hba:=(Below.refl wr.heap.size wr).alloc (Nat.le_refl _) (.cells #[.string nm,.int .i64 mo,.int .i64 da,.slice ha hn hcc] 79);have HBX:=zH hba;clear hc hrow hfin hfe2 hfe hba;go_wp2_with fail;refine (HRC.out _ HBX.out).mono ?_;rintro e w7 ⟨rfl,hb7⟩;have HB7:=zH (bstep hbr.out (bstep HBX.out hb7));have HK7:=zH (hkr.out.below (bstep HBX.out hb7) hkr.out.lt);clear hb7 c0 c1 c2 c3 hbr hkr;by_cases hz:z=0
   ·subst hz;have HFE2:Hid (firstE (l.schs.map fun s=>rateE s.brs)=firstE ((l.schs.drop (j+1)).map fun s=>rateE s.brs)):=by show _=_;rw[HFE.out,if_pos rfl]
    go_wp2
    go_roundg (sn-(j+1))
    case measure=>omega
    case rel=>exact⟨j+1,by omega,by go_num,HFE2,HB7,HK7⟩
   ·obtain rfl:R=z:=by rw[HV2.out,HFE.out,if_neg hz,if_pos hz]
    have hzb:(R !=0)=true:=by simp[hz]
    have hzc:(R==0)=false:=by simp[hz]
    clear HV2 HFE;go_wp2;go_ret;exact⟨rfl,HB7.out⟩
  ·have hjn:j=sn:=by omega
   have hv3:R=firstE (l.provs.map (provE (sigsL l))):=by
    rw[HV2.out,hfe.out,hjn,HSN.out,List.drop_length];rfl
   have HV3:=zH hv3;have hkr2:=hkr.out.cells;have HBR:=hbr;clear hv3 HV2 hfe hjn HK6 HB6 hk6;go_wp2_with fail;refine (HSI.out wr hbr.out).mono ?_;rintro e w7 ⟨hg,rfl,hgr,hb7⟩;have HB7:=zH (bstep HBR.out hb7);have HK7:=zH (hkr.out.below hb7 hkr.out.lt);have hk7:=HK7.out.cells;obtain⟨ga,gn,gc⟩:=hg;have HGR:=zH hgr;clear hb7 hgr hbr hkr hkr2;simp only at HGR⊢;go_wp2_with fail
   go_loopg [53] pn (fun g iv wr=>∃j:Nat,j+g=pn∧iv=.int .i64 j∧Hid (R=firstE ((l.provs.drop j).map (provE (sigsL l))))∧Hid (Below w7.heap.size w7 wr))
   case atStart=>exact⟨0,by omega,rfl,HV3,Below.refl _ _⟩
   case round=>
    obtain⟨j,hj,rfl,hfe,hbr⟩:=hrel;clear HV3;by_cases hlt:j<pn
    ·have hjx:j<l.provs.length:=by rw[←HPN.out];exact hlt
     have hjm:j<ps.length:=by rw[←HLA.out.p.len];exact hlt
     have hbw:=bstep HB7.out hbr.out;obtain⟨b,off,hA,hb,hc⟩:=Rd.row pvCells 12 (fun _=>rfl) (by omega) (HLA.out.p.below hbw).rd hjm;have hrow:=(HLA.out.pb _ (List.getElem_mem hjm)).below hbw;have hfin:=HF.out.pb _ (List.getElem_mem hjx);have hfe2:=hfe.out;rw[List.drop_eq_getElem_cons hjx,List.map_cons,firstE_cons] at hfe2;rw[HPX.out j hjx hjm] at hfe2 hfin;simp only at hA;subst hA;generalize ps[j]=x at*;have HPV:=zH (fun W (hb:Below wr.heap.size wr W)=>uProvision_any (sigsL l) x ga gn gc W (HL.out _ (bstep hbw hb)) HGR.out.len (Nat.le_trans HGR.out.cap HGR.out.max) (HGR.out.below (bstep hbr.out hb)).rd (hrow.below hb) hfin.1 hfin.2.1 hfin.2.2);generalize provE (sigsL l) x.1=z at*;obtain⟨⟨nm,⟨tt,tm,td⟩,ch,⟨sn1,sn2,sn3⟩,⟨cn1,cn2,cn3⟩,bo⟩,⟨ha,hn,hcc⟩⟩:=x;unfold pvCells at HPV;simp only at HPV;have c0:=hc 0 _ rfl;have c1:=hc 1 _ rfl;have c2:=hc 2 _ rfl;have c3:=hc 3 _ rfl;have c4:=hc 4 _ rfl;have c5:=hc 5 _ rfl;have c6:=hc 6 _ rfl;have c7:=hc 7 _ rfl;have c8:=hc 8 _ rfl;have c9:=hc 9 _ rfl;have c10:=hc 10 _ rfl;have c11:=hc 11 _ rfl;simp only[Nat.add_zero] at c0;have HFE:=zH hfe2;have hba:=(Below.refl wr.heap.size wr).alloc (Nat.le_refl _) (.cells #[.string nm,.bool tt,.int .i64 tm,.int .i64 td,.slice ha hn hcc,.bool ch,.bool sn1,.string sn2,.string sn3,.bool cn1,.string cn2,.string cn3] 41);have HBX:=zH hba;clear hc hrow hfin hfe2 hfe hba hbw;go_wp2_with fail;refine (HPV.out _ HBX.out).mono ?_;rintro e w8 ⟨rfl,hb8⟩;have HB8:=zH (bstep hbr.out (bstep HBX.out hb8));clear hb8 c0 c1 c2 c3 c4 c5 c6 c7 c8 c9 c10 c11 hbr;by_cases hz:z=0
     ·subst hz;have HFE2:Hid (R=firstE ((l.provs.drop (j+1)).map (provE (sigsL l)))):=by show _=_;rw[HFE.out,if_pos rfl]
      clear HFE;go_wp2
      go_roundg (pn-(j+1))
      case measure=>omega
      case rel=>exact⟨j+1,by omega,by go_num,HFE2,HB8⟩
     ·obtain rfl:R=z:=by rw[HFE.out,if_neg hz]
      have hzb:(R !=0)=true:=by simp[hz]
      have hzc:(R==0)=false:=by simp[hz]
      have HBE:=zH (bstep HB7.out HB8.out);clear HFE;go_wp2;go_ret;exact⟨rfl,HBE.out⟩
    ·have hjn:j=pn:=by omega
     obtain rfl:R=0:=by rw[hfe.out,hjn,HPN.out,List.drop_length];rfl
     have HBE:=zH (bstep HB7.out hbr.out);clear hfe hbr hjn;go_wp2;go_ret;exact⟨rfl,HBE.out⟩
theorem must_yes (w:World):Calls Tryz.prog 49 #[.bool true] w fun e w'=>e=.returned (.tuple #[])∧w'=w:=by
 go_enter Tryz.func49,Tryz.ntmps49;go_wp2;go_end0;exact⟨rfl,rfl⟩
theorem uNumber_any (s:ByteArray) (w:World) (hL:Laid w) (hs:s.size≤1048576) (hk:(ratParse s).2=true):Calls Tryz.prog 92 #[.string s] w fun e w'=>e=.returned (ratParse s).1.v∧Below w.heap.size w w':=by
 obtain⟨W,hW⟩:=zE (w.alloc (.cells #[.bool false,.string ⟨#[]⟩,.string ⟨#[]⟩] 39));obtain⟨B,hB⟩:=zE w.heap.size;have HK:Hid (Blk W B 39 [.bool false,.string ⟨#[]⟩,.string ⟨#[]⟩]):=by show Blk _ _ _ _;rw[hW,hB];exact Blk.new w _ _
 have HBA:Hid (Below w.heap.size w W):=by show Below _ _ _;rw[hW];exact zB _ _
 have HP:=zH (qParse_any s W (hL.below HBA.out) hs);rw[hk] at HP;generalize (ratParse s).1=x at*;obtain⟨x1,x2,x3⟩:=x;unfold Ra.v at HP⊢;simp only at HP⊢;have HBB:=zH (Nat.le_of_eq hB.symm);clear hL hk;go_enter Tryz.func92,Tryz.ntmps92
 go_upto_region 1 with fail
 simp only[←hW,←hB]
 clear hW hB;go_wp2_with fail;refine HP.out.mono ?_;rintro e w1 ⟨rfl,hb1⟩;have HB1:=zH (bstep HBA.out hb1);have HK1:Hid (Blk w1 B 39 [.bool false,.string ⟨#[]⟩,.string ⟨#[]⟩]):=HK.out.below hb1 HK.out.lt;have HA:Hid (Below w1.heap.size w1 (w1.alloc (.cells #[.bool x1,.string x2,.string x3] 39))):=(Below.refl _ _).alloc (Nat.le_refl _) _;obtain⟨w2,hw2⟩:=zE (w1.alloc (.cells #[.bool x1,.string x2,.string x3] 39));obtain⟨C,hC⟩:=zE w1.heap.size;have HK2:Hid (Blk w2 B 39 [.bool false,.string ⟨#[]⟩,.string ⟨#[]⟩]):=by show Blk _ _ _ _;rw[hw2];exact HK1.out.below HA.out HK1.out.lt
 have HK3:Hid (Blk w2 C 39 [.bool x1,.string x2,.string x3]):=by show Blk _ _ _ _;rw[hw2,hC];exact Blk.new w1 _ _
 have HB2:Hid (Below w.heap.size w w2):=by show Below _ _ _;rw[hw2];exact bstep HB1.out HA.out
 have hM:=must_yes w2;have hk2:=HK2.out.cells;have hk3:=HK3.out.cells;have hf2:=HK2.out.froz;have hne:¬B=C:=by have:=HK1.out.lt;omega
 have hne':¬C=B:=fun e=>hne e.symm
 clear hb1 HP
 go_upto_region 2 with fail
 simp only[←hw2,←hC]
 clear hw2 hC;go_wp2_with fail;refine hM.mono ?_;rintro e w3 ⟨rfl,rfl⟩;go_wp2;have HKF:=((HK2.out.set 0 (.bool x1)).set 1 (.string x2)).set 2 (.string x3);have hc:=HKF.cells;refine bodyPost_ret (v:=.agg #[.bool x1,.string x2,.string x3]) (by simp[results,Tryz.results92,go_sem,hc]) rfl ⟨rfl,?_⟩;exact ((HB2.out.setCell (p:=⟨B,0,none⟩) HBB.out _).setCell (p:=⟨B,1,none⟩) HBB.out _).setCell (p:=⟨B,2,none⟩) HBB.out _
theorem kindN_any (a b:Int) (w:World):Calls Tryz.prog 12 #[.int .i64 a,.int .i64 b] w fun e w'=>e=.returned (Ty.v ⟨false,a,b⟩)∧Below w.heap.size w w':=by
 unfold Ty.v;simp only
 obtain⟨W,hW⟩:=zE (w.alloc (.cells #[.bool false,.int .i64 0,.int .i64 0] 35));obtain⟨B,hB⟩:=zE w.heap.size;have HK:Hid (Blk W B 35 [.bool false,.int .i64 0,.int .i64 0]):=by show Blk _ _ _ _;rw[hW,hB];exact Blk.new w _ _
 have HBA:Hid (Below w.heap.size w W):=by show Below _ _ _;rw[hW];exact zB _ _
 have HBB:=zH (Nat.le_of_eq hB.symm);have hkb:=HK.out.cells;have hfb:=HK.out.froz;go_enter Tryz.func12,Tryz.ntmps12
 go_upto_region 1 with fail
 simp only[←hW,←hB]
 clear hW hB;go_wp2;have HKF:=((HK.out.set 0 (.bool false)).set 1 (.int .i64 a)).set 2 (.int .i64 b);have hc:=HKF.cells;refine bodyPost_ret (v:=.agg #[.bool false,.int .i64 a,.int .i64 b]) (by simp[results,Tryz.results12,go_sem,hc]) rfl ⟨rfl,?_⟩;exact ((HBA.out.setCell (p:=⟨B,0,none⟩) HBB.out _).setCell (p:=⟨B,1,none⟩) HBB.out _).setCell (p:=⟨B,2,none⟩) HBB.out _
end Go.Proofs.YtmmbjngbeiokeaaGreatDoor
