/- A part of the proof: Ua Ub U5 U6 Uy U7. -/
import Derived.Maps.OwnOps
import Derived.Maps.RangeWalk
import Derived.Maps.Views
import Derived.StringKeys
import Derived.Deep.Cut
import Derived.Deep.CutRange
import Derived.BigQuiet
import Derived.Deep.RegionHeld3
import Derived.Test.YtgfeadgafdijaaaGreatDoorJ01
import Derived.Test.YtgfeadgafdijaaaGreatDoorJ06
import Derived.Test.YtgfeadgafdijaaaGreatDoorJ18
import Derived.Test.YtgfeadgafdijaaaGreatDoorJ19
import Derived.Test.YtgfeadgafdijaaaGreatDoorJ31
import Derived.Test.YtgfeadgafdijaaaGreatDoorJ32
set_option linter.unusedVariables false
set_option linter.unusedSimpArgs false
set_option maxRecDepth 100000
set_option maxHeartbeats 40000000
namespace Go.Proofs.YtgfeadgafdijaaaGreatDoor
open Go.RowKit Go.Maps
def sortedB:List ByteArray→Bool
 |a::b::r=>Op.bytesLess a.toList b.toList&&sortedB (b::r)
 |_=>true
theorem zx (l:List ByteArray):sortedB l=true↔∀k (h:k+1<l.length),Op.bytesLess (l[k]'(by omega)).toList l[k+1].toList=true:=by
 induction l with
 |nil=>exact⟨fun _ k h=>by simp at h,fun _=>rfl⟩
 |cons a l ih=>
  cases l with
  |nil=>exact⟨fun _ k h=>by simp at h,fun _=>rfl⟩
  |cons b r=>
   rw[sortedB,Bool.and_eq_true,ih];constructor
   ·rintro⟨h1,h2⟩ k h;cases k with
    |zero=>exact h1
    |succ k=>exact h2 k (by simpa using h)
   ·intro h;exact⟨h 0 (by simp),fun k hk=>h (k+1) (by simpa using hk)⟩
def iQ (s:ByteArray) (l:List ByteArray):Nat:=(l.filter fun x=>decide (x=s)).length
theorem zy (s:ByteArray) (a b:List ByteArray):iQ s (a++b)=iQ s a+iQ s b:=by unfold iQ;rw[List.filter_append,List.length_append]
theorem OZ (s t:ByteArray):iQ s [t]=if t=s then 1 else 0:=by
 unfold iQ;by_cases h:t=s
 ·rw[if_pos h,List.filter_cons,decide_eq_true h];rfl
 ·rw[if_neg h,List.filter_cons,decide_eq_false h];rfl
theorem abR (s:ByteArray) (l:List ByteArray):iQ s l≤l.length:=List.length_filter_le _ _
theorem O4 {s:ByteArray} {l:List ByteArray} (h:0<iQ s l):s∈l:=by
 unfold iQ at h;obtain⟨x,hx⟩:=List.exists_mem_of_length_pos h;have:=List.mem_filter.1 hx;rw[←of_decide_eq_true this.2];exact this.1
def Gw (l:List ByteArray):Bool:=l.any fun s=>decide (1<iQ s l)
def yx (l:Lw):List (List ByteArray):=[l.facts.map Dc.name,l.bI.map Sc.name,l.aP.map Pv.name]
def Ai (NS:List (List ByteArray)):Int:=if NS.flatten.all fO then (if NS.all sortedB then (if Gw NS.flatten then 14 else 0) else 11) else 12
def lq (l:Lw):Int:=Ai (yx l)
theorem Qs {s:ByteArray} (h:fO s=true):s.size≤20:=by
 unfold fO nameB at h;rw[Bool.and_eq_true,Bool.and_eq_true,decide_eq_true_eq] at h;have:=h.1.2;show s.data.size≤20;rw[←Array.length_toList];exact this
def Counts (D:DataW Unit) (names:List ByteArray):Prop:=∀s:ByteArray,D.atKey (.string s.data.toList) (.lit (.int .i64 0))=.lit (.int .i64 (iQ s names))
theorem XC {s t:ByteArray} (h:s≠t):(Lit.string s.data.toList)≠.string t.data.toList:=by
 intro e;injection e with e;exact h (ByteArray.ext (Array.toList_inj.1 e))
theorem Counts.put {D:DataW Unit} {names:List ByteArray} {s:ByteArray} (h:Counts D names) (hD:IsMap D):Counts (D.put (.string s.data.toList) (.lit (.int .i64 ((iQ s names:Int)+1)))) (names++[s]):=by
 intro t;rw[zy,OZ];by_cases e:s=t
 ·subst e;rw[atKey_put_same hD (show WideAt.IsKeyLit (.string s.data.toList) from trivial),if_pos rfl];rfl
 ·rw[atKey_put_other (XC (fun h=>e h.symm)),if_neg e];exact h t
theorem Counts.has {D:DataW Unit} {names:List ByteArray} {s:ByteArray} (h:Counts D names) (hs:s∈names):Maps.has D (.string s.data.toList)=true:=by
 cases e:Maps.has D (.string s.data.toList) with
 |true=>rfl
 |false=>
  have h1:=h s;rw[atKey_of_not_has e] at h1;injection h1 with h1;injection h1 with _ h1;exfalso
  have h2:0<iQ s names:=by
   unfold iQ;exact List.length_pos_of_mem (List.mem_filter.2 ⟨hs,decide_eq_true rfl⟩)
  omega
theorem ET:Keyed Tryz.prog 9:=string_keyed Tryz.underlying9
theorem ZJ (w:World):(zeroValue 3).run Tryz.prog w=.ok (.int .i64 0) w:=by kernel_rfl
theorem adI (y0 y1 y2:Hd) (r:Nat) (hr:r<3) (w:World):(Instr.index 116 (.agg #[.slice y0.a y0.n y0.c,.slice y1.a y1.n y1.c,.slice y2.a y2.n y2.c]) (.int .i64 (r:Int))).run Tryz.prog w=
  .ok (.slice (([y0,y1,y2].getD r y0).a) (([y0,y1,y2].getD r y0).n) (([y0,y1,y2].getD r y0).c)) w:=by
 have h:r=0∨r=1∨r=2:=by omega
 rcases h with rfl|rfl|rfl<;>rfl
theorem Rd.str {w:World} {A:Option Addr} {l:List ByteArray} (h:Rd w A (l.flatMap iG)) {j:Nat} (hj:j<l.length):∃b off,A=some ⟨b,off,none⟩∧b<w.heap.size∧∀k (hk:k<l.length),w.cell? ⟨b,off+k,none⟩=some (.string l[k]):=by
 obtain⟨b,off,hA,hb,_⟩:=Rd.row iG 1 (fun _=>rfl) (by omega) h hj;refine⟨b,off,hA,hb,fun k hk=>?_⟩;obtain⟨b',off',hA',hb',hc⟩:=Rd.row iG 1 (fun _=>rfl) (by omega) h hk;rw[hA] at hA';injection hA' with hA';injection hA' with h1 h2;subst h1 h2;have:=hc 0 _ rfl;rw[Nat.mul_one,Nat.add_zero] at this;exact this
theorem LC {NS:List (List ByteArray)} {r:Nat} (hr:r<NS.length):(NS.take (r+1)).flatten=(NS.take r).flatten++NS[r]:=by
 rw[List.take_succ_eq_append_getElem hr,List.flatten_append];simp
theorem abS (a b:ByteArray) (w:World):(binOp .geq 9 (.string a) (.string b)).run Tryz.prog w=.ok (.bool (!Op.bytesLess a.toList b.toList)) w:=by
 simp[binOp,Op.stringOp]
theorem UD (l:Lw) (ss:List (Sc × Hd)) (ps:List (Pv × Hd)) (f s p:Hd) (w:World) (hL:dK w) (h:fG w l ss ps f s p) (hf:lU l):
  Calls Tryz.prog 26 #[dQ f s p] w fun e w'=>e=.returned (.int .i64 (lq l))∧Below w.heap.size w w':=by
 have DJ:=zH (fun W hb=>Ux l ss ps f s p W (h.below hb) hf);have HL:Hid (∀W,Below w.heap.size w W→dK W):=fun W hb=>hL.below hb
 have HLEN:Hid ((yx l).flatten.length≤3000):=by
  have h1:=hf.fn;have h2:=hf.sn;have h3:=hf.pn;show _≤_;unfold yx;simp;omega
 obtain⟨NS,Ro⟩:=zE (yx l);have Rq:Hid (NS.length=3):=by show _=_;rw[Ro];rfl
 have HG:Hid (∀W (y0 y1 y2:Hd),aU W iG (l.facts.map Dc.name) y0→aU W iG (l.bI.map Sc.name) y1→aU W iG (l.aP.map Pv.name) y2→∀r (hr:r<3),aU W iG (NS[r]'(by rw[Rq.out];exact hr)) ([y0,y1,y2].getD r y0)):=fun W y0 y1 y2 h0 h1 h2 r hr=>by
  subst Ro;have h:r=0∨r=1∨r=2:=by omega
  rcases h with rfl|rfl|rfl
  ·exact h0
  ·exact h1
  ·exact h2
 obtain⟨R,hR⟩:=zE (lq l)
 have adJ:Hid ((∃x∈NS.flatten,fO x=false)→R=12):=fun⟨x,hx,h⟩=>by
  rw[hR];unfold lq Ai;rw[←Ro];rw[if_neg];intro h2;rw[List.all_eq_true.1 h2 x hx] at h;cases h
 have HV:Hid ((∀x∈NS.flatten,fO x=true)→R=if NS.all sortedB then (if Gw NS.flatten then 14 else 0) else 11):=fun h=>by
  rw[hR];unfold lq Ai;rw[←Ro,if_pos (List.all_eq_true.2 h)]
 rw[←hR];rw[←Ro] at HLEN;clear hL h hf Ro hR;obtain⟨fa,fn,fc⟩:=f;obtain⟨sa,sn,sc⟩:=s;obtain⟨pa,pn,pc⟩:=p;unfold dQ at DJ⊢;simp only at DJ⊢;obtain⟨W,hW⟩:=zE (w.alloc (.cells #[.slice fa fn fc,.slice sa sn sc,.slice pa pn pc] 26));obtain⟨B,hB⟩:=zE w.heap.size;have HK:Hid (aj W B 26 [.slice fa fn fc,.slice sa sn sc,.slice pa pn pc]):=by show aj _ _ _ _;rw[hW,hB];exact aj.new w _ _
 have aK:Hid (Below w.heap.size w W):=by show Below _ _ _;rw[hW];exact zB _ _
 have hkc:=HK.out.cells;have hmm:=@run_makeMap Tryz.prog;go_enter Tryz.func26,Tryz.ntmps26
 go_upto_region 1 with fail
 simp only[←hW,←hB]
 clear hW hB;go_wp2_with fail;refine (DJ.out W aK.out).mono ?_;rintro e W1 ⟨y0,y1,y2,rfl,r0,r1,r2,hb1⟩;have HB1:=zH (ah aK.out hb1);have JD:=zH (fun W (hb:Below W1.heap.size W1 W) r hr=>HG.out W y0 y1 y2 (r0.below hb) (r1.below hb) (r2.below hb) r hr);have HIX:=zH (adI y0 y1 y2);clear hb1 r0 r1 r2 HG hkc DJ
 go_upto_region 2 with fail
 obtain⟨W2,hW2⟩:∃x,x=(W1.alloc (.map #[] 0)).alloc (.cells #[.slice y0.a y0.n y0.c,.slice y1.a y1.n y1.c,.slice y2.a y2.n y2.c] 116):=⟨_,rfl⟩
 obtain⟨M,hM⟩:=zE W1.heap.size;have DN:Hid (W2.ownsMap (H:=Unit) Tryz.prog 9 (plainElem Tryz.prog 3) M 0 (.map [])):=by show World.ownsMap _ _ _ _ _ _ _;rw[hW2,hM];exact (World.ownsMap_made _ _ _ _).alloc _
 have nS:Hid (aj W2 (M+1) 116 [.slice y0.a y0.n y0.c,.slice y1.a y1.n y1.c,.slice y2.a y2.n y2.c]):=by
  show aj _ _ _ _;have h:=aj.new (W1.alloc (.map #[] 0)) 116 #[.slice y0.a y0.n y0.c,.slice y1.a y1.n y1.c,.slice y2.a y2.n y2.c];rw[World.size_alloc] at h;rw[hW2,hM];exact h
 have HB2:Hid (Below W1.heap.size W1 W2):=by show Below _ _ _;rw[hW2];exact (zB _ _).alloc (by rw[World.size_alloc];omega) _
 have FQ:Hid (M=W1.heap.size):=hM;have IC:Hid (∀W,aJ M W2 W→Below W1.heap.size W1 W):=fun W ho=>HB2.out.trans (ho.below (by rw[hM];exact Nat.le_refl _) HB2.out.size)
 simp only[←hW2,←hM,World.size_alloc]
 clear hW2 hM hmm;have hbx:=nS.out.cells;go_wp2_with fail
 go_loopg [18] 3 (fun g iv wr=>∃(r n:Nat) (D:DataW Unit),r+g=3∧iv=.int .i64 r∧n≤3000∧Hid (n≤(NS.take r).flatten.length)∧Hid (wr.ownsMap Tryz.prog 9 (plainElem Tryz.prog 3) M n D)∧Hid (Counts D (NS.take r).flatten)∧Hid (∀x∈(NS.take r).flatten,fO x=true)∧Hid (aJ M W2 wr))
 case atStart=>exact⟨0,0,.map [],by omega,rfl,by omega,Nat.zero_le _,DN.out,(fun s=>rfl),(fun x hx=>by cases hx),aJ.refl _ _⟩
 case round=>
  obtain⟨r,n,D,hr,rfl,hn3,hnl,hmap,hcnt,hok,hon⟩:=hrel;by_cases hlt:r<3
  ·have hrl:r<NS.length:=by rw[Rq.out];exact hlt
   have hix:=HIX.out r hlt;have HRW:=zH (fun W hb=>JD.out W hb r hlt);have vP:=zH (LC hrl);have ag3:Hid (∀x∈NS[r],x∈NS.flatten):=fun x hx=>List.mem_flatten.2 ⟨_,List.getElem_mem hrl,hx⟩
   have LD:Hid ((NS.take r).flatten.length+NS[r].length≤3000):=by
    have h1:=vP.out
    have h2:(NS.take (r+1)).flatten.length≤NS.flatten.length:=by
     conv=>rhs;rw[←List.take_append_drop (r+1) NS,List.flatten_append,List.length_append]
     omega
    rw[h1,List.length_append] at h2;have:=HLEN.out;show _≤_;omega
   have hlt3:decide ((r:Int)<3)=true:=decide_eq_true (by omega);generalize [y0,y1,y2].getD r y0=hd at*;obtain⟨ha,hn,hc⟩:=hd;generalize NS[r]=L at*;generalize (NS.take r).flatten=dn at*;simp only at hix HRW;have hlen:hn=L.length:=(HRW.out W1 (Below.refl _ _)).len;have rP:=zH hlen;clear hlen;have hib:hn≤3000:=by have:=LD.out;have:=rP.out;omega
   go_wp2_with fail
   go_loopg [23] hn (fun g iv wr=>∃(i n:Nat) (D:DataW Unit),i+g=hn∧iv=.int .i64 i∧n≤3000∧Hid (n≤dn.length+i)∧Hid (wr.ownsMap Tryz.prog 9 (plainElem Tryz.prog 3) M n D)∧Hid (Counts D (dn++L.take i))∧Hid (∀x∈dn++L.take i,fO x=true)∧Hid (aJ M W2 wr))
   case atStart=>exact⟨0,n,D,by omega,rfl,hn3,zH (by have:=hnl.out;omega),hmap,(by show Counts _ _;rw[List.take_zero,List.append_nil];exact hcnt.out),(by rw[List.take_zero,List.append_nil];exact hok.out),hon⟩
   case round=>
    obtain⟨i,n,D,hi,rfl,hn3,hnl,hmap,hcnt,hok,hon⟩:=hrel;by_cases hin:i<hn
    ·have hil:i<L.length:=by rw[←rP.out];exact hin
     obtain⟨b,off,hA,hb,hcs⟩:=(HRW.out wr (IC.out _ hon.out)).rd.str hil;simp only at hA;subst hA;have hc0:=hcs i hil;have ag4:Hid (L[i]∈NS.flatten):=ag3.out _ (List.getElem_mem hil);have ny:Hid (L.take (i+1)=L.take i++[L[i]]):=List.take_succ_eq_append_getElem hil;generalize L[i]=x at*;have HLE:=zH (HL.out wr (ah HB1.out (IC.out _ hon.out)));clear hcs;go_wp2_with fail;refine (yX x wr HLE.out).mono ?_;rintro e w9 ⟨rfl,eP⟩;have HO9:=zH (hon.out.trans (aJ.of_below (G:=M) eP));have aaR:=hmap.out.kept (below_grown eP) (by simp);have HM9:=zH aaR;clear eP aaR hc0;cases hq:fO x with
     |false=>
      obtain rfl:R=12:=adJ.out ⟨x,ag4.out,hq⟩;have gu:=zH (ah HB1.out (IC.out _ HO9.out));clear hq;go_wp2;go_ret;exact⟨rfl,gu.out⟩
     |true=>
      have hkey:keyOf Tryz.prog 9 (.string x)=some (.string x.data.toList):=WideMaps.keyOf_string_mk Tryz.underlying9 (by have:=Qs hq;unfold maxLen;omega);have HKEY:=zH hkey;have HQ:=zH hq;clear hkey hq;go_wp2_with (at_lookup;refine wpList_lookup_own_int _ rfl _ _ 118 rfl 9 3 .i64 ET Tryz.underlying118 Tryz.underlying3 (ZJ _) M n D rfl HM9.out _ _ rfl HKEY.out ?_);intro c hat hwc
      have hcx:c=(iQ x (dn++L.take i):Int):=by
       have h1:=hcnt.out x;rw[h1] at hat;injection hat with hat;injection hat with _ hat;exact hat.symm
      have ag5:iQ x (dn++L.take i)≤dn.length+i:=by
       have:=abR x (dn++L.take i);rw[List.length_append,List.length_take] at this;omega
      have ag6:=zH (hcnt.out.put (s:=x) HM9.out.isMap);subst hcx;generalize iQ x (dn++L.take i)=cn at*;have hcn:cn≤3000:=by have:=LD.out;have:=rP.out;omega
      have hw1:IntKind.i64.wrap ((cn:Int)+1)=(cn:Int)+1:=IntWalk.i64_in _ (by omega);have hwf:(Lit.int .i64 ((cn:Int)+1)).wf=true:=WalkArith.wf_i64 (by omega);have HWF:=zH hwf;clear hat hwc hwf ag5;go_wp2_with (at_mapUpdate;refine wpList_mapUpdate_own _ rfl _ _ _ 118 rfl 9 3 ET Tryz.underlying118 _ M n _ rfl HM9.out (by unfold maxLen;omega) _ _ _ rfl rfl HKEY.out _ [] (plainElem_int Tryz.underlying3 HWF.out) ?_);intro w10 XD hgr;have ag7:=zH XD;have ag8:Hid (aJ M W2 w10):=HO9.out.trans ⟨hgr.os,hgr.tape,hgr.output,hgr.size,fun k hk hne=>hgr.block k hk (fun e=>hne (Option.some.inj e))⟩;clear XD hgr;go_wp2
      go_roundg (hn-(i+1))
      case measure=>omega
      case rel=>
       refine⟨i+1,n+1,_,by omega,by go_num,?_,?_,ag7,?_,?_,ag8⟩
       ·have:=hnl.out;have:=LD.out;have:=rP.out;omega
       ·have:=hnl.out;show _≤_;omega
       ·show Counts _ _;rw[ny.out,←List.append_assoc];exact ag6.out
       ·show ∀y∈_,_;rw[ny.out,←List.append_assoc];intro y hy;rcases List.mem_append.1 hy with hy|hy
        ·exact hok.out y hy
        ·rw[List.mem_singleton.1 hy];exact HQ.out
    ·have hie:L.take i=L:=List.take_of_length_le (by have:=rP.out;omega);have hcnt2:=hcnt.out;have hok2:=hok.out;rw[hie,←vP.out] at hcnt2 hok2;have HC2:=zH hcnt2;have jD:=zH hok2
     have ag9:Hid (n≤(NS.take (r+1)).flatten.length):=by
      show _≤_;rw[vP.out,List.length_append];have:=hnl.out;have:=rP.out;omega
     clear hcnt hok hcnt2 hok2 hie;go_wp2
     go_roundg (3-(r+1))
     case measure=>omega
     case rel=>exact⟨r+1,n,D,by omega,by go_num,hn3,ag9,hmap,HC2,jD,hon⟩
  ·have hr3:NS.take r=NS:=List.take_of_length_le (by rw[Rq.out];omega);rw[hr3] at hcnt hok hnl;have Xv:=zH (HV.out hok.out);obtain⟨W3,hW3⟩:∃x,x=wr:=⟨_,rfl⟩
   rw[←hW3] at hmap hon⊢;have HB3:=zH (ah HB1.out (IC.out _ hon.out));have aaS:=zH (fun W (hb:Below W3.heap.size W3 W) r hr=>JD.out W (ah (IC.out _ hon.out) hb) r hr);have aha:=(hon.out.blk nS.out (by omega)).cells;have hgeq:=fun (a b:ByteArray) (W:World)=>abS a b W
   clear HV adJ DN hW3 IC JD HB1 HB2 hok hnl hon nS;go_wp2_with fail
   go_loopg [37] 3 (fun g iv wr=>∃r:Nat,r+g=3∧iv=.int .i64 r∧Hid (∀k (hk:k<NS.length),k<r→sortedB NS[k]=true)∧Hid (Below W3.heap.size W3 wr))
   case atStart=>exact⟨0,by omega,rfl,(fun k hk h=>absurd h (by omega)),Below.refl _ _⟩
   case round=>
    obtain⟨r,hr,rfl,hso,hbr⟩:=hrel;by_cases hlt:r<3
    ·have hrl:r<NS.length:=by rw[Rq.out];exact hlt
     have hix:=HIX.out r hlt;have HRW:=zH (fun W hb=>aaS.out W hb r hlt)
     have wI:Hid (sortedB NS[r]=false→R=11):=fun h=>by
      rw[Xv.out,if_neg];intro h2;have:=List.all_eq_true.1 h2 NS[r] (List.getElem_mem hrl);rw[h] at this;cases this
     have O5:Hid (sortedB NS[r]=true→∀k (hk:k<NS.length),k<r+1→sortedB NS[k]=true):=fun h k hk hkr=>by
      by_cases e:k<r
      ·exact hso.out k hk e
      ·obtain rfl:k=r:=by omega
       exact h
     have hbound:NS[r].length≤3000:=by
      have h2:(NS.take (r+1)).flatten.length≤NS.flatten.length:=by
       conv=>rhs;rw[←List.take_append_drop (r+1) NS,List.flatten_append,List.length_append]
       omega
      rw[LC hrl,List.length_append] at h2;have:=HLEN.out;omega
     generalize [y0,y1,y2].getD r y0=hd at*;obtain⟨ha,hn,hc⟩:=hd;generalize NS[r]=L at*;simp only at hix HRW;have hlen:hn=L.length:=(HRW.out W3 (Below.refl _ _)).len;have jh:=zH (zx L);have hlt3:decide ((r:Int)<3)=true:=decide_eq_true (by omega);have hnb:hn≤3000:=by rw[hlen];exact hbound
     have rP:=zH hlen;clear hlen hbound hso;go_wp2_with fail
     go_loopg [11] hn (fun g iv wr=>∃i:Nat,iv=.int .i64 i∧1≤i∧hn-i≤g∧i≤hn+1∧Hid (∀k (hk:k+1<L.length),k+1<i→Op.bytesLess L[k].toList L[k+1].toList=true)∧Hid (Below W3.heap.size W3 wr))
     case atStart=>exact⟨1,rfl,by omega,by omega,by omega,(fun k hk h=>absurd h (by omega)),hbr⟩
     case round=>
      obtain⟨i,rfl,hi1,hig,hin1,hle,hbr⟩:=hrel;by_cases hin:i<hn
      ·have hil:i<L.length:=by rw[←rP.out];exact hin
       obtain⟨b,off,hA,hb,hcs⟩:=(HRW.out wr hbr.out).rd.str hil;simp only at hA;subst hA;obtain⟨m,rfl⟩:∃m,i=m+1:=⟨i-1,by omega⟩
       have hc0:=hcs m (by omega);have hc1:=hcs (m+1) hil;have hw1:IntKind.i64.wrap (((m+1:Nat):Int)-1)=(m:Int):=by rw[IntWalk.i64_in _ (by omega)];omega
       have adN:Hid (Op.bytesLess (L[m]'(by omega)).toList L[m+1].toList=true→∀k (hk:k+1<L.length),k+1<m+1+1→Op.bytesLess L[k].toList L[k+1].toList=true):=fun h k hk hkm=>by
        by_cases e:k+1<m+1
        ·exact hle.out k hk e
        ·obtain rfl:k=m:=by omega
         exact h
       have HBAD:Hid (Op.bytesLess (L[m]'(by omega)).toList L[m+1].toList=false→R=11):=fun h=>by
        refine wI.out ?_;cases e:sortedB L with
        |false=>rfl
        |true=>have:=jh.out.1 e m hil;rw[h] at this;cases this
       have hml:m<hn:=by omega
       generalize L[m]'(by omega)=x0 at*;generalize L[m+1]=x1 at*;obtain⟨q,hq⟩:=zF (Op.bytesLess x0.toList x1.toList);rw[hq] at adN HBAD;clear hcs hle hgeq;have Rt:=zH (below_drewN hbr.out 1);clear hbr
       go_upto_region 19 with fail
       cases q
       ·obtain rfl:R=11:=HBAD.out rfl;have gu:=zH (ah HB3.out Rt.out);go_region;go_wp2;go_ret;exact⟨rfl,gu.out⟩
       ·have ahb:=zH (adN.out rfl);go_region;go_wp2
        go_roundg (hn-(m+1+1))
        case measure=>omega
        case rel=>exact⟨m+1+1,by go_num,by omega,by omega,by omega,ahb,Rt⟩
      ·have HSL:Hid (sortedB L=true):=jh.out.2 (fun k hk=>hle.out k hk (by have:=rP.out;omega));have oZ:=zH (O5.out HSL.out);clear hle;go_wp2
       go_roundg (3-(r+1))
       case measure=>omega
       case rel=>exact⟨r+1,by omega,by go_num,oZ,hbr⟩
    ·have hall:NS.all sortedB=true:=List.all_eq_true.2 (fun x hx=>by
      obtain⟨k,hk,rfl⟩:=List.getElem_of_mem hx;exact hso.out k hk (by have:=Rq.out;omega))
     have yV:=Xv.out;rw[if_pos hall] at yV
     have jE:Hid ((∃x,1<iQ x NS.flatten)→R=14):=fun⟨x,hx⟩=>by
      rw[yV,if_pos];exact List.any_eq_true.2 ⟨x,O4 (by omega),decide_eq_true hx⟩
     have BN:Hid ((∀x∈NS.flatten,iQ x NS.flatten≤1)→R=0):=fun h=>by
      rw[yV,if_neg];intro h2;obtain⟨x,hx,h3⟩:=List.any_eq_true.1 h2;have:=of_decide_eq_true h3;have:=h x hx;omega
     have HMX:=zH (hmap.kept (below_grown hbr.out) (by simp));have O6:Hid (Counts D NS.flatten):=hcnt;have fQ:=zH (ah HB3.out hbr.out);obtain⟨W4,hW4⟩:∃x,x=wr:=⟨_,rfl⟩
     rw[←hW4] at HMX fQ⊢;clear yV hall Xv hso hmap hcnt hbr hW4 HIX aaS hgeq aha Rq HLEN;go_wp2_with (at_range;refine wpList_range_own _ rfl _ 118 rfl 9 3 ET Tryz.underlying118 _ M n _ rfl HMX.out ?_;intro w0 hrg0 hg0 hs0)
     go_frame
     obtain⟨rr,hrr⟩:∃x,x=W4.heap.size:=⟨_,rfl⟩
     rw[←hrr] at hrg0⊢;have HRR:Hid (w.heap.size≤rr):=by show _≤_;rw[hrr];exact fQ.out.size
     have HB0:Hid (Below w.heap.size w w0):=fQ.out.grown hg0 fQ.out.size (fun g hg=>by cases hg);have adO:=zH hrg0;clear hrr hg0 hs0 hrg0
     go_loopg [13] (Maps.size D) (fun g v wr=>∃left:Lit→Bool,Hid (wr.ranges Tryz.prog 9 (plainElem Tryz.prog 3) M rr n D left g)∧Hid (∀x∈NS.flatten,left (.string x.data.toList)=true∨iQ x NS.flatten≤1)∧Hid (Below w.heap.size w wr))
     case atStart=>exact⟨_,adO,(fun x hx=>.inl (O6.out.has hx)),HB0⟩
     case round=>
      obtain⟨left,hrg,hlf,hbr⟩:=hrel;clear adO HB0;go_wp2_with (at_next;refine wpList_next_ranges _ rfl _ rfl 9 ET (plainElem Tryz.prog 3) (fun s:ByteArray=>Value.string s) (Value.int .i64) (fun key kl h=>by obtain⟨s,h1,_⟩:=WideMaps.string_of_keyOf Tryz.underlying9 h;exact⟨s,h1⟩) (fun v y h=>by obtain⟨c,h1,_⟩:=plainElem_int_inv Tryz.underlying3 h;exact⟨c,h1⟩) M rr n D left _ rfl hrg.out ?_ ?_)
      ·intro hc0 hl0
       obtain rfl:R=0:=BN.out (fun x hx=>by
        rcases hlf.out x hx with h|h
        ·rw[hl0] at h;cases h
        ·exact h)
       clear hl0;go_wp2;go_ret;exact⟨rfl,hbr.out⟩
      ·intro x c kl yd yp w' cnt' hkey hlk hv hat adP hlt' hgr hsz hen;obtain⟨s,hs,rfl,_⟩:=WideMaps.string_of_keyOf Tryz.underlying9 hkey;injection hs with hs;subst hs;obtain⟨c',hc',hyy,_⟩:=plainElem_int_inv Tryz.underlying3 hv;injection hc' with _ hc';subst hc';injection hyy with hy1 hy2;subst hy1 hy2
       have hcx:c=(iQ x NS.flatten:Int):=by
        have h1:=hat (.lit (.int .i64 0));rw[O6.out x] at h1;injection h1 with h1;injection h1 with _ h1;exact h1.symm
       have HCX:=zH hcx;have HB':Hid (Below w.heap.size w w'):=hbr.out.grown hgr hbr.out.size (fun g hg=>by obtain rfl:=Option.some.inj hg;exact HRR.out);have ahc:=zH adP;have yR:=zH hlt'
       have HLF:Hid (c≤1→∀t∈NS.flatten,(left (.string t.data.toList)&& !(Lit.string t.data.toList).sameKey (.string x.data.toList))=true∨iQ t NS.flatten≤1):=fun hc t ht=>by
        rcases hlf.out t ht with h|h
        ·cases e:(Lit.string t.data.toList).sameKey (.string x.data.toList) with
         |false=>left;rw[h];rfl
         |true=>
          right
          have h2:=WideAt.sameKey_eq e;injection h2 with h2;have h3:t=x:=ByteArray.ext (Array.toList_inj.1 h2);rw[h3];omega
        ·exact .inr h
       clear hkey hlk hv hat adP hlt' hgr hsz hcx hlf hrg hbr;by_cases h1:1<c
       ·obtain rfl:R=14:=jE.out ⟨x,by have:=HCX.out;omega⟩;go_wp2;go_ret;exact⟨rfl,HB'.out⟩
       ·have ahd:=zH (HLF.out (by omega));go_wp2
        go_roundg cnt'
        case measure=>exact yR.out
        case rel=>exact⟨_,ahc,ahd,HB'⟩
end Go.Proofs.YtgfeadgafdijaaaGreatDoor
namespace Go.Proofs.YtgfeadgafdijaaaGreatDoor
open Go.RowKit
theorem Qu (x:Dc) (w:World):Calls Tryz.prog 59 #[.agg (Dc.cells x).toArray] w fun e w'=>e=.returned (.bool (!aN x.ty))∧Below w.heap.size w w':=by
 have HU:=zH (fun W=>FB x.ty W);generalize aN x.ty=q at*;obtain⟨nm,⟨tt,tm,td⟩⟩:=x;unfold Dc.cells;simp only[Ty.v] at HU⊢;obtain⟨W,hW⟩:=zE (w.alloc (.cells #[.string nm,.bool tt,.int .i64 tm,.int .i64 td] 34));have hkc:=(aj.new w 34 #[.string nm,.bool tt,.int .i64 tm,.int .i64 td]).cells;have aK:Hid (Below w.heap.size w W):=by show Below _ _ _;rw[hW];exact zB _ _
 rw[←hW] at hkc;obtain⟨B,hB⟩:=zE w.heap.size;rw[←hB] at hkc;go_enter Tryz.func59,Tryz.ntmps59
 go_upto_region 1 with fail
 simp only[←hW,←hB]
 clear hW hB;go_wp2_with fail;refine (HU.out W).mono ?_;rintro e w5 ⟨rfl,hb5⟩;have gu:=zH (ah aK.out hb5);clear hb5;go_wp2;go_ret;exact⟨rfl,gu.out⟩
theorem Qv (x:Pv × Hd) (w:World):Calls Tryz.prog 62 #[.agg (bg x).toArray] w fun e w'=>e=.returned (.bool (!aN x.1.ty))∧Below w.heap.size w w':=by
 have HU:=zH (fun W=>FB x.1.ty W);generalize aN x.1.ty=q at*;obtain⟨⟨nm,⟨tt,tm,td⟩,ch,⟨kW,kX,kY⟩,⟨kZ,lg,cn3⟩,bo⟩,⟨ha,hn,hcc⟩⟩:=x;unfold bg;simp only[Ty.v] at HU⊢;obtain⟨W,hW⟩:=zE (w.alloc (.cells #[.string nm,.bool tt,.int .i64 tm,.int .i64 td,.slice ha hn hcc,.bool ch,.bool kW,.string kX,.string kY,.bool kZ,.string lg,.string cn3] 46));have hkc:=(aj.new w 46 #[.string nm,.bool tt,.int .i64 tm,.int .i64 td,.slice ha hn hcc,.bool ch,.bool kW,.string kX,.string kY,.bool kZ,.string lg,.string cn3]).cells;have aK:Hid (Below w.heap.size w W):=by show Below _ _ _;rw[hW];exact zB _ _
 rw[←hW] at hkc;obtain⟨B,hB⟩:=zE w.heap.size;rw[←hB] at hkc;go_enter Tryz.func62,Tryz.ntmps62
 go_upto_region 1 with fail
 simp only[←hW,←hB]
 clear hW hB;go_wp2_with fail;refine (HU.out W).mono ?_;rintro e w5 ⟨rfl,hb5⟩;have gu:=zH (ah aK.out hb5);clear hb5;go_wp2;go_ret;exact⟨rfl,gu.out⟩
theorem Qw (x:Sc × Hd) (w:World):Calls Tryz.prog 64 #[.agg (fU x).toArray] w fun e w'=>e=.returned (.bool (!dZ x.1.aH x.1.days))∧Below w.heap.size w w':=by
 have HU:=zH (fun W=>yP x.1.aH x.1.days W);generalize dZ x.1.aH x.1.days=q at*;obtain⟨⟨nm,mo,da,br⟩,⟨ha,hn,hcc⟩⟩:=x;unfold fU;simp only at HU⊢;obtain⟨W,hW⟩:=zE (w.alloc (.cells #[.string nm,.int .i64 mo,.int .i64 da,.slice ha hn hcc] 37));have hkc:=(aj.new w 37 #[.string nm,.int .i64 mo,.int .i64 da,.slice ha hn hcc]).cells;have aK:Hid (Below w.heap.size w W):=by show Below _ _ _;rw[hW];exact zB _ _
 rw[←hW] at hkc;obtain⟨B,hB⟩:=zE w.heap.size;rw[←hB] at hkc;go_enter Tryz.func64,Tryz.ntmps64
 go_upto_region 1 with fail
 simp only[←hW,←hB]
 clear hW hB;go_wp2_with fail;refine (HU.out W).mono ?_;rintro e w5 ⟨rfl,hb5⟩;have gu:=zH (ah aK.out hb5);clear hb5;go_wp2;go_ret;exact⟨rfl,gu.out⟩
theorem XE (A:Option Addr) (c:Nat) (fv:Value) (w:World):Calls Tryz.prog 58 #[.slice A 0 c,fv] w fun e w'=>e=.returned (.bool false)∧Below w.heap.size w w':=by
 have aK:Hid (Below w.heap.size w w):=Below.refl _ _;go_enter Tryz.func58,Tryz.ntmps58;go_wp2
 go_loopg [8] 0 (fun g iv wr=>iv=.int .i64 0∧wr=w)
 case atStart=>exact⟨rfl,rfl⟩
 case round=>
  obtain⟨rfl,rfl⟩:=hrel;go_wp2;go_ret;exact⟨rfl,aK.out⟩
theorem ZK (xs:List (Dc)) (h:Hd) (w:World) (hr:aU w Dc.cells xs h):
  Calls Tryz.prog 58 #[.slice h.a h.n h.c,.func (.func 59) #[] #[]] w fun e w'=>e=.returned (.bool (xs.any fun x=> !aN x.ty))∧Below w.heap.size w w':=by
 by_cases h0:h.n=0
 ·have hx:xs=[]:=List.eq_nil_of_length_eq_zero (by rw[←hr.len];exact h0);subst hx;rw[h0];exact XE _ _ _ w
 ·have hlen:=hr.len;have hmx:=hr.max;have hcp:=hr.cap;obtain⟨b,off,hA,hb,_⟩:=Rd.row Dc.cells 4 (fun _=>rfl) (by omega) hr.rd (j:=0) (by omega);have eg:∀args w,(callFunc 59 args).run Tryz.prog w=.ok (.enter 59 args) w:=enters_of Tryz.func59 (by kernel_rfl) rfl;have hrd:=hr.rd;rw[hA] at hrd⊢
  letI:Inhabited (Dc):=⟨xs[0]'(by omega)⟩
  have hh:=AnyQ.slices_ContainsFunc Tryz.conD 4 Tryz.isAgg34 Tryz.sizeOf34 Dc.cells (fun _=>rfl) (fun x=> !aN x.ty) 59 #[] eg b off h.n h.c xs w
   (fun W x hW=>(Qu x W).mono (fun e w' ⟨h1,h2⟩=>⟨h1,ah hW h2⟩)) (by omega) (by unfold maxLen at hmx;omega) hb (fun j hj i v hv=>by
     obtain⟨b',off',hA',hb',hc'⟩:=Rd.row Dc.cells 4 (fun _=>rfl) (by omega) hrd hj;injection hA' with hA';injection hA' with h1 h2;subst h1 h2;refine hc' i v ?_;have e:=getElem!_pos xs j hj;rw[e] at hv;exact hv)
  rw[List.take_of_length_le (by omega)] at hh;exact hh
theorem XF (A:Option Addr) (c:Nat) (fv:Value) (w:World):Calls Tryz.prog 61 #[.slice A 0 c,fv] w fun e w'=>e=.returned (.bool false)∧Below w.heap.size w w':=by
 have aK:Hid (Below w.heap.size w w):=Below.refl _ _;go_enter Tryz.func61,Tryz.ntmps61;go_wp2
 go_loopg [8] 0 (fun g iv wr=>iv=.int .i64 0∧wr=w)
 case atStart=>exact⟨rfl,rfl⟩
 case round=>
  obtain⟨rfl,rfl⟩:=hrel;go_wp2;go_ret;exact⟨rfl,aK.out⟩
theorem ZL (xs:List (Pv × Hd)) (h:Hd) (w:World) (hr:aU w bg xs h):
  Calls Tryz.prog 61 #[.slice h.a h.n h.c,.func (.func 62) #[] #[]] w fun e w'=>e=.returned (.bool (xs.any fun x=> !aN x.1.ty))∧Below w.heap.size w w':=by
 by_cases h0:h.n=0
 ·have hx:xs=[]:=List.eq_nil_of_length_eq_zero (by rw[←hr.len];exact h0);subst hx;rw[h0];exact XF _ _ _ w
 ·have hlen:=hr.len;have hmx:=hr.max;have hcp:=hr.cap;obtain⟨b,off,hA,hb,_⟩:=Rd.row bg 12 (fun _=>rfl) (by omega) hr.rd (j:=0) (by omega);have eg:∀args w,(callFunc 62 args).run Tryz.prog w=.ok (.enter 62 args) w:=enters_of Tryz.func62 (by kernel_rfl) rfl;have hrd:=hr.rd;rw[hA] at hrd⊢
  letI:Inhabited (Pv × Hd):=⟨xs[0]'(by omega)⟩
  have hh:=AnyQ.slices_ContainsFunc Tryz.conP 12 Tryz.isAgg46 Tryz.sizeOf46 bg (fun _=>rfl) (fun x=> !aN x.1.ty) 62 #[] eg b off h.n h.c xs w
   (fun W x hW=>(Qv x W).mono (fun e w' ⟨h1,h2⟩=>⟨h1,ah hW h2⟩)) (by omega) (by unfold maxLen at hmx;omega) hb (fun j hj i v hv=>by
     obtain⟨b',off',hA',hb',hc'⟩:=Rd.row bg 12 (fun _=>rfl) (by omega) hrd hj;injection hA' with hA';injection hA' with h1 h2;subst h1 h2;refine hc' i v ?_;have e:=getElem!_pos xs j hj;rw[e] at hv;exact hv)
  rw[List.take_of_length_le (by omega)] at hh;exact hh
theorem XG (A:Option Addr) (c:Nat) (fv:Value) (w:World):Calls Tryz.prog 63 #[.slice A 0 c,fv] w fun e w'=>e=.returned (.bool false)∧Below w.heap.size w w':=by
 have aK:Hid (Below w.heap.size w w):=Below.refl _ _;go_enter Tryz.func63,Tryz.ntmps63;go_wp2
 go_loopg [8] 0 (fun g iv wr=>iv=.int .i64 0∧wr=w)
 case atStart=>exact⟨rfl,rfl⟩
 case round=>
  obtain⟨rfl,rfl⟩:=hrel;go_wp2;go_ret;exact⟨rfl,aK.out⟩
theorem ZM (xs:List (Sc × Hd)) (h:Hd) (w:World) (hr:aU w fU xs h):
  Calls Tryz.prog 63 #[.slice h.a h.n h.c,.func (.func 64) #[] #[]] w fun e w'=>e=.returned (.bool (xs.any fun x=> !dZ x.1.aH x.1.days))∧Below w.heap.size w w':=by
 by_cases h0:h.n=0
 ·have hx:xs=[]:=List.eq_nil_of_length_eq_zero (by rw[←hr.len];exact h0);subst hx;rw[h0];exact XG _ _ _ w
 ·have hlen:=hr.len;have hmx:=hr.max;have hcp:=hr.cap;obtain⟨b,off,hA,hb,_⟩:=Rd.row fU 4 (fun _=>rfl) (by omega) hr.rd (j:=0) (by omega);have eg:∀args w,(callFunc 64 args).run Tryz.prog w=.ok (.enter 64 args) w:=enters_of Tryz.func64 (by kernel_rfl) rfl;have hrd:=hr.rd;rw[hA] at hrd⊢
  letI:Inhabited (Sc × Hd):=⟨xs[0]'(by omega)⟩
  have hh:=AnyQ.slices_ContainsFunc Tryz.conS 4 Tryz.isAgg37 Tryz.sizeOf37 fU (fun _=>rfl) (fun x=> !dZ x.1.aH x.1.days) 64 #[] eg b off h.n h.c xs w
   (fun W x hW=>(Qw x W).mono (fun e w' ⟨h1,h2⟩=>⟨h1,ah hW h2⟩)) (by omega) (by unfold maxLen at hmx;omega) hb (fun j hj i v hv=>by
     obtain⟨b',off',hA',hb',hc'⟩:=Rd.row fU 4 (fun _=>rfl) (by omega) hrd hj;injection hA' with hA';injection hA' with h1 h2;subst h1 h2;refine hc' i v ?_;have e:=getElem!_pos xs j hj;rw[e] at hv;exact hv)
  rw[List.take_of_length_le (by omega)] at hh;exact hh
theorem Ru {α:Type} (p:α→Bool) (l:List α):(l.any fun x=> !p x)= !l.all p:=by
 induction l with
 |nil=>rfl
 |cons a l ih=>rw[List.any_cons,List.all_cons,ih,Bool.not_and]
theorem Rw {α β:Type} (p:α→Bool) {l:List (α × β)} {l':List α} (h:l.map Prod.fst=l'):(l.any fun x=> !p x.1)= !l'.all p:=by
 subst h;rw[Ru (fun x:α × β=>p x.1),List.all_map];rfl
theorem UE (l:Lw) (ss:List (Sc × Hd)) (ps:List (Pv × Hd)) (f s p:Hd) (w:World) (h:fG w l ss ps f s p):
  Calls Tryz.prog 27 #[dQ f s p] w fun e w'=>e=.returned (.bool (mV l))∧Below w.heap.size w w':=by
 have HA:=zH (fun W hb=>ZK l.facts f W (h.below (w':=W) hb).f);have HP:=zH (fun W hb=>ZL ps p W (h.below (w':=W) hb).p);have HS:=zH (fun W hb=>ZM ss s W (h.below (w':=W) hb).s)
 have HT:Hid (mV l=(!(l.facts.any fun x=> !aN x.ty)&&(!(ps.any fun x=> !aN x.1.ty)&& !(ss.any fun x=> !dZ x.1.aH x.1.days)))):=by
  show _=_;rw[Ru (fun x:Dc=>aN x.ty),Rw (fun x:Pv=>aN x.ty) h.pl,Rw (fun x:Sc=>dZ x.aH x.days) h.sl,Bool.not_not,Bool.not_not,Bool.not_not];rfl
 rw[HT.out];generalize (l.facts.any fun x=> !aN x.ty)=a at*;generalize (ps.any fun x=> !aN x.1.ty)=b at*;generalize (ss.any fun x=> !dZ x.1.aH x.1.days)=c at*;clear HT h;obtain⟨fa,fn,fc⟩:=f;obtain⟨sa,sn,sc⟩:=s;obtain⟨pa,pn,pc⟩:=p;unfold dQ;simp only at HA HP HS⊢;obtain⟨W,hW⟩:=zE (w.alloc (.cells #[.slice fa fn fc,.slice sa sn sc,.slice pa pn pc] 26));obtain⟨B,hB⟩:=zE w.heap.size;have HK:Hid (aj W B 26 [.slice fa fn fc,.slice sa sn sc,.slice pa pn pc]):=by show aj _ _ _ _;rw[hW,hB];exact aj.new w _ _
 have aK:Hid (Below w.heap.size w W):=by show Below _ _ _;rw[hW];exact zB _ _
 have hkc:=HK.out.cells;cases a
 ·cases b
  ·go_enter Tryz.func27,Tryz.ntmps27
   go_upto_region 1 with fail
   simp only[←hW,←hB]
   clear hW hB;go_wp2_with fail;refine (HA.out W aK.out).mono ?_;rintro e w5 ⟨rfl,hb5⟩;have eF:=zH (ah aK.out hb5);have gZ:=zH (HK.out.below hb5 HK.out.lt);have hk5:=gZ.out.cells;clear hb5;go_wp2_with fail;refine (HP.out w5 eF.out).mono ?_;rintro e w6 ⟨rfl,hb6⟩;have mg:=zH (ah eF.out hb6);have hk6:=(gZ.out.below hb6 gZ.out.lt).cells;clear hb6;go_wp2_with fail;refine (HS.out w6 mg.out).mono ?_;rintro e w7 ⟨rfl,hb7⟩;have fA:=zH (ah mg.out hb7);clear hb7;go_wp2;go_ret;exact⟨by simp,fA.out⟩
  ·go_enter Tryz.func27,Tryz.ntmps27
   go_upto_region 1 with fail
   simp only[←hW,←hB]
   clear hW hB;go_wp2_with fail;refine (HA.out W aK.out).mono ?_;rintro e w5 ⟨rfl,hb5⟩;have eF:=zH (ah aK.out hb5);have gZ:=zH (HK.out.below hb5 HK.out.lt);have hk5:=gZ.out.cells;clear hb5;go_wp2_with fail;refine (HP.out w5 eF.out).mono ?_;rintro e w6 ⟨rfl,hb6⟩;have mg:=zH (ah eF.out hb6);clear hb6;go_wp2;go_ret;exact⟨by simp,mg.out⟩
 ·go_enter Tryz.func27,Tryz.ntmps27
  go_upto_region 1 with fail
  simp only[←hW,←hB]
  clear hW hB;go_wp2_with fail;refine (HA.out W aK.out).mono ?_;rintro e w5 ⟨rfl,hb5⟩;have eF:=zH (ah aK.out hb5);clear hb5;go_wp2;go_ret;exact⟨by simp,eF.out⟩
theorem Rx (n:Int) (w:World) (h0:0≤n) (h1:n≤9223372036854775807):Calls Tryz.prog 11 #[.int .i64 n] w fun e w'=>e=.returned (.agg #[.bool false,.string (aB n.toNat),.string (aB 1)])∧Below w.heap.size w w':=by
 obtain⟨W,hW⟩:=zE (w.alloc (.cells #[.bool false,.string ⟨#[]⟩,.string ⟨#[]⟩] 40));obtain⟨B,hB⟩:=zE w.heap.size;have HK:Hid (aj W B 40 [.bool false,.string ⟨#[]⟩,.string ⟨#[]⟩]):=by show aj _ _ _ _;rw[hW,hB];exact aj.new w _ _
 have aK:Hid (Below w.heap.size w W):=by show Below _ _ _;rw[hW];exact zB _ _
 have cO:=zH (Nat.le_of_eq hB.symm);have HO:=zH (fun W=>pJ n W (by omega) h1);have tV:=zH (fun W=>pJ 1 W (by omega) (by omega));rw[show (1:Int).toNat=1 from rfl] at tV;have hn:¬n<0:=by omega
 go_enter Tryz.func11,Tryz.ntmps11
 go_upto_region 1 with fail
 simp only[←hW,←hB]
 clear hW hB;go_wp2_with fail;refine (HO.out W).mono ?_;rintro e w1 ⟨rfl,hb1⟩;go_wp2_with fail;refine (tV.out w1).mono ?_;rintro e w2 ⟨rfl,hb2⟩;have lH:=ah hb1 hb2;have jD:=zH (HK.out.below lH HK.out.lt);have HB2:=zH (ah aK.out lH);have hkc:=jD.out.cells;have rO:=jD.out.aF;clear hb1 hb2 lH;go_wp2;have IY:=((jD.out.set 0 (.bool false)).set 1 (.string (aB n.toNat))).set 2 (.string (aB 1));have hc:=IY.cells;refine bodyPost_ret (v:=.agg #[.bool false,.string (aB n.toNat),.string (aB 1)]) (by simp[results,Tryz.results11,go_sem,hc]) rfl ⟨rfl,?_⟩;exact ((HB2.out.setCell (p:=⟨B,0,none⟩) cO.out _).setCell (p:=⟨B,1,none⟩) cO.out _).setCell (p:=⟨B,2,none⟩) cO.out _
def isName (q:ByteArray) (x:Pv × Hd):Bool:=decide (x.1.name=q)
theorem UF (x:Pv × Hd) (q:ByteArray) (b:Nat) (t:TypeId) (w:World) (hb:aj w b t [.string q]):Calls Tryz.prog 31 #[.agg (bg x).toArray,.pointer (some ⟨b,0,none⟩)] w fun e w'=>e=.returned (.bool (isName q x))∧Below w.heap.size w w':=by
 obtain⟨⟨nm,⟨tt,tm,td⟩,ch,⟨s1,s2,s3⟩,⟨p1,p2,p3⟩,body⟩,⟨ha,hn,hcc⟩⟩:=x;unfold bg isName;simp only
 obtain⟨W,hW⟩:=zE (w.alloc (.cells #[.string nm,.bool tt,.int .i64 tm,.int .i64 td,.slice ha hn hcc,.bool ch,.bool s1,.string s2,.string s3,.bool p1,.string p2,.string p3] 46));obtain⟨B,hB⟩:=zE w.heap.size;have HK:Hid (aj W B 46 [.string nm,.bool tt,.int .i64 tm,.int .i64 td,.slice ha hn hcc,.bool ch,.bool s1,.string s2,.string s3,.bool p1,.string p2,.string p3]):=by show aj _ _ _ _;rw[hW,hB];exact aj.new w _ _
 have aK:Hid (Below w.heap.size w W):=by show Below _ _ _;rw[hW];exact zB _ _
 have hkc:=HK.out.cells;have hqc:W.cell? ⟨b,0,none⟩=some (.string q):=(hb.below aK.out hb.lt).cells 0
 have wJ:Hid ((nm.toList==q.toList)=decide (nm=q)):=by
  show _=_;rw[ByteArray.toList_eq,ByteArray.toList_eq]
  cases nm with|mk d=>cases q with|mk d'=>cases d with|mk l=>cases d' with|mk l'=>
   by_cases h:l=l'
   ·subst h;simp
   ·have h2:¬((⟨⟨l⟩⟩:ByteArray)=⟨⟨l'⟩⟩):=fun e=>h (by injection e with e;injection e)
    rw[decide_eq_false h2];simp[h]
 go_enter Tryz.func31,Tryz.ntmps31
 go_upto_region 1 with fail
 simp only[←hW,←hB]
 clear hW hB;go_wp2;go_ret;exact⟨by simp[wJ.out],aK.out⟩
def aaU (q:ByteArray) (xs:List (Pv × Hd)) [Inhabited (Pv × Hd)]:Int:=Lib.idxBy (fun _ y=>isName q y) xs default
theorem ZN (xs:List (Pv × Hd)) (h:Hd) (q:ByteArray) (b:Nat) (t:TypeId) (w:World) (hb:aj w b t [.string q]) (hr:aU w bg xs h) (h0:0<xs.length) [ahe:Inhabited (Pv × Hd)]:
  Calls Tryz.prog 30 #[.slice h.a h.n h.c,.func (.func 31) #[] #[.pointer (some ⟨b,0,none⟩)]] w fun e w'=>e=.returned (.int .i64 (aaU q xs))∧Below w.heap.size w w':=by
 have hlen:=hr.len;have hmx:=hr.max;have hcp:=hr.cap;obtain⟨g,off,hA,hg,_⟩:=Rd.row bg 12 (fun _=>rfl) (by omega) hr.rd (j:=0) (by omega);have eg:∀args w,(callFunc 31 args).run Tryz.prog w=.ok (.enter 31 args) w:=enters_of Tryz.func31 (by kernel_rfl) rfl;have hrd:=hr.rd;rw[hA] at hrd⊢
 have hh:=AnyQ.slices_IndexFunc Tryz.idxP 12 Tryz.isAgg46 Tryz.sizeOf46 bg (fun _=>rfl) (isName q) 31 #[.pointer (some ⟨b,0,none⟩)] eg g off h.n h.c xs w
  (fun W x hW=>(UF x q b t W (hb.below hW hb.lt)).mono (fun e w' ⟨h1,h2⟩=>⟨h1,ah hW h2⟩)) (by omega) (by unfold maxLen at hmx;omega) hg (fun j hj i v hv=>by
    obtain⟨b',off',hA',hb',hc'⟩:=Rd.row bg 12 (fun _=>rfl) (by omega) hrd hj;injection hA' with hA';injection hA' with h1 h2;subst h1 h2;refine hc' i v ?_;have e:=getElem!_pos xs j hj;rw[e] at hv;exact hv)
 rw[List.take_of_length_le (by omega)] at hh;exact hh
theorem XH (q:ByteArray) (xs:List (Pv × Hd)) (f s p:Hd) (w:World) (hr:aU w bg xs p) (h0:0<xs.length) [ahe:Inhabited (Pv × Hd)] (z:Int) (hz:aaU q xs=z) (hz0:0≤z):
  Calls Tryz.prog 14 #[dQ f s p,.string q] w fun e w'=>e=.returned (.tuple #[.int .i64 z,.bool true])∧Below w.heap.size w w':=by
 obtain⟨fa,fn,fc⟩:=f;obtain⟨sa,sn,sc⟩:=s;obtain⟨pa,pn,pc⟩:=p;unfold dQ;simp only
 obtain⟨W,hW⟩:=zE ((w.alloc (.cells #[.slice fa fn fc,.slice sa sn sc,.slice pa pn pc] 26)).alloc (.cells #[.string q] 9));obtain⟨B,hB⟩:=zE w.heap.size;have HK:Hid (aj W B 26 [.slice fa fn fc,.slice sa sn sc,.slice pa pn pc]):=by show aj _ _ _ _;rw[hW,hB];exact (aj.new w _ _).alloc _
 have HQ:Hid (aj W (B+1) 9 [.string q]):=by
  show aj _ _ _ _;rw[hW,hB];have h:=aj.new (w.alloc (.cells #[.slice fa fn fc,.slice sa sn sc,.slice pa pn pc] 26)) 9 #[.string q];rw[World.size_alloc] at h;exact h
 have aK:Hid (Below w.heap.size w W):=by show Below _ _ _;rw[hW];exact (zB _ _).alloc (by simp) _
 have HF:=zH (ZN xs ⟨pa,pn,pc⟩ q (B+1) 9 W HQ.out (hr.below aK.out) h0);rw[hz] at HF;simp only at HF;have hmf:∀(fn:Fn) (first cap:Array Value) (w:World),(Instr.makeFunc fn first cap).run Tryz.prog w=.ok (.func fn first cap) w:=fun _ _ _ _=>rfl
 have hkc:=HK.out.cells;have hmx:max z 0=z:=by omega
 clear hz hr;go_enter Tryz.func14,Tryz.ntmps14
 go_upto_region 1 with fail
 simp only[←hW,←hB]
 clear hW hB;go_wp2_with fail;refine HF.out.mono ?_;rintro e w2 ⟨rfl,hb2⟩;have HB2:=zH (ah aK.out hb2);clear hb2;go_wp2;go_ret2;exact⟨rfl,HB2.out⟩
theorem rQ {a:Ra} (h:dJ a=true):okR a=true∧a.num.size≤50∧a.den.size≤50:=by
 unfold dJ at h;simp only[Bool.and_eq_true,decide_eq_true_eq] at h;obtain⟨⟨h1,h2⟩,h3⟩:=h;obtain⟨p1,p2,p3,p4⟩:=gY h1
 have key:∀L n,iq n≤8*L→n<256 ^ L:=fun L n hn=>by
  unfold iq at hn;rw[show (256:Nat)=2 ^ 8 from rfl,←Nat.pow_mul];split at hn
  ·next h0=>rw[h0];exact Nat.pow_pos (by omega)
  ·next h0=>exact (Nat.log2_lt h0 (k:=8*L)).1 (by omega)
 refine⟨h1,?_,?_⟩
 ·rw[←TA p3];exact aV _ 50 (key 50 _ h2)
 ·rw[←TA p1];exact aV _ 50 (key 50 _ h3)
theorem uK {a:Ra} (h:0<dV a):a.num≠⟨#[]⟩:=by
 intro e;unfold dV at h;split at h
 ·next h1=>
  split at h
  ·cases h
  ·next h2=>
   split at h
   ·cases h
   ·next h3=>
    obtain⟨p1,p2,p3,p4⟩:=gY h1;refine h2 ?_;rw[←p4,e];unfold low aW;have e0:aA ⟨#[]⟩=0:=rfl;rw[e0,Nat.gcd_zero_left,Nat.zero_div,Nat.div_self p2];simp
 ·cases h
theorem abT (x:Bool) (y z:ByteArray) (w:World):(Instr.field 40 (.agg #[.bool x,.string y,.string z]) 2).run Tryz.prog w=.ok (.string z) w:=by kernel_rfl
theorem IZ (x:Pv × Hd) (w:World):Calls Tryz.prog 51 #[.agg (bg x).toArray] w fun e w'=>e=.returned (.bool (je x.1))∧Below w.heap.size w w':=by
 have HP:Hid (je x.1=(decide (x.1.step=zR)&&decide (x.1.cap=zR))):=rfl;rw[HP.out];have jO:=fun W=>nO x.1.step zR W
 have HE2:=fun W=>nO x.1.cap zR W
 generalize decide (x.1.step=zR)=a at*;generalize decide (x.1.cap=zR)=b at*;clear HP;obtain⟨⟨nm,⟨tt,tm,td⟩,ch,⟨kW,kX,kY⟩,⟨kZ,lg,cn3⟩,bo⟩,⟨ha,hn,hcc⟩⟩:=x;unfold bg;simp only[Ra.v,zR] at jO HE2⊢;obtain⟨W,hW⟩:=zE (w.alloc (.cells #[.string nm,.bool tt,.int .i64 tm,.int .i64 td,.slice ha hn hcc,.bool ch,.bool kW,.string kX,.string kY,.bool kZ,.string lg,.string cn3] 46));obtain⟨B,hB⟩:=zE w.heap.size;have HK:Hid (aj W B 46 [.string nm,.bool tt,.int .i64 tm,.int .i64 td,.slice ha hn hcc,.bool ch,.bool kW,.string kX,.string kY,.bool kZ,.string lg,.string cn3]):=by show aj _ _ _ _;rw[hW,hB];exact aj.new w _ _
 have aK:Hid (Below w.heap.size w W):=by show Below _ _ _;rw[hW];exact zB _ _
 have hkc:=HK.out.cells;cases a
 ·skip
  go_enter Tryz.func51,Tryz.ntmps51
  go_upto_region 1 with fail
  simp only[←hW,←hB]
  clear hW hB;go_wp2;go_ret;exact⟨by simp,aK.out⟩
 ·skip
  go_enter Tryz.func51,Tryz.ntmps51
  go_upto_region 1 with fail
  simp only[←hW,←hB]
  clear hW hB;go_wp2;go_ret;exact⟨by simp,aK.out⟩
theorem Qx (x:Pv × Hd) (w:World) (hs:iw x.1.step) (hc:iw x.1.cap):Calls Tryz.prog 73 #[.agg (bg x).toArray] w fun e w'=>e=.returned (.bool (qc x.1))∧Below w.heap.size w w':=by
 obtain⟨s1,s2⟩:=hs;obtain⟨c1,c2⟩:=hc;have HP:Hid (qc x.1=(!x.1.ty.truth&&(dJ x.1.step&&(dJ x.1.cap&&(decide (0<dV x.1.step)&&(decide ((iZ x.1.cap x.1.step).1.den=(aW 1).den)&&(decide (0<dV (iZ x.1.cap x.1.step).1)&&decide (lX (iZ x.1.cap x.1.step).1 (aW 200)≤0)))))))):=rfl;rw[HP.out];have Ef:=zH (fun W=>vG x.1.step W (by omega) (by omega));have HF2:=zH (fun W=>vG x.1.cap W (by omega) (by omega));have BR:=zH (fun W=>vC x.1.step W (by omega) (by omega));have HZ1:=zH (fun h:dJ x.1.step=true=>rQ h);have HZ2:=zH (fun h:dJ x.1.cap=true=>rQ h)
 have HQ:Hid (∀W,dJ x.1.step=true→dJ x.1.cap=true→0<dV x.1.step→Calls Tryz.prog 117 #[x.1.cap.v,x.1.step.v] W fun e w'=>e=.returned (.tuple #[(iZ x.1.cap x.1.step).1.v,.bool true])∧Below W.heap.size W w'):=fun W h1 h2 h3=>by
  obtain⟨p1,p2,p3⟩:=HZ1.out h1;obtain⟨q1,q2,q3⟩:=HZ2.out h2;exact abA x.1.cap x.1.step W q1 p1 (uK h3) 50 (by omega) q2 q3 p2 p3
 have zW:Hid (dJ x.1.step=true→dJ x.1.cap=true→0<dV x.1.step→okR (iZ x.1.cap x.1.step).1=true∧(iZ x.1.cap x.1.step).1.num.size≤100∧(iZ x.1.cap x.1.step).1.den.size≤100):=fun h1 h2 h3=>by
  obtain⟨p1,p2,p3⟩:=HZ1.out h1;obtain⟨q1,q2,q3⟩:=HZ2.out h2;have hz:=V9 x.1.cap x.1.step 50 q2 q3 p2 p3;refine⟨?_,hz.1,hz.2⟩;unfold iZ;rw[if_neg (uK h3)];refine Jy _ _ _ (Nat.mul_pos (gY q1).2.1 ?_);exact EJ (gY p1).2.2.1 (uK h3)
 have tV:=zH (fun W=>mM 1 W (by omega) (by omega));have nP:=zH (fun W=>mM 200 W (by omega) (by omega));generalize iZ x.1.cap x.1.step=q at*;obtain⟨⟨qn,qm,qd⟩,qb⟩:=q;simp only at HQ zW⊢;generalize dJ x.1.step=f1 at*;generalize dJ x.1.cap=f2 at*;generalize dV x.1.step=sg at*;clear HP HZ1 HZ2 s1 s2 c1 c2;obtain⟨⟨nm,⟨tt,tm,td⟩,ch,⟨kW,kX,kY⟩,⟨kZ,lg,cn3⟩,bo⟩,⟨ha,hn,hcc⟩⟩:=x;unfold bg;simp only[Ra.v] at Ef HF2 BR HQ⊢;obtain⟨W,hW⟩:=zE (w.alloc (.cells #[.string nm,.bool tt,.int .i64 tm,.int .i64 td,.slice ha hn hcc,.bool ch,.bool kW,.string kX,.string kY,.bool kZ,.string lg,.string cn3] 46));obtain⟨B,hB⟩:=zE w.heap.size;have HK:Hid (aj W B 46 [.string nm,.bool tt,.int .i64 tm,.int .i64 td,.slice ha hn hcc,.bool ch,.bool kW,.string kX,.string kY,.bool kZ,.string lg,.string cn3]):=by show aj _ _ _ _;rw[hW,hB];exact aj.new w _ _
 have aK:Hid (Below w.heap.size w W):=by show Below _ _ _;rw[hW];exact zB _ _
 have hkc:=HK.out.cells;cases tt
 ·cases f1
  ·skip
   go_enter Tryz.func73,Tryz.ntmps73
   go_upto_region 1 with fail
   simp only[←hW,←hB]
   clear hW hB;go_wp2_with fail;refine (Ef.out W).mono ?_;rintro e w5 ⟨rfl,hb5⟩;have eF:=zH (ah aK.out hb5);clear hb5;go_wp2;go_ret;exact⟨by simp,eF.out⟩
  cases f2
  ·skip
   go_enter Tryz.func73,Tryz.ntmps73
   go_upto_region 1 with fail
   simp only[←hW,←hB]
   clear hW hB;go_wp2_with fail;refine (Ef.out W).mono ?_;rintro e w5 ⟨rfl,hb5⟩;have eF:=zH (ah aK.out hb5);have gZ:=zH (HK.out.below hb5 HK.out.lt);have hk5:=gZ.out.cells;clear hb5;go_wp2_with fail;refine (HF2.out w5).mono ?_;rintro e w6 ⟨rfl,hb6⟩;have mg:=zH (ah eF.out hb6);clear hb6;go_wp2;go_ret;exact⟨by simp,mg.out⟩
  by_cases hsg:0<sg
  ·have hsn:decide (sg≤0)=false:=decide_eq_false (by omega);have hdp:decide (0<sg)=true:=decide_eq_true hsg;rw[hdp];obtain⟨z1,z2,z3⟩:=zW.out rfl rfl hsg;have tN:=zH (fun W=>HQ.out W rfl rfl hsg);have ni:=zH (fun W=>vC ⟨qn,qm,qd⟩ W (Nat.le_trans z2 (by omega)) (Nat.le_trans z3 (by omega)));have HCM:=zH (fun W=>QZ ⟨qn,qm,qd⟩ (aW 200) W z1 (by decide) 100 (by omega) z2 z3 (by decide) (by decide));simp only[Ra.v] at ni HCM;generalize dV ⟨qn,qm,qd⟩=sq at*;generalize lX ⟨qn,qm,qd⟩ (aW 200)=cq at*;obtain⟨dq,qh⟩:=zF ((qd.toList==(aB 1).toList));have hdd:decide (qd=(aW 1).den)=dq:=by rw[←qh,beq_toList];rfl
   rw[hdd];clear hdd;have hfd:=abT;clear hsg z1 z2 z3 HQ zW hdp;go_enter Tryz.func73,Tryz.ntmps73
   go_upto_region 1 with fail
   simp only[←hW,←hB]
   clear hW hB;go_wp2_with fail;refine (Ef.out W).mono ?_;rintro e w5 ⟨rfl,hb5⟩;have eF:=zH (ah aK.out hb5);have gZ:=zH (HK.out.below hb5 HK.out.lt);have hk5:=gZ.out.cells;clear hb5;go_wp2_with fail;refine (HF2.out w5).mono ?_;rintro e w6 ⟨rfl,hb6⟩;have mg:=zH (ah eF.out hb6);have wH:=zH (gZ.out.below hb6 gZ.out.lt);have hk6:=wH.out.cells;clear hb6;go_wp2_with fail;refine (BR.out w6).mono ?_;rintro e w8 ⟨rfl,hb8⟩;have qE:=zH (ah mg.out hb8);have jJ:=zH (wH.out.below hb8 wH.out.lt);have hk8:=jJ.out.cells;clear hb8;go_wp2_with fail;refine (tN.out w8).mono ?_;rintro e w9 ⟨rfl,eP⟩;have lG:=zH (ah qE.out eP);clear eP
   go_upto_region 4 with fail
   obtain⟨w7,hw7⟩:∃x,x=w9.alloc (.cells #[.bool qn,.string qm,.string qd] 40):=⟨_,rfl⟩
   obtain⟨N,hN⟩:=zE w9.heap.size;have vI:Hid (aj w7 N 40 [.bool qn,.string qm,.string qd]):=by show aj _ _ _ _;rw[hw7,hN];exact aj.new _ _ _
   have fA:Hid (Below w.heap.size w w7):=by show Below _ _ _;rw[hw7];exact ah lG.out (zB _ _)
   simp only[←hw7,←hN]
   clear hw7 hN hkc hk5 hk6 hk8
   have dW:Hid (∀W,Below w7.heap.size w7 W→Below w7.heap.size w7 W∧W.cell? ⟨N,0,none⟩=some (.bool qn)∧W.cell? ⟨N,1,none⟩=some (.string qm)∧W.cell? ⟨N,2,none⟩=some (.string qd)):=fun W hb=>
    ⟨hb,(hb.cell vI.out.lt).trans (vI.out.cells 0),(hb.cell vI.out.lt).trans (vI.out.cells 1),(hb.cell vI.out.lt).trans (vI.out.cells 2)⟩
   cases dq
   ·skip
    refine wp_region_noPanic ?_;refine wp_region_held_drew (S:=(fun w'=>Below w7.heap.size w7 w'∧w'.cell? ⟨N,0,none⟩=some (.bool qn)∧w'.cell? ⟨N,1,none⟩=some (.string qm)∧w'.cell? ⟨N,2,none⟩=some (.string qd))) (by kernel_rfl) (dW.out _ (ak w7.heap.size w7 1)) (fun hHeld=>?_);refine ay 0 ?_;refine ay 1 ?_;refine bJ 2 fun K hK=>?_
    go_simp;have hbS:=hHeld.1;refine (tV.out _).mono ?_;rintro e w10 ⟨rfl,dA⟩;simp only[Ra.v,aW]
    have dO:=zH (ah hbS dA);go_wp2_with fail;refine aT hK (dW.out _ dO.out) fun hHeld=>?_
    clear hK K;refine ay 3 ?_;refine BM 4 (.bool false) rfl ?_ ?_
    ·intro w hSw;(try dsimp only at hSw);go_simp
     all_goals with_reducible rfl
    try simp only[Act.put,tk1,tk2,tk3,tk4,aQ,aS]
    refine ay 5 ?_;refine bK 6 rfl ?_
    try simp only[Act.put,tk1,tk2,tk3,tk4,aQ,aS]
    refine bK 7 rfl ?_
    try simp only[Act.put,tk1,tk2,tk3,tk4,aQ,aS]
    refine bK 8 rfl ?_
    try simp only[Act.put,tk1,tk2,tk3,tk4,aQ,aS]
    refine ay 9 ?_;refine ay 10 ?_;refine bK 11 rfl ?_
    try simp only[Act.put,tk1,tk2,tk3,tk4,aQ,aS]
    refine bK 12 rfl ?_
    try simp only[Act.put,tk1,tk2,tk3,tk4,aQ,aS]
    refine bK 13 rfl ?_
    try simp only[Act.put,tk1,tk2,tk3,tk4,aQ,aS]
    refine bK 14 rfl ?_
    try simp only[Act.put,tk1,tk2,tk3,tk4,aQ,aS]
    refine ay 15 ?_;refine ay 16 ?_;refine wpAnyH_done (by kernel_rfl) ?_ _;refine NoPanic.normal ?_;go_wp2;go_ret;exact⟨by simp,ah fA.out dO.out⟩
   by_cases hsq:0<sq
   ·have UG:decide (0<sq)=true:=decide_eq_true hsq;by_cases hcq:cq≤0
    ·have ZO:decide (cq≤0)=true:=decide_eq_true hcq;refine wp_region_noPanic ?_;refine wp_region_held_drew (S:=(fun w'=>Below w7.heap.size w7 w'∧w'.cell? ⟨N,0,none⟩=some (.bool qn)∧w'.cell? ⟨N,1,none⟩=some (.string qm)∧w'.cell? ⟨N,2,none⟩=some (.string qd))) (by kernel_rfl) (dW.out _ (ak w7.heap.size w7 1)) (fun hHeld=>?_);refine ay 0 ?_;refine ay 1 ?_;refine bJ 2 fun K hK=>?_
     go_simp;have hbS:=hHeld.1;refine (tV.out _).mono ?_;rintro e w10 ⟨rfl,dA⟩;simp only[Ra.v,aW]
     have dO:=zH (ah hbS dA);go_wp2_with fail;refine aT hK (dW.out _ dO.out) fun hHeld=>?_
     clear hK K;refine ay 3 ?_;refine BM 4 (.bool true) rfl ?_ ?_
     ·intro w hSw;(try dsimp only at hSw);go_simp
      all_goals with_reducible rfl
     try simp only[Act.put,tk1,tk2,tk3,tk4,aQ,aS]
     refine ay 5 ?_;refine ay 6 ?_;refine bJ 7 fun K hK=>?_
     go_simp;have hbS:=hHeld.1;refine (ni.out _).mono ?_;rintro e w10 ⟨rfl,dA⟩;simp only[Ra.v,aW]
     have dO:=zH (ah hbS dA);go_wp2_with fail;refine aT hK (dW.out _ dO.out) fun hHeld=>?_
     clear hK K;refine ay 8 ?_;refine ay 9 ?_;refine ay 10 ?_;refine ay 11 ?_;refine bJ 12 fun K hK=>?_
     go_simp;have hbS:=hHeld.1;refine (nP.out _).mono ?_;rintro e w10 ⟨rfl,dA⟩;simp only[Ra.v,aW]
     have dO:=zH (ah hbS dA);go_wp2_with fail;refine aT hK (dW.out _ dO.out) fun hHeld=>?_
     clear hK K;refine bJ 13 fun K hK=>?_
     go_simp;have hbS:=hHeld.1;refine (HCM.out _).mono ?_;rintro e w10 ⟨rfl,dA⟩;simp only[Ra.v,aW]
     have dO:=zH (ah hbS dA);go_wp2_with fail;refine aT hK (dW.out _ dO.out) fun hHeld=>?_
     clear hK K;refine ay 14 ?_;refine ay 15 ?_;refine ay 16 ?_;refine wpAnyH_done (by kernel_rfl) ?_ _;refine NoPanic.normal ?_;go_wp2;go_ret;exact⟨by simp[UG,ZO],ah fA.out dO.out⟩
    ·have ZO:decide (cq≤0)=false:=decide_eq_false hcq;refine wp_region_noPanic ?_;refine wp_region_held_drew (S:=(fun w'=>Below w7.heap.size w7 w'∧w'.cell? ⟨N,0,none⟩=some (.bool qn)∧w'.cell? ⟨N,1,none⟩=some (.string qm)∧w'.cell? ⟨N,2,none⟩=some (.string qd))) (by kernel_rfl) (dW.out _ (ak w7.heap.size w7 1)) (fun hHeld=>?_);refine ay 0 ?_;refine ay 1 ?_;refine bJ 2 fun K hK=>?_
     go_simp;have hbS:=hHeld.1;refine (tV.out _).mono ?_;rintro e w10 ⟨rfl,dA⟩;simp only[Ra.v,aW]
     have dO:=zH (ah hbS dA);go_wp2_with fail;refine aT hK (dW.out _ dO.out) fun hHeld=>?_
     clear hK K;refine ay 3 ?_;refine BM 4 (.bool true) rfl ?_ ?_
     ·intro w hSw;(try dsimp only at hSw);go_simp
      all_goals with_reducible rfl
     try simp only[Act.put,tk1,tk2,tk3,tk4,aQ,aS]
     refine ay 5 ?_;refine ay 6 ?_;refine bJ 7 fun K hK=>?_
     go_simp;have hbS:=hHeld.1;refine (ni.out _).mono ?_;rintro e w10 ⟨rfl,dA⟩;simp only[Ra.v,aW]
     have dO:=zH (ah hbS dA);go_wp2_with fail;refine aT hK (dW.out _ dO.out) fun hHeld=>?_
     clear hK K;refine ay 8 ?_;refine ay 9 ?_;refine ay 10 ?_;refine ay 11 ?_;refine bJ 12 fun K hK=>?_
     go_simp;have hbS:=hHeld.1;refine (nP.out _).mono ?_;rintro e w10 ⟨rfl,dA⟩;simp only[Ra.v,aW]
     have dO:=zH (ah hbS dA);go_wp2_with fail;refine aT hK (dW.out _ dO.out) fun hHeld=>?_
     clear hK K;refine bJ 13 fun K hK=>?_
     go_simp;have hbS:=hHeld.1;refine (HCM.out _).mono ?_;rintro e w10 ⟨rfl,dA⟩;simp only[Ra.v,aW]
     have dO:=zH (ah hbS dA);go_wp2_with fail;refine aT hK (dW.out _ dO.out) fun hHeld=>?_
     clear hK K;refine ay 14 ?_;refine ay 15 ?_;refine ay 16 ?_;refine wpAnyH_done (by kernel_rfl) ?_ _;refine NoPanic.normal ?_;go_wp2;go_ret;exact⟨by simp[UG,ZO],ah fA.out dO.out⟩
   ·have UG:decide (0<sq)=false:=decide_eq_false hsq;refine wp_region_noPanic ?_;refine wp_region_held_drew (S:=(fun w'=>Below w7.heap.size w7 w'∧w'.cell? ⟨N,0,none⟩=some (.bool qn)∧w'.cell? ⟨N,1,none⟩=some (.string qm)∧w'.cell? ⟨N,2,none⟩=some (.string qd))) (by kernel_rfl) (dW.out _ (ak w7.heap.size w7 1)) (fun hHeld=>?_);refine ay 0 ?_;refine ay 1 ?_;refine bJ 2 fun K hK=>?_
    go_simp;have hbS:=hHeld.1;refine (tV.out _).mono ?_;rintro e w10 ⟨rfl,dA⟩;simp only[Ra.v,aW]
    have dO:=zH (ah hbS dA);go_wp2_with fail;refine aT hK (dW.out _ dO.out) fun hHeld=>?_
    clear hK K;refine ay 3 ?_;refine BM 4 (.bool true) rfl ?_ ?_
    ·intro w hSw;(try dsimp only at hSw);go_simp
     all_goals with_reducible rfl
    try simp only[Act.put,tk1,tk2,tk3,tk4,aQ,aS]
    refine ay 5 ?_;refine ay 6 ?_;refine bJ 7 fun K hK=>?_
    go_simp;have hbS:=hHeld.1;refine (ni.out _).mono ?_;rintro e w10 ⟨rfl,dA⟩;simp only[Ra.v,aW]
    have dO:=zH (ah hbS dA);go_wp2_with fail;refine aT hK (dW.out _ dO.out) fun hHeld=>?_
    clear hK K;refine ay 8 ?_;refine ay 9 ?_;refine ay 10 ?_;refine bK 11 rfl ?_
    try simp only[Act.put,tk1,tk2,tk3,tk4,aQ,aS]
    refine bK 12 rfl ?_
    try simp only[Act.put,tk1,tk2,tk3,tk4,aQ,aS]
    refine bK 13 rfl ?_
    try simp only[Act.put,tk1,tk2,tk3,tk4,aQ,aS]
    refine bK 14 rfl ?_
    try simp only[Act.put,tk1,tk2,tk3,tk4,aQ,aS]
    refine ay 15 ?_;refine ay 16 ?_;refine wpAnyH_done (by kernel_rfl) ?_ _;refine NoPanic.normal ?_;go_wp2;go_ret;exact⟨by simp[UG],ah fA.out dO.out⟩
  ·have hsn:decide (sg≤0)=true:=decide_eq_true (by omega);have hdp:decide (0<sg)=false:=decide_eq_false hsg;rw[hdp];go_enter Tryz.func73,Tryz.ntmps73
   go_upto_region 1 with fail
   simp only[←hW,←hB]
   clear hW hB;go_wp2_with fail;refine (Ef.out W).mono ?_;rintro e w5 ⟨rfl,hb5⟩;have eF:=zH (ah aK.out hb5);have gZ:=zH (HK.out.below hb5 HK.out.lt);have hk5:=gZ.out.cells;clear hb5;go_wp2_with fail;refine (HF2.out w5).mono ?_;rintro e w6 ⟨rfl,hb6⟩;have mg:=zH (ah eF.out hb6);have wH:=zH (gZ.out.below hb6 gZ.out.lt);have hk6:=wH.out.cells;clear hb6;go_wp2_with fail;refine (BR.out w6).mono ?_;rintro e w8 ⟨rfl,hb8⟩;have qE:=zH (ah mg.out hb8);clear hb8;go_wp2;go_ret;exact⟨by simp,qE.out⟩
 ·skip
  go_enter Tryz.func73,Tryz.ntmps73
  go_upto_region 1 with fail
  simp only[←hW,←hB]
  clear hW hB;go_wp2;go_ret;exact⟨by simp,aK.out⟩
end Go.Proofs.YtgfeadgafdijaaaGreatDoor
