/- A part of the proof: Ua Ub Uc Ui Ud Ue Uj Uk Um Us Un. -/
import Derived.Test.YtimokmplkpbmdaaGreatDoorQ32
set_option linter.all false
set_option maxRecDepth 100000
set_option maxHeartbeats 0
namespace Go.Proofs.YtimokmplkpbmdaaGreatDoor
open Go.RowKit Go.Maps
def sortedB:List ByteArray->Bool
 |a::b::r=>Op.bytesLess a.toList b.toList&&sortedB (b::r)
 |_=>true
theorem EK (l:List ByteArray):sortedB l=true↔∀k (h:k+1<l.length),Op.bytesLess (l[k]'(by omega)).toList l[k+1].toList=true:=by
 induction l with
 |nil=>exact⟨fun _ k h=>by simp at h,fun _=>rfl⟩
 |cons a l ih=>
  cases l with
  |nil=>exact⟨fun _ k h=>by simp at h,fun _=>rfl⟩
  |cons b r=>
   rw[sortedB,Bool.and_eq_true,ih];constructor
   ·rintro⟨h1,h2⟩ k h;cases k with
    |zero=>exact h1
    |succ k=>exact h2 k (by simpa using h)
   ·intro h;exact⟨h 0 (by simp),fun k hk=>h (k+1) (by simpa using hk)⟩
def jD (s:ByteArray) (l:List ByteArray):Nat:=(l.filter fun x=>decide (x=s)).length
theorem EL (s:ByteArray) (a b:List ByteArray):jD s (a++b)=jD s a+jD s b:=by unfold jD;rw[List.filter_append,List.length_append]
theorem N8 (s t:ByteArray):jD s [t]=if t=s then 1 else 0:=by
 unfold jD;by_cases h:t=s
 ·rw[if_pos h,List.filter_cons,decide_eq_true h];rfl
 ·rw[if_neg h,List.filter_cons,decide_eq_false h];rfl
theorem ac3 (s:ByteArray) (l:List ByteArray):jD s l<=l.length:=List.length_filter_le _ _
theorem N9 {s:ByteArray} {l:List ByteArray} (h:0<jD s l):s∈l:=by
 unfold jD at h;obtain⟨x,hx⟩:=List.exists_mem_of_length_pos h;have:=List.mem_filter.1 hx;rw[<-of_decide_eq_true this.2];exact this.1
def aat (l:List ByteArray):Bool:=l.any fun s=>decide (1<jD s l)
def Aq (l:Lw):List (List ByteArray):=[l.facts.map Dc.name,l.aU.map Sc.name,l.aH.map Pv.name]
def CY (NS:List (List ByteArray)):Int:=if NS.flatten.all dI then (if NS.all sortedB then (if aat NS.flatten then 14 else 0) else 11) else 12
def mg (l:Lw):Int:=CY (Aq l)
theorem lT {s:ByteArray} (h:dI s=true):s.size<=20:=by
 unfold dI nameB at h;rw[Bool.and_eq_true,Bool.and_eq_true,decide_eq_true_eq] at h;have:=h.1.2;show s.data.size<=20;rw[<-Array.length_toList];exact this
def Counts (D:DataW Unit) (names:List ByteArray):Prop:=∀s:ByteArray,D.atKey (.string s.data.toList) (.lit (.int .i64 0))=.lit (.int .i64 (jD s names))
theorem XU {s t:ByteArray} (h:s≠t):(Lit.string s.data.toList)≠.string t.data.toList:=by
 intro e;injection e with e;exact h (ByteArray.ext (Array.toList_inj.1 e))
theorem Counts.put {D:DataW Unit} {names:List ByteArray} {s:ByteArray} (h:Counts D names) (hD:IsMap D):Counts (D.put (.string s.data.toList) (.lit (.int .i64 ((jD s names:Int)+1)))) (names++[s]):=by
 intro t;rw[EL,N8];by_cases e:s=t
 ·subst e;rw[atKey_put_same hD (show WideAt.IsKeyLit (.string s.data.toList) from trivial),if_pos rfl];rfl
 ·rw[atKey_put_other (XU (fun h=>e h.symm)),if_neg e];exact h t
theorem Counts.has {D:DataW Unit} {names:List ByteArray} {s:ByteArray} (h:Counts D names) (hs:s∈names):Maps.has D (.string s.data.toList)=true:=by
 cases e:Maps.has D (.string s.data.toList) with
 |true=>rfl
 |false=>
  have h1:=h s;rw[atKey_of_not_has e] at h1;injection h1 with h1;injection h1 with _ h1;exfalso
  have h2:0<jD s names:=by
   unfold jD;exact List.length_pos_of_mem (List.mem_filter.2 ⟨hs,decide_eq_true rfl⟩)
  omega
theorem DT:Keyed Tryz.prog 9:=string_keyed Tryz.underlying9
theorem aau (w:World):(zeroValue 3).run Tryz.prog w=.ok (.int .i64 0) w:=by kernel_rfl
theorem ae4 (y0 y1 y2:Hd) (r:Nat) (hr:r<3) (w:World):(Instr.index 121 (.agg #[.slice y0.a y0.n y0.c,.slice y1.a y1.n y1.c,.slice y2.a y2.n y2.c]) (.int .i64 (r:Int))).run Tryz.prog w=
  .ok (.slice (([y0,y1,y2].getD r y0).a) (([y0,y1,y2].getD r y0).n) (([y0,y1,y2].getD r y0).c)) w:=by
 have h:r=0∨r=1∨r=2:=by omega
 rcases h with rfl|rfl|rfl<;>rfl
theorem Rd.str {w:World} {A:Option Addr} {l:List ByteArray} (h:Rd w A (l.flatMap lS)) {j:Nat} (hj:j<l.length):∃b off,A=some ⟨b,off,none⟩/\b<w.heap.size/\∀k (hk:k<l.length),w.cell? ⟨b,off+k,none⟩=some (.string l[k]):=by
 obtain⟨b,off,hA,hb,_⟩:=Rd.row lS 1 (fun _=>rfl) (by omega) h hj;refine⟨b,off,hA,hb,fun k hk=>?_⟩;obtain⟨b',off',hA',hb',hc⟩:=Rd.row lS 1 (fun _=>rfl) (by omega) h hk;rw[hA] at hA';injection hA' with hA';injection hA' with h1 h2;subst h1 h2;have:=hc 0 _ rfl;rw[Nat.mul_one,Nat.add_zero] at this;exact this
theorem Kt {NS:List (List ByteArray)} {r:Nat} (hr:r<NS.length):(NS.take (r+1)).flatten=(NS.take r).flatten++NS[r]:=by
 rw[List.take_succ_eq_append_getElem hr,List.flatten_append];simp
theorem ac4 (a b:ByteArray) (w:World):(binOp .geq 9 (.string a) (.string b)).run Tryz.prog w=.ok (.bool (!Op.bytesLess a.toList b.toList)) w:=by
 simp[binOp,Op.stringOp]
theorem UQ (l:Lw) (ss:List (Sc × Hd)) (ps:List (Pv × Hd)) (f s p:Hd) (w:World) (hL:dK w) (h:dV w l ss ps f s p) (hf:nV l):
  Calls Tryz.prog 26 #[dR f s p] w fun e w'=>e=.returned (.int .i64 (mg l))/\Below w.heap.size w w':=by
 have HLI:=zH (fun W hb=>UC l ss ps f s p W (h.below hb) hf);have HL:Hid (∀W,Below w.heap.size w W->dK W):=fun W hb=>hL.below hb
 have HLEN:Hid ((Aq l).flatten.length<=3000):=by
  have h1:=hf.fn;have h2:=hf.sn;have h3:=hf.pn;show _<=_;unfold Aq;simp;omega
 obtain⟨NS,Q7⟩:=zE (Aq l);have Q8:Hid (NS.length=3):=by show _=_;rw[Q7];rfl
 have HG:Hid (∀W (y0 y1 y2:Hd),aJ W lS (l.facts.map Dc.name) y0->aJ W lS (l.aU.map Sc.name) y1->aJ W lS (l.aH.map Pv.name) y2->∀r (hr:r<3),aJ W lS (NS[r]'(by rw[Q8.out];exact hr)) ([y0,y1,y2].getD r y0)):=fun W y0 y1 y2 h0 h1 h2 r hr=>by
  subst Q7;have h:r=0∨r=1∨r=2:=by omega
  rcases h with rfl|rfl|rfl
  ·exact h0
  ·exact h1
  ·exact h2
 obtain⟨R,hR⟩:=zE (mg l)
 have ae5:Hid ((∃x∈NS.flatten,dI x=false)->R=12):=fun⟨x,hx,h⟩=>by
  rw[hR];unfold mg CY;rw[<-Q7];rw[if_neg];intro h2;rw[List.all_eq_true.1 h2 x hx] at h;cases h
 have HV:Hid ((∀x∈NS.flatten,dI x=true)->R=if NS.all sortedB then (if aat NS.flatten then 14 else 0) else 11):=fun h=>by
  rw[hR];unfold mg CY;rw[<-Q7,if_pos (List.all_eq_true.2 h)]
 rw[<-hR];rw[<-Q7] at HLEN;clear hL h hf Q7 hR;obtain⟨fa,fn,fc⟩:=f;obtain⟨sa,sn,sc⟩:=s;obtain⟨pa,pn,pc⟩:=p;unfold dR at HLI⊢;simp only at HLI⊢;obtain⟨W,hW⟩:=zE (w.alloc (.cells #[.slice fa fn fc,.slice sa sn sc,.slice pa pn pc] 28));obtain⟨B,hB⟩:=zE w.heap.size;have HK:Hid (aj W B 28 [.slice fa fn fc,.slice sa sn sc,.slice pa pn pc]):=by show aj _ _ _ _;rw[hW,hB];exact aj.new w _ _
 have aY:Hid (Below w.heap.size w W):=by show Below _ _ _;rw[hW];exact zB _ _
 have hkc:=HK.out.cells;have hmm:=@run_makeMap Tryz.prog;go_enter Tryz.func26,Tryz.ntmps26
 go_upto_region 1 with fail
 simp only[<-hW,<-hB]
 clear hW hB;go_wp2_with fail;refine (HLI.out W aY.out).mono ?_;rintro e W1 ⟨y0,y1,y2,rfl,r0,r1,r2,hb1⟩;have HB1:=zH (ah aY.out hb1);have aav:=zH (fun W (hb:Below W1.heap.size W1 W) r hr=>HG.out W y0 y1 y2 (r0.below hb) (r1.below hb) (r2.below hb) r hr);have HIX:=zH (ae4 y0 y1 y2);clear hb1 r0 r1 r2 HG hkc HLI
 go_upto_region 2 with fail
 obtain⟨W2,hW2⟩:∃x,x=(W1.alloc (.map #[] 0)).alloc (.cells #[.slice y0.a y0.n y0.c,.slice y1.a y1.n y1.c,.slice y2.a y2.n y2.c] 121):=⟨_,rfl⟩
 obtain⟨M,hM⟩:=zE W1.heap.size;have BZ:Hid (W2.ownsMap (H:=Unit) Tryz.prog 9 (plainElem Tryz.prog 3) M 0 (.map [])):=by show World.ownsMap _ _ _ _ _ _ _;rw[hW2,hM];exact (World.ownsMap_made _ _ _ _).alloc _
 have o7:Hid (aj W2 (M+1) 121 [.slice y0.a y0.n y0.c,.slice y1.a y1.n y1.c,.slice y2.a y2.n y2.c]):=by
  show aj _ _ _ _;have h:=aj.new (W1.alloc (.map #[] 0)) 121 #[.slice y0.a y0.n y0.c,.slice y1.a y1.n y1.c,.slice y2.a y2.n y2.c];rw[World.size_alloc] at h;rw[hW2,hM];exact h
 have HB2:Hid (Below W1.heap.size W1 W2):=by show Below _ _ _;rw[hW2];exact (zB _ _).alloc (by rw[World.size_alloc];omega) _
 have EM:Hid (M=W1.heap.size):=hM;have CZ:Hid (∀W,aF M W2 W->Below W1.heap.size W1 W):=fun W ho=>HB2.out.trans (ho.below (by rw[hM];exact Nat.le_refl _) HB2.out.size)
 simp only[<-hW2,<-hM,World.size_alloc]
 clear hW2 hM hmm;have hbx:=o7.out.cells;go_wp2_with fail
 go_loopg [18] 3 (fun g iv wr=>∃(r n:Nat) (D:DataW Unit),r+g=3/\iv=.int .i64 r/\n<=3000/\Hid (n<=(NS.take r).flatten.length)/\Hid (wr.ownsMap Tryz.prog 9 (plainElem Tryz.prog 3) M n D)/\Hid (Counts D (NS.take r).flatten)/\Hid (∀x∈(NS.take r).flatten,dI x=true)/\Hid (aF M W2 wr))
 case atStart=>exact⟨0,0,.map [],by omega,rfl,by omega,Nat.zero_le _,BZ.out,(fun s=>rfl),(fun x hx=>by cases hx),aF.refl _ _⟩
 case round=>
  obtain⟨r,n,D,hr,rfl,hn3,hnl,hmap,hcnt,hok,hon⟩:=hrel;by_cases hlt:r<3
  ·have hrl:r<NS.length:=by rw[Q8.out];exact hlt
   have hix:=HIX.out r hlt;have HRW:=zH (fun W hb=>aav.out W hb r hlt);have HTF:=zH (Kt hrl);have aiC:Hid (∀x∈NS[r],x∈NS.flatten):=fun x hx=>List.mem_flatten.2 ⟨_,List.getElem_mem hrl,hx⟩
   have Ku:Hid ((NS.take r).flatten.length+NS[r].length<=3000):=by
    have h1:=HTF.out
    have h2:(NS.take (r+1)).flatten.length<=NS.flatten.length:=by
     conv=>rhs;rw[<-List.take_append_drop (r+1) NS,List.flatten_append,List.length_append]
     omega
    rw[h1,List.length_append] at h2;have:=HLEN.out;show _<=_;omega
   have hlt3:decide ((r:Int)<3)=true:=decide_eq_true (by omega);generalize [y0,y1,y2].getD r y0=hd at*;obtain⟨ha,hn,hc⟩:=hd;generalize NS[r]=L at*;generalize (NS.take r).flatten=dn at*;simp only at hix HRW;have hlen:hn=L.length:=(HRW.out W1 (Below.refl _ _)).len;have C9:=zH hlen;clear hlen;have hib:hn<=3000:=by have:=Ku.out;have:=C9.out;omega
   go_wp2_with fail
   go_loopg [23] hn (fun g iv wr=>∃(i n:Nat) (D:DataW Unit),i+g=hn/\iv=.int .i64 i/\n<=3000/\Hid (n<=dn.length+i)/\Hid (wr.ownsMap Tryz.prog 9 (plainElem Tryz.prog 3) M n D)/\Hid (Counts D (dn++L.take i))/\Hid (∀x∈dn++L.take i,dI x=true)/\Hid (aF M W2 wr))
   case atStart=>exact⟨0,n,D,by omega,rfl,hn3,zH (by have:=hnl.out;omega),hmap,(by show Counts _ _;rw[List.take_zero,List.append_nil];exact hcnt.out),(by rw[List.take_zero,List.append_nil];exact hok.out),hon⟩
   case round=>
    obtain⟨i,n,D,hi,rfl,hn3,hnl,hmap,hcnt,hok,hon⟩:=hrel;by_cases hin:i<hn
    ·have hil:i<L.length:=by rw[<-C9.out];exact hin
     obtain⟨b,off,hA,hb,hcs⟩:=(HRW.out wr (CZ.out _ hon.out)).rd.str hil;simp only at hA;subst hA;have hc0:=hcs i hil;have aiD:Hid (L[i]∈NS.flatten):=aiC.out _ (List.getElem_mem hil);have zl:Hid (L.take (i+1)=L.take i++[L[i]]):=List.take_succ_eq_append_getElem hil;generalize L[i]=x at*;have HLE:=zH (HL.out wr (ah HB1.out (CZ.out _ hon.out)));clear hcs;go_wp2_with fail;refine (xX x wr HLE.out).mono ?_;rintro e w9 ⟨rfl,gW⟩;have Kv:=zH (hon.out.trans (aF.of_below (G:=M) gW));have abR:=hmap.out.kept (below_grown gW) (by simp);have HM9:=zH abR;clear gW abR hc0;cases hq:dI x with
     |false=>
      obtain rfl:R=12:=ae5.out ⟨x,aiD.out,hq⟩;have lV:=zH (ah HB1.out (CZ.out _ Kv.out));clear hq;go_wp2;go_ret;exact⟨rfl,lV.out⟩
     |true=>
      have hkey:keyOf Tryz.prog 9 (.string x)=some (.string x.data.toList):=WideMaps.keyOf_string_mk Tryz.underlying9 (by have:=lT hq;unfold maxLen;omega);have HKEY:=zH hkey;have HQ:=zH hq;clear hkey hq;go_wp2_with (at_lookup;refine wpList_lookup_own_int _ rfl _ _ 123 rfl 9 3 .i64 DT Tryz.underlying123 Tryz.underlying3 (aau _) M n D rfl HM9.out _ _ rfl HKEY.out ?_);intro c hat hwc
      have hcx:c=(jD x (dn++L.take i):Int):=by
       have h1:=hcnt.out x;rw[h1] at hat;injection hat with hat;injection hat with _ hat;exact hat.symm
      have aiE:jD x (dn++L.take i)<=dn.length+i:=by
       have:=ac3 x (dn++L.take i);rw[List.length_append,List.length_take] at this;omega
      have aiF:=zH (hcnt.out.put (s:=x) HM9.out.isMap);subst hcx;generalize jD x (dn++L.take i)=cn at*;have hcn:cn<=3000:=by have:=Ku.out;have:=C9.out;omega
      have hw1:IntKind.i64.wrap ((cn:Int)+1)=(cn:Int)+1:=IntWalk.i64_in _ (by omega);have hwf:(Lit.int .i64 ((cn:Int)+1)).wf=true:=WalkArith.wf_i64 (by omega);have HWF:=zH hwf;clear hat hwc hwf aiE;go_wp2_with (at_mapUpdate;refine wpList_mapUpdate_own _ rfl _ _ _ 123 rfl 9 3 DT Tryz.underlying123 _ M n _ rfl HM9.out (by unfold maxLen;omega) _ _ _ rfl rfl HKEY.out _ [] (plainElem_int Tryz.underlying3 HWF.out) ?_);intro w10 XV hgr;have aiG:=zH XV;have aiH:Hid (aF M W2 w10):=Kv.out.trans ⟨hgr.os,hgr.tape,hgr.output,hgr.size,fun k hk hne=>hgr.block k hk (fun e=>hne (Option.some.inj e))⟩;clear XV hgr;go_wp2
      go_roundg (hn-(i+1))
      case measure=>omega
      case rel=>
       refine⟨i+1,n+1,_,by omega,by go_num,?_,?_,aiG,?_,?_,aiH⟩
       ·have:=hnl.out;have:=Ku.out;have:=C9.out;omega
       ·have:=hnl.out;show _<=_;omega
       ·show Counts _ _;rw[zl.out,<-List.append_assoc];exact aiF.out
       ·show ∀y∈_,_;rw[zl.out,<-List.append_assoc];intro y hy;rcases List.mem_append.1 hy with hy|hy
        ·exact hok.out y hy
        ·rw[List.mem_singleton.1 hy];exact HQ.out
    ·have hie:L.take i=L:=List.take_of_length_le (by have:=C9.out;omega);have hcnt2:=hcnt.out;have hok2:=hok.out;rw[hie,<-HTF.out] at hcnt2 hok2;have HC2:=zH hcnt2;have jQ:=zH hok2
     have aiI:Hid (n<=(NS.take (r+1)).flatten.length):=by
      show _<=_;rw[HTF.out,List.length_append];have:=hnl.out;have:=C9.out;omega
     clear hcnt hok hcnt2 hok2 hie;go_wp2
     go_roundg (3-(r+1))
     case measure=>omega
     case rel=>exact⟨r+1,n,D,by omega,by go_num,hn3,aiI,hmap,HC2,jQ,hon⟩
  ·have hr3:NS.take r=NS:=List.take_of_length_le (by rw[Q8.out];omega);rw[hr3] at hcnt hok hnl;have Xr:=zH (HV.out hok.out);obtain⟨W3,hW3⟩:∃x,x=wr:=⟨_,rfl⟩
   rw[<-hW3] at hmap hon⊢;have HB3:=zH (ah HB1.out (CZ.out _ hon.out));have abS:=zH (fun W (hb:Below W3.heap.size W3 W) r hr=>aav.out W (ah (CZ.out _ hon.out) hb) r hr);have aiJ:=(hon.out.blk o7.out (by omega)).cells;have hgeq:=fun (a b:ByteArray) (W:World)=>ac4 a b W
   clear HV ae5 BZ hW3 CZ aav HB1 HB2 hok hnl hon o7;go_wp2_with fail
   go_loopg [37] 3 (fun g iv wr=>∃r:Nat,r+g=3/\iv=.int .i64 r/\Hid (∀k (hk:k<NS.length),k<r->sortedB NS[k]=true)/\Hid (Below W3.heap.size W3 wr))
   case atStart=>exact⟨0,by omega,rfl,(fun k hk h=>absurd h (by omega)),Below.refl _ _⟩
   case round=>
    obtain⟨r,hr,rfl,hso,hbr⟩:=hrel;by_cases hlt:r<3
    ·have hrl:r<NS.length:=by rw[Q8.out];exact hlt
     have hix:=HIX.out r hlt;have HRW:=zH (fun W hb=>abS.out W hb r hlt)
     have HNS:Hid (sortedB NS[r]=false->R=11):=fun h=>by
      rw[Xr.out,if_neg];intro h2;have:=List.all_eq_true.1 h2 NS[r] (List.getElem_mem hrl);rw[h] at this;cases this
     have Df:Hid (sortedB NS[r]=true->∀k (hk:k<NS.length),k<r+1->sortedB NS[k]=true):=fun h k hk hkr=>by
      by_cases e:k<r
      ·exact hso.out k hk e
      ·obtain rfl:k=r:=by omega
       exact h
     have hbound:NS[r].length<=3000:=by
      have h2:(NS.take (r+1)).flatten.length<=NS.flatten.length:=by
       conv=>rhs;rw[<-List.take_append_drop (r+1) NS,List.flatten_append,List.length_append]
       omega
      rw[Kt hrl,List.length_append] at h2;have:=HLEN.out;omega
     generalize [y0,y1,y2].getD r y0=hd at*;obtain⟨ha,hn,hc⟩:=hd;generalize NS[r]=L at*;simp only at hix HRW;have hlen:hn=L.length:=(HRW.out W3 (Below.refl _ _)).len;have ny:=zH (EK L);have hlt3:decide ((r:Int)<3)=true:=decide_eq_true (by omega);have hnb:hn<=3000:=by rw[hlen];exact hbound
     have C9:=zH hlen;clear hlen hbound hso;go_wp2_with fail
     go_loopg [11] hn (fun g iv wr=>∃i:Nat,iv=.int .i64 i/\1<=i/\hn-i<=g/\i<=hn+1/\Hid (∀k (hk:k+1<L.length),k+1<i->Op.bytesLess L[k].toList L[k+1].toList=true)/\Hid (Below W3.heap.size W3 wr))
     case atStart=>exact⟨1,rfl,by omega,by omega,by omega,(fun k hk h=>absurd h (by omega)),hbr⟩
     case round=>
      obtain⟨i,rfl,hi1,hig,hin1,hle,hbr⟩:=hrel;by_cases hin:i<hn
      ·have hil:i<L.length:=by rw[<-C9.out];exact hin
       obtain⟨b,off,hA,hb,hcs⟩:=(HRW.out wr hbr.out).rd.str hil;simp only at hA;subst hA;obtain⟨m,rfl⟩:∃m,i=m+1:=⟨i-1,by omega⟩
       have hc0:=hcs m (by omega);have hc1:=hcs (m+1) hil;have hw1:IntKind.i64.wrap (((m+1:Nat):Int)-1)=(m:Int):=by rw[IntWalk.i64_in _ (by omega)];omega
       have afa:Hid (Op.bytesLess (L[m]'(by omega)).toList L[m+1].toList=true->∀k (hk:k+1<L.length),k+1<m+1+1->Op.bytesLess L[k].toList L[k+1].toList=true):=fun h k hk hkm=>by
        by_cases e:k+1<m+1
        ·exact hle.out k hk e
        ·obtain rfl:k=m:=by omega
         exact h
       have HBAD:Hid (Op.bytesLess (L[m]'(by omega)).toList L[m+1].toList=false->R=11):=fun h=>by
        refine HNS.out ?_;cases e:sortedB L with
        |false=>rfl
        |true=>have:=ny.out.1 e m hil;rw[h] at this;cases this
       have hml:m<hn:=by omega
       generalize L[m]'(by omega)=x0 at*;generalize L[m+1]=x1 at*;obtain⟨q,hq⟩:=zF (Op.bytesLess x0.toList x1.toList);rw[hq] at afa HBAD;clear hcs hle hgeq;have HBD:=zH (below_drewN hbr.out 1);clear hbr
       go_upto_region 19 with fail
       cases q
       ·obtain rfl:R=11:=HBAD.out rfl;have lV:=zH (ah HB3.out HBD.out);go_region;go_wp2;go_ret;exact⟨rfl,lV.out⟩
       ·have aiK:=zH (afa.out rfl);go_region;go_wp2
        go_roundg (hn-(m+1+1))
        case measure=>omega
        case rel=>exact⟨m+1+1,by go_num,by omega,by omega,by omega,aiK,HBD⟩
      ·have HSL:Hid (sortedB L=true):=ny.out.2 (fun k hk=>hle.out k hk (by have:=C9.out;omega));have uS:=zH (Df.out HSL.out);clear hle;go_wp2
       go_roundg (3-(r+1))
       case measure=>omega
       case rel=>exact⟨r+1,by omega,by go_num,uS,hbr⟩
    ·have hall:NS.all sortedB=true:=List.all_eq_true.2 (fun x hx=>by
      obtain⟨k,hk,rfl⟩:=List.getElem_of_mem hx;exact hso.out k hk (by have:=Q8.out;omega))
     have xU:=Xr.out;rw[if_pos hall] at xU
     have jr:Hid ((∃x,1<jD x NS.flatten)->R=14):=fun⟨x,hx⟩=>by
      rw[xU,if_pos];exact List.any_eq_true.2 ⟨x,N9 (by omega),decide_eq_true hx⟩
     have Gl:Hid ((∀x∈NS.flatten,jD x NS.flatten<=1)->R=0):=fun h=>by
      rw[xU,if_neg];intro h2;obtain⟨x,hx,h3⟩:=List.any_eq_true.1 h2;have:=of_decide_eq_true h3;have:=h x hx;omega
     have HMX:=zH (hmap.kept (below_grown hbr.out) (by simp));have Oa:Hid (Counts D NS.flatten):=hcnt;have jA:=zH (ah HB3.out hbr.out);obtain⟨W4,hW4⟩:∃x,x=wr:=⟨_,rfl⟩
     rw[<-hW4] at HMX jA⊢;clear xU hall Xr hso hmap hcnt hbr hW4 HIX abS hgeq aiJ Q8 HLEN;go_wp2_with (at_range;refine wpList_range_own _ rfl _ 123 rfl 9 3 DT Tryz.underlying123 _ M n _ rfl HMX.out ?_;intro w0 hrg0 hg0 hs0)
     go_frame
     obtain⟨rr,hrr⟩:∃x,x=W4.heap.size:=⟨_,rfl⟩
     rw[<-hrr] at hrg0⊢;have HRR:Hid (w.heap.size<=rr):=by show _<=_;rw[hrr];exact jA.out.size
     have HB0:Hid (Below w.heap.size w w0):=jA.out.grown hg0 jA.out.size (fun g hg=>by cases hg);have afb:=zH hrg0;clear hrr hg0 hs0 hrg0
     go_loopg [13] (Maps.size D) (fun g v wr=>∃left:Lit->Bool,Hid (wr.ranges Tryz.prog 9 (plainElem Tryz.prog 3) M rr n D left g)/\Hid (∀x∈NS.flatten,left (.string x.data.toList)=true∨jD x NS.flatten<=1)/\Hid (Below w.heap.size w wr))
     case atStart=>exact⟨_,afb,(fun x hx=>.inl (Oa.out.has hx)),HB0⟩
     case round=>
      obtain⟨left,hrg,hlf,hbr⟩:=hrel;clear afb HB0;go_wp2_with (at_next;refine wpList_next_ranges _ rfl _ rfl 9 DT (plainElem Tryz.prog 3) (fun s:ByteArray=>Value.string s) (Value.int .i64) (fun key kl h=>by obtain⟨s,h1,_⟩:=WideMaps.string_of_keyOf Tryz.underlying9 h;exact⟨s,h1⟩) (fun v y h=>by obtain⟨c,h1,_⟩:=plainElem_int_inv Tryz.underlying3 h;exact⟨c,h1⟩) M rr n D left _ rfl hrg.out ?_ ?_)
      ·intro hc0 hl0
       obtain rfl:R=0:=Gl.out (fun x hx=>by
        rcases hlf.out x hx with h|h
        ·rw[hl0] at h;cases h
        ·exact h)
       clear hl0;go_wp2;go_ret;exact⟨rfl,hbr.out⟩
      ·intro x c kl yd yp w' cnt' hkey hlk hv hat afc hlt' hgr hsz hen;obtain⟨s,hs,rfl,_⟩:=WideMaps.string_of_keyOf Tryz.underlying9 hkey;injection hs with hs;subst hs;obtain⟨c',hc',hyy,_⟩:=plainElem_int_inv Tryz.underlying3 hv;injection hc' with _ hc';subst hc';injection hyy with hy1 hy2;subst hy1 hy2
       have hcx:c=(jD x NS.flatten:Int):=by
        have h1:=hat (.lit (.int .i64 0));rw[Oa.out x] at h1;injection h1 with h1;injection h1 with _ h1;exact h1.symm
       have HCX:=zH hcx;have HB':Hid (Below w.heap.size w w'):=hbr.out.grown hgr hbr.out.size (fun g hg=>by obtain rfl:=Option.some.inj hg;exact HRR.out);have aiL:=zH afc;have Ht:=zH hlt'
       have EN:Hid (c<=1->∀t∈NS.flatten,(left (.string t.data.toList)&& !(Lit.string t.data.toList).sameKey (.string x.data.toList))=true∨jD t NS.flatten<=1):=fun hc t ht=>by
        rcases hlf.out t ht with h|h
        ·cases e:(Lit.string t.data.toList).sameKey (.string x.data.toList) with
         |false=>left;rw[h];rfl
         |true=>
          right
          have h2:=WideAt.sameKey_eq e;injection h2 with h2;have h3:t=x:=ByteArray.ext (Array.toList_inj.1 h2);rw[h3];omega
        ·exact .inr h
       clear hkey hlk hv hat afc hlt' hgr hsz hcx hlf hrg hbr;by_cases h1:1<c
       ·obtain rfl:R=14:=jr.out ⟨x,by have:=HCX.out;omega⟩;go_wp2;go_ret;exact⟨rfl,HB'.out⟩
       ·have aiM:=zH (EN.out (by omega));go_wp2
        go_roundg cnt'
        case measure=>exact Ht.out
        case rel=>exact⟨_,aiL,aiM,HB'⟩
end Go.Proofs.YtimokmplkpbmdaaGreatDoor
namespace Go.Proofs.YtimokmplkpbmdaaGreatDoor
open Go.RowKit
def gK:List Int->Int
 |[]=>0
 |z::r=>if z=0 then gK r else z
def bg (l:Lw):Int:=if 20<l.facts.length∨8<l.aU.length∨30<l.aH.length then 2 else if mg l≠0 then mg l else if pG l=false then 13 else
 if gK (l.aU.map fun s=>iH s.bI)≠0 then gK (l.aU.map fun s=>iH s.bI) else gK (l.aH.map (jm (dW l)))
theorem um (z:Int) (r:List Int):gK (z::r)=if z=0 then gK r else z:=rfl
theorem Au (l:Lw) (ss:List (Sc × Hd)) (ps:List (Pv × Hd)) (f s p:Hd) (w:World) (hL:cZ w) (h:dV w l ss ps f s p) (hf:nV l):
  Calls Tryz.prog 10 #[dR f s p] w fun e w'=>e=.returned (.int .i64 (bg l))/\Below w.heap.size w w':=by
 have HNA:=zH (fun W hb=>UQ l ss ps f s p W (hL.below hb).e (h.below hb) hf);have mG:=zH (fun W hb=>UG l ss ps f s p W (h.below hb));have HSI:=zH (fun W hb=>J7 l ss ps f s p W (h.below hb) hf);have HL:Hid (∀W,Below w.heap.size w W->cZ W):=fun W hb=>hL.below hb
 have lU:=zH h;have HF:=zH hf;obtain⟨R,hR⟩:=zE (bg l);have zk:Hid (f.n=l.facts.length):=h.f.len;have uS:Hid (s.n=l.aU.length):=by show _=_;rw[<-h.sl,List.length_map];exact h.s.len
 have iW:Hid (p.n=l.aH.length):=by show _=_;rw[<-h.pl,List.length_map];exact h.p.len
 have HVM:Hid (20<f.n∨8<s.n∨30<p.n->R=2):=fun h=>by rw[hR];unfold bg;rw[zk.out,uS.out,iW.out] at h;rw[if_pos h]
 have HVN:Hid (¬(20<f.n∨8<s.n∨30<p.n)->R=if mg l≠0 then mg l else if pG l=false then 13 else if gK (l.aU.map fun s=>iH s.bI)≠0 then gK (l.aU.map fun s=>iH s.bI) else gK (l.aH.map (jm (dW l)))):=fun h=>by
  rw[hR];unfold bg;rw[zk.out,uS.out,iW.out] at h;rw[if_neg h]
 have Xy:Hid (∀k (hk:k<l.aU.length) (hk':k<ss.length),l.aU[k]=ss[k].1):=fun k hk hk'=>by have e:=h.sl;simp[<-e]
 have NW:Hid (∀k (hk:k<l.aH.length) (hk':k<ps.length),l.aH[k]=ps[k].1):=fun k hk hk'=>by have e:=h.pl;simp[<-e]
 rw[<-hR];generalize pG l=ty at*;generalize mg l=nz at*;clear hL h hf hR;obtain⟨fa,fn,fc⟩:=f;obtain⟨sa,sn,sc⟩:=s;obtain⟨pa,pn,pc⟩:=p;unfold dR at HNA mG HSI⊢;simp only at HNA mG HSI zk uS iW HVM HVN⊢;obtain⟨W,hW⟩:=zE (w.alloc (.cells #[.slice fa fn fc,.slice sa sn sc,.slice pa pn pc] 28));obtain⟨B,hB⟩:=zE w.heap.size;have HK:Hid (aj W B 28 [.slice fa fn fc,.slice sa sn sc,.slice pa pn pc]):=by show aj _ _ _ _;rw[hW,hB];exact aj.new w _ _
 have aY:Hid (Below w.heap.size w W):=by show Below _ _ _;rw[hW];exact zB _ _
 have hkc:=HK.out.cells;by_cases hm:20<fn∨8<sn∨30<pn
 ·obtain rfl:R=2:=HVM.out hm;go_enter Tryz.func10,Tryz.ntmps10
  go_upto_region 1 with fail
  simp only[<-hW,<-hB]
  clear hW hB;by_cases h1:20<fn
  ·go_wp2;go_ret;exact⟨rfl,aY.out⟩
  by_cases h2:8<sn
  ·go_wp2;go_ret;exact⟨rfl,aY.out⟩
  have h3:30<pn:=by omega
  clear hm;go_wp2;go_ret;exact⟨rfl,aY.out⟩
 have hv:=HVN.out hm;have h1:¬20<fn:=fun h=>hm (.inl h)
 have h2:¬8<sn:=fun h=>hm (.inr (.inl h))
 have h3:¬30<pn:=fun h=>hm (.inr (.inr h))
 have HV:=zH hv;clear hm HVM HVN hv;go_enter Tryz.func10,Tryz.ntmps10
 go_upto_region 1 with fail
 simp only[<-hW,<-hB]
 clear hW hB;go_wp2_with fail;refine (HNA.out W aY.out).mono ?_;rintro e w5 ⟨rfl,hb5⟩;have jo:=zH (ah aY.out hb5);have rF:=zH (HK.out.below hb5 HK.out.lt);have hk5:=rF.out.cells;clear hb5 HNA hkc;by_cases hz:nz=0;rotate_left
 ·obtain rfl:R=nz:=by rw[HV.out,if_pos hz]
  have hzb:(R !=0)=true:=by simp[hz]
  have hzc:(R==0)=false:=by simp[hz]
  clear HV;go_wp2;go_ret;exact⟨rfl,jo.out⟩
 subst hz;go_wp2_with fail;refine (mG.out w5 jo.out).mono ?_;rintro e w6 ⟨rfl,hb6⟩;have nX:=zH (ah jo.out hb6);have J5:=zH (rF.out.below hb6 rF.out.lt);have hk6:=J5.out.cells;clear hb6 mG hk5;cases ty
 ·obtain rfl:R=13:=by rw[HV.out];simp
  clear HV;go_wp2;go_ret;exact⟨rfl,nX.out⟩
 have jX:Hid (R=if gK (l.aU.map fun s=>iH s.bI)≠0 then gK (l.aU.map fun s=>iH s.bI) else gK (l.aH.map (jm (dW l)))):=by show _=_;rw[HV.out];simp
 clear HV;go_wp2_with fail
 go_loopg [38] sn (fun g iv wr=>∃j:Nat,j+g=sn/\iv=.int .i64 j/\Hid (gK (l.aU.map fun s=>iH s.bI)=gK ((l.aU.drop j).map fun s=>iH s.bI))/\Hid (Below w.heap.size w wr)/\Hid (aj wr B 28 [.slice fa fn fc,.slice sa sn sc,.slice pa pn pc]))
 case atStart=>exact⟨0,by omega,rfl,rfl,nX,J5⟩
 case round=>
  obtain⟨j,hj,rfl,hfe,hbr,hkr⟩:=hrel;by_cases hlt:j<sn
  ·have mZ:j<l.aU.length:=by rw[<-uS.out];exact hlt
   have hjm:j<ss.length:=by rw[<-lU.out.s.len];exact hlt
   obtain⟨b,off,hA,hb,hc⟩:=Rd.row bK 4 (fun _=>rfl) (by omega) (lU.out.s.below hbr.out).rd hjm;have hrow:=(lU.out.sb _ (List.getElem_mem hjm)).below hbr.out;have hfin:=HF.out.sb _ (List.getElem_mem mZ);have yH:=hfe.out;rw[List.drop_eq_getElem_cons mZ,List.map_cons,um] at yH;rw[Xy.out j mZ hjm] at yH hfin;simp only at hA;subst hA;generalize ss[j]=x at*;obtain⟨⟨nm,mo,da,br⟩,⟨ha,hn,hcc⟩⟩:=x;simp only at hrow hfin yH;have HRC:=zH (fun W (hb:Below wr.heap.size wr W)=>Uz nm mo da br ha hn hcc W (hrow.below hb).len (Nat.le_trans hrow.cap hrow.max) (hrow.below hb).rd hfin);have c0:=hc 0 _ rfl;have c1:=hc 1 _ rfl;have c2:=hc 2 _ rfl;have c3:=hc 3 _ rfl;simp only[Nat.add_zero] at c0;generalize iH br=z at*;have Kw:=zH yH;have hba:=(Below.refl wr.heap.size wr).alloc (Nat.le_refl _) (.cells #[.string nm,.int .i64 mo,.int .i64 da,.slice ha hn hcc] 39);have o7:=zH hba;clear hc hrow hfin yH hfe hba;go_wp2_with fail;refine (HRC.out _ o7.out).mono ?_;rintro e w7 ⟨rfl,hb7⟩;have xk:=zH (ah hbr.out (ah o7.out hb7));have HK7:=zH (hkr.out.below (ah o7.out hb7) hkr.out.lt);clear hb7 c0 c1 c2 c3 hbr hkr;by_cases hz:z=0
   ·subst hz;have aaw:Hid (gK (l.aU.map fun s=>iH s.bI)=gK ((l.aU.drop (j+1)).map fun s=>iH s.bI)):=by show _=_;rw[Kw.out,if_pos rfl]
    go_wp2
    go_roundg (sn-(j+1))
    case measure=>omega
    case rel=>exact⟨j+1,by omega,by go_num,aaw,xk,HK7⟩
   ·obtain rfl:R=z:=by rw[jX.out,Kw.out,if_neg hz,if_pos hz]
    have hzb:(R !=0)=true:=by simp[hz]
    have hzc:(R==0)=false:=by simp[hz]
    clear jX Kw;go_wp2;go_ret;exact⟨rfl,xk.out⟩
  ·have hjn:j=sn:=by omega
   have hv3:R=gK (l.aH.map (jm (dW l))):=by
    rw[jX.out,hfe.out,hjn,uS.out,List.drop_length];rfl
   have Kq:=zH hv3;have aiN:=hkr.out.cells;have jA:=hbr;clear hv3 jX hfe hjn J5 nX hk6;go_wp2_with fail;refine (HSI.out wr hbr.out).mono ?_;rintro e w7 ⟨hg,rfl,hgr,hb7⟩;have xk:=zH (ah jA.out hb7);have HK7:=zH (hkr.out.below hb7 hkr.out.lt);have hk7:=HK7.out.cells;obtain⟨ga,gn,gc⟩:=hg;have Hu:=zH hgr;clear hb7 hgr hbr hkr aiN;simp only at Hu⊢;go_wp2_with fail
   go_loopg [53] pn (fun g iv wr=>∃j:Nat,j+g=pn/\iv=.int .i64 j/\Hid (R=gK ((l.aH.drop j).map (jm (dW l))))/\Hid (Below w7.heap.size w7 wr))
   case atStart=>exact⟨0,by omega,rfl,Kq,Below.refl _ _⟩
   case round=>
    obtain⟨j,hj,rfl,hfe,hbr⟩:=hrel;clear Kq;by_cases hlt:j<pn
    ·have mZ:j<l.aH.length:=by rw[<-iW.out];exact hlt
     have hjm:j<ps.length:=by rw[<-lU.out.p.len];exact hlt
     have hbw:=ah xk.out hbr.out;obtain⟨b,off,hA,hb,hc⟩:=Rd.row aA 12 (fun _=>rfl) (by omega) (lU.out.p.below hbw).rd hjm;have hrow:=(lU.out.pb _ (List.getElem_mem hjm)).below hbw;have hfin:=HF.out.pb _ (List.getElem_mem mZ);have yH:=hfe.out;rw[List.drop_eq_getElem_cons mZ,List.map_cons,um] at yH;rw[NW.out j mZ hjm] at yH hfin;simp only at hA;subst hA;generalize ps[j]=x at*;have Bg:=zH (fun W (hb:Below wr.heap.size wr W)=>I5 (dW l) x ga gn gc W (HL.out _ (ah hbw hb)) Hu.out.len (Nat.le_trans Hu.out.cap Hu.out.max) (Hu.out.below (ah hbr.out hb)).rd (hrow.below hb) hfin.1 hfin.2.1 hfin.2.2);generalize jm (dW l) x.1=z at*;obtain⟨⟨nm,⟨tt,tm,td⟩,ch,⟨pI,pJ,pK⟩,⟨pO,pR,cn3⟩,bo⟩,⟨ha,hn,hcc⟩⟩:=x;unfold aA at Bg;simp only at Bg;have c0:=hc 0 _ rfl;have c1:=hc 1 _ rfl;have c2:=hc 2 _ rfl;have c3:=hc 3 _ rfl;have c4:=hc 4 _ rfl;have c5:=hc 5 _ rfl;have c6:=hc 6 _ rfl;have c7:=hc 7 _ rfl;have c8:=hc 8 _ rfl;have c9:=hc 9 _ rfl;have c10:=hc 10 _ rfl;have c11:=hc 11 _ rfl;simp only[Nat.add_zero] at c0;have Kw:=zH yH;have hba:=(Below.refl wr.heap.size wr).alloc (Nat.le_refl _) (.cells #[.string nm,.bool tt,.int .i64 tm,.int .i64 td,.slice ha hn hcc,.bool ch,.bool pI,.string pJ,.string pK,.bool pO,.string pR,.string cn3] 45);have o7:=zH hba;clear hc hrow hfin yH hfe hba hbw;go_wp2_with fail;refine (Bg.out _ o7.out).mono ?_;rintro e w8 ⟨rfl,hb8⟩;have XT:=zH (ah hbr.out (ah o7.out hb8));clear hb8 c0 c1 c2 c3 c4 c5 c6 c7 c8 c9 c10 c11 hbr;by_cases hz:z=0
     ·subst hz;have aaw:Hid (R=gK ((l.aH.drop (j+1)).map (jm (dW l)))):=by show _=_;rw[Kw.out,if_pos rfl]
      clear Kw;go_wp2
      go_roundg (pn-(j+1))
      case measure=>omega
      case rel=>exact⟨j+1,by omega,by go_num,aaw,XT⟩
     ·obtain rfl:R=z:=by rw[Kw.out,if_neg hz]
      have hzb:(R !=0)=true:=by simp[hz]
      have hzc:(R==0)=false:=by simp[hz]
      have lV:=zH (ah xk.out XT.out);clear Kw;go_wp2;go_ret;exact⟨rfl,lV.out⟩
    ·have hjn:j=pn:=by omega
     obtain rfl:R=0:=by rw[hfe.out,hjn,iW.out,List.drop_length];rfl
     have lV:=zH (ah xk.out hbr.out);clear hfe hbr hjn;go_wp2;go_ret;exact⟨rfl,lV.out⟩
theorem tu (w:World):Calls Tryz.prog 93 #[.bool true] w fun e w'=>e=.returned (.tuple #[])/\w'=w:=by
 go_enter Tryz.func93,Tryz.ntmps93;go_wp2;go_end0;exact⟨rfl,rfl⟩
theorem uo (s:ByteArray) (w:World) (hL:Laid w) (hs:s.size<=1048576) (hk:(dU s).2=true):Calls Tryz.prog 135 #[.string s] w fun e w'=>e=.returned (dU s).1.v/\Below w.heap.size w w':=by
 obtain⟨W,hW⟩:=zE (w.alloc (.cells #[.bool false,.string ⟨#[]⟩,.string ⟨#[]⟩] 43));obtain⟨B,hB⟩:=zE w.heap.size;have HK:Hid (aj W B 43 [.bool false,.string ⟨#[]⟩,.string ⟨#[]⟩]):=by show aj _ _ _ _;rw[hW,hB];exact aj.new w _ _
 have aY:Hid (Below w.heap.size w W):=by show Below _ _ _;rw[hW];exact zB _ _
 have HP:=zH (Gy s W (hL.below aY.out) hs);rw[hk] at HP;generalize (dU s).1=x at*;obtain⟨x1,x2,x3⟩:=x;unfold Ra.v at HP⊢;simp only at HP⊢;have iC:=zH (Nat.le_of_eq hB.symm);clear hL hk;go_enter Tryz.func135,Tryz.ntmps135
 go_upto_region 1 with fail
 simp only[<-hW,<-hB]
 clear hW hB;go_wp2_with fail;refine HP.out.mono ?_;rintro e w1 ⟨rfl,hb1⟩;have HB1:=zH (ah aY.out hb1);have iF:Hid (aj w1 B 43 [.bool false,.string ⟨#[]⟩,.string ⟨#[]⟩]):=HK.out.below hb1 HK.out.lt;have HA:Hid (Below w1.heap.size w1 (w1.alloc (.cells #[.bool x1,.string x2,.string x3] 43))):=(Below.refl _ _).alloc (Nat.le_refl _) _;obtain⟨w2,hw2⟩:=zE (w1.alloc (.cells #[.bool x1,.string x2,.string x3] 43));obtain⟨C,hC⟩:=zE w1.heap.size;have jQ:Hid (aj w2 B 43 [.bool false,.string ⟨#[]⟩,.string ⟨#[]⟩]):=by show aj _ _ _ _;rw[hw2];exact iF.out.below HA.out iF.out.lt
 have HK3:Hid (aj w2 C 43 [.bool x1,.string x2,.string x3]):=by show aj _ _ _ _;rw[hw2,hC];exact aj.new w1 _ _
 have HB2:Hid (Below w.heap.size w w2):=by show Below _ _ _;rw[hw2];exact ah HB1.out HA.out
 have hM:=tu w2;have hk2:=jQ.out.cells;have hk3:=HK3.out.cells;have hf2:=jQ.out.aI;have hne:¬B=C:=by have:=iF.out.lt;omega
 have hne':¬C=B:=fun e=>hne e.symm
 clear hb1 HP
 go_upto_region 2 with fail
 simp only[<-hw2,<-hC]
 clear hw2 hC;go_wp2_with fail;refine hM.mono ?_;rintro e w3 ⟨rfl,rfl⟩;go_wp2;have Ho:=((jQ.out.set 0 (.bool x1)).set 1 (.string x2)).set 2 (.string x3);have hc:=Ho.cells;refine bodyPost_ret (v:=.agg #[.bool x1,.string x2,.string x3]) (by simp[results,Tryz.results135,go_sem,hc]) rfl ⟨rfl,?_⟩;exact ((HB2.out.setCell (p:=⟨B,0,none⟩) iC.out _).setCell (p:=⟨B,1,none⟩) iC.out _).setCell (p:=⟨B,2,none⟩) iC.out _
theorem XW (b:Nat) (w:World) (h0:w.cell? ⟨b,0,none⟩=some (.pointer none)) (hsh:w.shape? b=some (80,2)) (hfz:w.frozen? ⟨b,0,none⟩=false):
  Calls Tryz.prog 162 #[.pointer (some ⟨b,0,none⟩)] w fun e w'=>e=.returned (.tuple #[])/\w'=w.setCell ⟨b,0,none⟩ (.pointer (some ⟨b,0,none⟩)):=by
 obtain⟨j,hj,hjs⟩:=Option.map_eq_some_iff.1 (show (Tryz.prog.info? 78).map (·.size)=some 2 by kernel_rfl);go_enter Tryz.func162,Tryz.ntmps162;go_wp2;rw[Lib.run_to_unsafe w ⟨b,0,none⟩ Tryz.underlying75 Tryz.underlying257 hj (by rw[hjs];decide) hsh (Nat.zero_lt_succ 1)];simp only[Result.andThen]
 rw[Oper.upon_value];go_wp2;rw[run_callFunc_extern Tryz.func202 (by kernel_rfl) (by kernel_rfl) (by kernel_rfl) (e:=Extern.AbiNoEscape.same) (by kernel_rfl)];rw[Lib.run_noEscape];simp only[Result.andThen]
 rw[Oper.upon_value];go_wp2;rw[Lib.run_from_unsafe w ⟨b,0,none⟩ Tryz.underlying257 Tryz.underlying75 hj hsh (by kernel_rfl)];simp only[Result.andThen]
 rw[Oper.upon_value];go_wp2;go_end0;exact⟨rfl,rfl⟩
theorem afh (B b:Nat) (bs:List Value) (w:World) (h:Lib.IsBuilder 80 5 B b bs w):
  Calls Tryz.prog 162 #[.pointer (some ⟨b,0,none⟩)] w fun e w'=>e=.returned (.tuple #[])/\(Lib.BuilderAt 80 5 B b (.pointer (some ⟨b,0,none⟩)) bs w'/\Below B w w'/\BF b w w'):=by
 rcases h with h|h
 ·refine (XW b w h.cell0 h.shape h.frozen0).mono ?_;rintro e w' ⟨rfl,rfl⟩;exact⟨rfl,h.used _,(Below.refl B w).setCell (p:=⟨b,0,none⟩) h.1 _,(BF.refl b w).set 0 _⟩
 ·refine (QC b w h.cell0).mono ?_;rintro e w' ⟨rfl,rfl⟩;exact⟨rfl,h,Below.refl B _,BF.refl b _⟩
theorem ac5 (B b:Nat) (bs:List Value) (s:ByteArray) (w:World) (h:Lib.IsBuilder 80 5 B b bs w) (hlen:bs.length+s.size<=140737488355328) (hBw:B<=w.heap.size):
  Calls Tryz.prog 121 #[.pointer (some ⟨b,0,none⟩),.string s] w fun e w'=>e=.returned (.tuple #[.int .i64 s.size,.nilIface])/\(Lib.BuilderAt 80 5 B b (.pointer (some ⟨b,0,none⟩)) (bs++lc s.data.toList) w'/\Below B w w'/\BF b w w'):=by
 obtain⟨i0,hi,hz0,hz1,hz2⟩:=info_parts (show (Tryz.prog.info? 5).map (fun i=>(i.zero,i.size,i.bytes))=some (some (.int .u8 0),1,1) by kernel_rfl);have HC:=zH (afh B b bs w h);go_enter Tryz.func121,Tryz.ntmps121;go_wp2_with fail;refine HC.out.mono ?_;rintro e w1 ⟨rfl,h1,hb1,hf1⟩;obtain⟨hB,v,hbk,hown,hne⟩:=h1;have c0:w1.cell? ⟨b,0,none⟩=some (.pointer (some ⟨b,0,none⟩)):=by rw[Lib.cell_of_heap hbk];rfl
 have c1:w1.cell? ⟨b,1,none⟩=some v:=by rw[Lib.cell_of_heap hbk];rfl
 go_wp2_with (at_builtin;refine Lib.wpList_append_own_string _ rfl _ _ 76 9 rfl B 5 i0 Tryz.underlying76 Tryz.underlying9 hi hz0 hz1 hz2 _ _ _ rfl hown s rfl ?c3 ?c4 ?c5 ?_)
 case c3=>unfold maxLen;omega
 case c4=>omega
 case c5=>have:=hb1.size;omega
 intro v' w2 hown' hgrow _
 have hlt:b<w1.heap.size:=by
  rcases Nat.lt_or_ge b w1.heap.size with h'|h'
  ·exact h'
  ·simp[Array.getElem?_eq_none h'] at hbk
 have hb2:w2.heap[b]?=some (.cells #[.pointer (some ⟨b,0,none⟩),v] 80 (0,0)):=by
  rw[hgrow.block b hlt (fun e=>hne e.symm)];exact hbk
 have d0:w2.cell? ⟨b,0,none⟩=some (.pointer (some ⟨b,0,none⟩)):=by rw[Lib.cell_of_heap hb2];rfl
 have d1:w2.cell? ⟨b,1,none⟩=some v:=by rw[Lib.cell_of_heap hb2];rfl
 have f1:w2.frozen? ⟨b,1,none⟩=false:=Lib.frozen_of_heap hb2 1;have HF:Hid (BF b w w2):=hf1.trans (BF.grown hown hgrow);clear hf1
 obtain⟨ao,n',cap,rfl⟩:∃ao n' cap,v'=.slice ao n' cap:=by
  rcases hown'.2 with⟨hv,_⟩|⟨g,cap,cur,hv,_⟩
  ·exact⟨_,_,_,hv⟩
  ·exact⟨_,_,_,hv⟩
 go_wp2;go_ret2;refine⟨rfl,?_,?_,HF.out.set 1 _⟩
 ·exact Lib.BuilderAt.put (T:=80) (e:=5) hB hb2 (bs':=bs++lc s.data.toList) (by simpa [Lib.strCells_length,lc,Lib.strCells] using hown') (by decide)
 ·exact (hb1.grown hgrow (by have:=hb1.size;omega) (fun k hk=>(hown.lt k hk).1)).setCell (p:=⟨b,1,none⟩) hB _
theorem aax (B b:Nat) (p:Value) (l:List UInt8) (w:World) (h:Lib.BuilderAt 80 5 B b p (lc l) w) (h0:l≠[]):
  Calls Tryz.prog 31 #[.pointer (some ⟨b,0,none⟩)] w fun e w'=>e=.returned (.string ⟨l.toArray⟩)/\Below B w w':=by
 obtain⟨hB,v,hbk,hown,hne⟩:=h;have hl0:l.length≠0:=by simpa using h0
 rw[Nr] at hown
 obtain⟨g,cap,cur,rfl,hbg,hg,hnc,hcm,hcs,htake⟩:∃g cap cur,v=.slice (some ⟨g,0,none⟩) l.length cap/\B<=g/\w.heap[g]?=some (.cells cur 5 (0,0))/\l.length<=cap/\cap<=maxLen/\cur.size=cap*1/\cur.toList.take (l.length*1)=lc l:=by
  rcases hown.2 with⟨_,hz⟩|⟨g,cap,cur,hv,r⟩
  ·exact absurd hz hl0
  ·exact⟨g,cap,cur,hv,r⟩
 have c1:w.cell? ⟨b,1,none⟩=some (.slice (some ⟨g,0,none⟩) l.length cap):=by rw[Lib.cell_of_heap hbk];rfl
 have hSD:(Builtin.unsafeSliceData_ #[76] 143 #[.slice (some ⟨g,0,none⟩) l.length cap]).run Tryz.prog w.drew=.ok (.pointer (some ⟨g,0,none⟩)) w.drew:=
  Lib.run_unsafeSliceData_row _ _ _ _ _ _ (by omega)
 have hUS:(Builtin.unsafeString_ #[143,3] 9 #[.pointer (some ⟨g,0,none⟩),.int .i64 l.length]).run Tryz.prog w.drew=.ok (.string ⟨l.toArray⟩) (w.drew.freeze ⟨g,0,none⟩ l.length):=by
  refine Lib.run_unsafeString_row w.drew 143 3 9 5 Tryz.underlying143 (by kernel_rfl) g cur.size (by have hg':w.drew.heap[g]?=some (.cells cur 5 (0,0)):=hg;simp[World.shape?,hg']) l h0 (by omega) (by unfold maxLen at hcm;omega) ?_;intro j x hx;have:=hown.cells (g:=g) rfl j (.int .u8 x.toNat) (by simp[lc,hx]);exact this
 go_enter Tryz.func31,Tryz.ntmps31;go_wp2;go_region
 all_goals (go_wp2;go_ret;exact⟨rfl,Lib.below_freeze (Below.drew (Below.refl B w)) (p:=⟨g,0,none⟩) hbg _⟩)
def bF (l:List ByteArray):List UInt8:=l.flatMap fun s=>s.data.toList
theorem Aw (a b:List ByteArray):bF (a++b)=bF a++bF b:=List.flatMap_append
theorem Hw (a:ByteArray):bF [a]=a.data.toList:=by unfold bF;simp
theorem FB (l:List ByteArray):strs l=l.map Value.string:=by
 unfold strs
 induction l with
 |nil=>rfl
 |cons a l ih=>rw[List.flatMap_cons,ih];rfl
theorem strs_get {l:List ByteArray} {w:World} {g:Nat} (h:aj w g 9 (strs l)) {i:Nat} (hi:i<l.length):w.cell? ⟨g,i,none⟩=some (.string l[i]):=by
 rw[h.cells i];have:strs l=l.map Value.string:=FB l;rw[this,List.getElem?_map,List.getElem?_eq_getElem hi];rfl
theorem UR (B b g n c:Nat) (bs:List UInt8) (l:List ByteArray) (w:World) (h:Lib.IsBuilder 80 5 B b (lc bs) w) (hg:aj w g 9 (strs l)) (hgb:g≠b) (hn:n=l.length) (hm:n<=1000) (h0:l≠[])
  (hlen:bs.length+(bF l).length<=100000000000000) (hBw:B<=w.heap.size):
  Calls Tryz.prog 81 #[.pointer (some ⟨b,0,none⟩),.slice (some ⟨g,0,none⟩) n c] w fun e w'=>e=.returned (.tuple #[])/\(Lib.BuilderAt 80 5 B b (.pointer (some ⟨b,0,none⟩)) (lc (bs++bF l)) w'/\Below B w w'/\BF b w w'):=by
 have H:=zH h;have HG:=zH hg;have HN:=zH hn;clear h hg hn;go_enter Tryz.func81,Tryz.ntmps81;go_wp2_with fail
 go_loopg [8] n (fun q iv wr=>∃i:Nat,i+q=n/\iv=.int .i64 i/\Hid (Lib.IsBuilder 80 5 B b (lc (bs++bF (l.take i))) wr)/\Hid (0<i->Lib.BuilderAt 80 5 B b (.pointer (some ⟨b,0,none⟩)) (lc (bs++bF (l.take i))) wr)/\Hid (Below B w wr)/\Hid (BF b w wr))
 case atStart=>exact⟨0,by omega,rfl,(by show Lib.IsBuilder _ _ _ _ _ _;rw[List.take_zero,show bF []=[] from rfl,List.append_nil];exact H.out),(fun h=>absurd h (by omega)),Below.refl _ _,BF.refl _ _⟩
 case round=>
  obtain⟨i,hi,rfl,hib,hat,hbr,hbf⟩:=hrel;by_cases hlt:i<n
  ·have hil:i<l.length:=by rw[<-HN.out];exact hlt
   have hc:=strs_get (hbf.out.blk HG.out (by decide) hgb) hil;have zl:Hid (l.take (i+1)=l.take i++[l[i]]):=List.take_succ_eq_append_getElem hil
   have hle:(lc (bs++bF (l.take i))).length+l[i].size<=140737488355328:=by
    rw[Nr,List.length_append];have h1:(bF l).length=(bF (l.take (i+1))).length+(bF (l.drop (i+1))).length:=by rw[<-List.length_append,<-Aw,List.take_append_drop]
    rw[zl.out,Aw,Hw,List.length_append] at h1;have h2:l[i].size=l[i].data.toList.length:=by show l[i].data.size=_;rw[Array.length_toList]
    omega
   generalize l[i]=x at*;have HW:=zH (ac5 B b (lc (bs++bF (l.take i))) x wr hib.out hle (Nat.le_trans hBw hbr.out.size));clear hle hib hat;go_wp2_with fail;refine HW.out.mono ?_;rintro e w5 ⟨rfl,hx,hb5,hf5⟩
   have HX:Hid (Lib.BuilderAt 80 5 B b (.pointer (some ⟨b,0,none⟩)) (lc (bs++bF (l.take (i+1)))) w5):=by
    show Lib.BuilderAt _ _ _ _ _ _ _;rw[zl.out,Aw,Hw,<-List.append_assoc,WX (bs++_)];exact hx
   have jo:=zH (hbr.out.trans hb5);have GL:=zH (hbf.out.trans hf5);clear hx hb5 hf5 hbr hbf hc;go_wp2
   go_roundg (n-(i+1))
   case measure=>omega
   case rel=>exact⟨i+1,by omega,by go_num,.inr HX.out,(fun _=>HX.out),jo,GL⟩
  ·have hin:i=l.length:=by have:=HN.out;omega
   have hpos:0<i:=by rw[hin];exact List.length_pos_iff.2 h0
   have hx:=hat.out hpos;rw[hin,List.take_length] at hx;have HX:=zH hx;clear hx hat hib;go_wp2;go_end0;exact⟨rfl,HX.out,hbr.out,hbf.out⟩
def bU (t:Ty):ByteArray:=if t.truth then ⟨#[116,114,117,116,104]⟩ else ⟨#[109]⟩++aO (aS t.aN)++⟨#[100]⟩++aO (aS t.days)
theorem FC (a b:ByteArray):(a++b).size=a.size+b.size:=ByteArray.size_append
theorem qg (t:Ty) (w:World) (hL:cZ w) (hm1:-1000<=t.aN/\t.aN<=1000) (hd1:-1000<=t.days/\t.days<=1000) (hz:(aS t.aN).num.size<=1048576/\(aS t.aN).den.size<=1048576) (hz2:(aS t.days).num.size<=1048576/\(aS t.days).den.size<=1048576):
  Calls Tryz.prog 82 #[t.v] w fun e w'=>e=.returned (.string (bU t))/\Below w.heap.size w w':=by
 obtain⟨tr,m,d⟩:=t;simp only at hm1 hd1 hz hz2;have y7:=zH (fun W=>lY m W (by omega) (by omega));have rV:=zH (fun W=>lY d W (by omega) (by omega));obtain⟨W,hW⟩:=zE (w.alloc (.cells #[.bool tr,.int .i64 m,.int .i64 d] 34));obtain⟨B,hB⟩:=zE w.heap.size;have HK:Hid (aj W B 34 [.bool tr,.int .i64 m,.int .i64 d]):=by show aj _ _ _ _;rw[hW,hB];exact aj.new w _ _
 have aY:Hid (Below w.heap.size w W):=by show Below _ _ _;rw[hW];exact zB _ _
 have HT1:=zH (fun W' (hb:Below W.heap.size W W')=>jy (aS m) W' (hL.below (ah aY.out hb)).e.base hz.1 hz.2);have HT2:=zH (fun W' (hb:Below W.heap.size W W')=>jy (aS d) W' (hL.below (ah aY.out hb)).e.base hz2.1 hz2.2);have h1:=vM (aS m) hz.1 hz.2;have h2:=vM (aS d) hz2.1 hz2.2;unfold bU Ty.v;simp only
 generalize aO (aS m)=tm at*;generalize aO (aS d)=td at*;have hkc:=HK.out.cells;cases tr
 ·have hs1:¬(9223372036854775807<(⟨#[109]⟩:ByteArray).size+tm.size):=by have:(⟨#[109]⟩:ByteArray).size=1:=rfl;omega
  have hs2:¬(9223372036854775807<(⟨#[109]⟩++tm:ByteArray).size+(⟨#[100]⟩:ByteArray).size):=by rw[FC];have:(⟨#[109]⟩:ByteArray).size=1:=rfl;have:(⟨#[100]⟩:ByteArray).size=1:=rfl;omega
  have hs3:¬(9223372036854775807<(⟨#[109]⟩++tm++⟨#[100]⟩:ByteArray).size+td.size):=by rw[FC,FC];have:(⟨#[109]⟩:ByteArray).size=1:=rfl;have:(⟨#[100]⟩:ByteArray).size=1:=rfl;omega
  have s1:¬(9223372036854775807<1+tm.size):=by omega
  have s2:¬(9223372036854775807<(⟨#[109]⟩++tm:ByteArray).size+1):=hs2;have s3:¬(9223372036854775807<1+tm.size+1):=by omega
  have s4:¬(9223372036854775807<1+tm.size+1+td.size):=by omega
  have lI:Hid (∀W',Below W.heap.size W W'->Below W.heap.size W W'/\W'.cell? ⟨B,1,none⟩=some (.int .i64 m)/\W'.cell? ⟨B,2,none⟩=some (.int .i64 d)):=fun W' hb=>⟨hb,(hb.cell HK.out.lt).trans (HK.out.cells 1),(hb.cell HK.out.lt).trans (HK.out.cells 2)⟩
  clear hm1 hd1 hz hz2 hL h1 h2;go_enter Tryz.func82,Tryz.ntmps82
  go_upto_region 1 with fail
  simp only[<-hW,<-hB]
  clear hW hB
  go_upto_region 3 with fail
  refine wp_region_noPanic ?_;refine wp_region_held_drew (S:=(fun w'=>Below W.heap.size W w'/\w'.cell? ⟨B,1,none⟩=some (.int .i64 m)/\w'.cell? ⟨B,2,none⟩=some (.int .i64 d))) (by kernel_rfl) (lI.out _ (ak W.heap.size W 1)) (fun hHeld=>?_);refine aP 0 ?_;refine aP 1 ?_;refine aP 2 ?_;refine aP 7 ?_;refine aP 8 ?_;refine aP 9 ?_;refine iV 3 fun K hK=>?_
  go_simp;have hbS:=hHeld.1;refine (y7.out _).mono ?_;rintro e w10 ⟨rfl,jO⟩;have qI:=zH (ah hbS jO);go_wp2_with fail;refine gI hK (lI.out _ qI.out) fun hHeld=>?_
  clear hK K;refine iV 4 fun K hK=>?_
  go_simp;have hbS:=hHeld.1;refine (HT1.out _ hbS).mono ?_;rintro e w10 ⟨rfl,jO⟩;have qI:=zH (ah hbS jO);go_wp2_with fail;refine gI hK (lI.out _ qI.out) fun hHeld=>?_
  clear hK K;refine aP 5 ?_;refine aP 6 ?_;refine iV 10 fun K hK=>?_
  go_simp;have hbS:=hHeld.1;refine (rV.out _).mono ?_;rintro e w10 ⟨rfl,jO⟩;have qI:=zH (ah hbS jO);go_wp2_with fail;refine gI hK (lI.out _ qI.out) fun hHeld=>?_
  clear hK K;refine iV 11 fun K hK=>?_
  go_simp;have hbS:=hHeld.1;refine (HT2.out _ hbS).mono ?_;rintro e w10 ⟨rfl,jO⟩;have qI:=zH (ah hbS jO);go_wp2_with fail;refine gI hK (lI.out _ qI.out) fun hHeld=>?_
  clear hK K;refine aP 12 ?_;refine aP 13 ?_;refine wpAnyH_done (by kernel_rfl) ?_ _;refine NoPanic.normal ?_;go_wp2;go_ret;exact⟨rfl,ah aY.out qI.out⟩
 ·clear hm1 hd1 hz hz2 hL h1 h2;go_enter Tryz.func82,Tryz.ntmps82
  go_upto_region 1 with fail
  simp only[<-hW,<-hB]
  clear hW hB;go_wp2;go_ret;exact⟨rfl,aY.out⟩
def mD (t:Ty):Bool:=if t.truth then decide (t.aN=0)&&decide (t.days=0) else decide (-3<=t.aN)&&decide (t.aN<=3)&&(decide (-3<=t.days)&&decide (t.days<=3))
def seven:List Int:=[-3,-2,-1,0,1,2,3]
theorem ku {m:Int} (h:-3<=m) (k:m<=3):m∈seven:=by
 have:m= -3∨m= -2∨m= -1∨m=0∨m=1∨m=2∨m=3:=by omega
 unfold seven;simp only[List.mem_cons]
 omega
theorem Hy:∀m∈seven,(aS m).num.size<=1048576/\(aS m).den.size<=1048576:=by decide+kernel
theorem Ky:∀m∈seven,∀d∈seven,∀a∈seven,∀b∈seven,(bU ⟨false,m,d⟩).data.toList=(bU ⟨false,a,b⟩).data.toList->m=a/\d=b:=by decide+kernel
theorem yI:∀m∈seven,∀d∈seven,((bU ⟨false,m,d⟩).data.toList==[116,114,117,116,104])=false:=by decide+kernel
theorem yJ (t:Ty) (w:World) (hL:cZ w) (ht:mD t=true):Calls Tryz.prog 133 #[.string (bU t)] w fun e w'=>e=.returned t.v/\Below w.heap.size w w':=by
 obtain⟨tr,tm,td⟩:=t;obtain⟨W,hW⟩:=zE (w.alloc (.cells #[.bool false,.int .i64 0,.int .i64 0] 34));obtain⟨B,hB⟩:=zE w.heap.size;have HK:Hid (aj W B 34 [.bool false,.int .i64 0,.int .i64 0]):=by show aj _ _ _ _;rw[hW,hB];exact aj.new w _ _
 have aY:Hid (Below w.heap.size w W):=by show Below _ _ _;rw[hW];exact zB _ _
 have iC:=zH (Nat.le_of_eq hB.symm);unfold mD at ht;simp only at ht;unfold Ty.v;simp only
 cases tr
 ·simp only[Bool.false_eq_true,if_false,Bool.and_eq_true,decide_eq_true_eq] at ht;obtain⟨⟨hm1,hm2⟩,hd1,hd2⟩:=ht;have hst:((bU ⟨false,tm,td⟩).toList==[116,114,117,116,104])=false:=by rw[ByteArray.toList_eq];exact yI tm (ku hm1 hm2) td (ku hd1 hd2)
  have HIN:Hid (∀m d:Int,-3<=m->m<=3-> -3<=d->d<=3->bU ⟨false,m,d⟩=bU ⟨false,tm,td⟩->m=tm/\d=td):=fun m d h1 h2 h3 h4 e=>Ky m (ku h1 h2) d (ku h3 h4) tm (ku hm1 hm2) td (ku hd1 hd2) (by rw[e])
  have Ny:Hid (∀(m d:Int) (W':World),-3<=m->m<=3-> -3<=d->d<=3->Below w.heap.size w W'->Calls Tryz.prog 82 #[.agg #[.bool false,.int .i64 m,.int .i64 d]] W' fun e w'=>e=.returned (.string (bU ⟨false,m,d⟩))/\Below W'.heap.size W' w'):=fun m d W' h1 h2 h3 h4 hb=>
   qg ⟨false,m,d⟩ W' (hL.below hb) ⟨by show (-1000:Int)<=m;omega,by show m<=(1000:Int);omega⟩ ⟨by show (-1000:Int)<=d;omega,by show d<=(1000:Int);omega⟩ (Hy m (ku h1 h2)) (Hy d (ku h3 h4))
  have HEQ:Hid (bU ⟨false,tm,td⟩=bU ⟨false,tm,td⟩):=rfl;obtain⟨s,hs⟩:=zE (bU ⟨false,tm,td⟩);rw[<-hs] at hst HIN HEQ⊢;have HS:=zH hs;clear hL hs HEQ;go_enter Tryz.func133,Tryz.ntmps133
  go_upto_region 1 with fail
  simp only[<-hW,<-hB]
  clear hW hB;go_wp2_with fail
  go_loopg [3] 7 (fun g iv wr=>∃i:Nat,i+g=7/\iv=.int .i64 (-3+(i:Int))/\Hid (-3+(i:Int)<=tm)/\Hid (Below w.heap.size w wr)/\Hid (aj wr B 34 [.bool false,.int .i64 0,.int .i64 0]))
  case atStart=>exact⟨0,by omega,rfl,(by show-3+((0:Nat):Int)<=tm;omega),aY,HK⟩
  case round=>
   obtain⟨i,hi,rfl,hle,hbr,hbk⟩:=hrel;have hlt:i<7:=by have:=hle.out;omega
   have h3:-3+(i:Int)<=3:=by omega
   clear HK aY;go_wp2_with fail
   go_loopg [4] 7 (fun g iv wr=>∃k:Nat,k+g=7/\iv=.int .i64 (-3+(k:Int))/\Hid (-3+(i:Int)=tm-> -3+(k:Int)<=td)/\Hid (Below w.heap.size w wr)/\Hid (aj wr B 34 [.bool false,.int .i64 0,.int .i64 0]))
   case atStart=>exact⟨0,by omega,rfl,(fun _=>by omega),hbr,hbk⟩
   case round=>
    obtain⟨k,hk,rfl,hkd,hbr,hbk⟩:=hrel;by_cases hlk:k<7
    ·have h4:-3+(k:Int)<=3:=by omega
     obtain⟨W2,hW2⟩:=zE (wr.alloc (.cells #[.bool false,.int .i64 (-3+(i:Int)),.int .i64 (-3+(k:Int))] 34));obtain⟨C,hC⟩:=zE wr.heap.size;have Q9:Hid (aj W2 C 34 [.bool false,.int .i64 (-3+(i:Int)),.int .i64 (-3+(k:Int))]):=by show aj _ _ _ _;rw[hW2,hC];exact aj.new wr _ _
     have HBa:Below wr.heap.size wr W2:=by rw[hW2];exact zB _ _
     have HB2:=zH (ah hbr.out HBa);have jQ:Hid (aj W2 B 34 [.bool false,.int .i64 0,.int .i64 0]):=hbk.out.below HBa hbk.out.lt;have Bd:Hid (B≠C):=by have:=hbk.out.lt;show B≠C;omega
     have oH:=zH (Ny.out (-3+(i:Int)) (-3+(k:Int)) W2 (by omega) h3 (by omega) h4 HB2.out);have HE:Hid (bU ⟨false,-3+(i:Int),-3+(k:Int)⟩=s-> -3+(i:Int)=tm/\-3+(k:Int)=td):=HIN.out _ _ (by omega) h3 (by omega) h4;have HE2:Hid (-3+(i:Int)=tm/\-3+(k:Int)=td->bU ⟨false,-3+(i:Int),-3+(k:Int)⟩=s):=fun h=>by rw[HS.out,h.1,h.2]
     generalize bU ⟨false,-3+(i:Int),-3+(k:Int)⟩=x at*;have hkc:=Q9.out.cells;clear HBa hbr hbk
     go_upto_region 10 with fail
     simp only[<-hW2,<-hC]
     clear hW2 hC;go_wp2_with fail;refine oH.out.mono ?_;rintro e w5 ⟨rfl,hb5⟩;have jo:=zH (ah HB2.out hb5);have rF:Hid (aj w5 B 34 [.bool false,.int .i64 0,.int .i64 0]):=jQ.out.below hb5 jQ.out.lt;have HC5:Hid (aj w5 C 34 [.bool false,.int .i64 (-3+(i:Int)),.int .i64 (-3+(k:Int))]):=Q9.out.below hb5 Q9.out.lt;clear hb5 hkc oH jQ Q9;by_cases hx:x=s
     ·subst hx;obtain⟨e1,e2⟩:=HE.out rfl;have hkc:=HC5.out.cells;have hkb:=rF.out.cells;have hfb:=rF.out.aI;have hne:¬B=C:=Bd.out;have hne':¬C=B:=fun e=>hne e.symm
      have HV:Hid (-3+(i:Int)=tm/\-3+(k:Int)=td):=⟨e1,e2⟩
      clear e1 e2;go_wp2;have Ho:=((rF.out.set 0 (.bool false)).set 1 (.int .i64 (-3+(i:Int)))).set 2 (.int .i64 (-3+(k:Int)));have hc:=Ho.cells;refine bodyPost_ret (v:=.agg #[.bool false,.int .i64 (-3+(i:Int)),.int .i64 (-3+(k:Int))]) (by simp[results,Tryz.results133,go_sem,hc]) rfl ⟨by rw[HV.out.1,HV.out.2],?_⟩;exact ((jo.out.setCell (p:=⟨B,0,none⟩) iC.out _).setCell (p:=⟨B,1,none⟩) iC.out _).setCell (p:=⟨B,2,none⟩) iC.out _
     ·have hxe:(x.toList==s.toList)=false:=beq_eq_false_iff_ne.2 (fun h=>hx (toList_inj h))
      have zn:Hid (-3+(i:Int)=tm-> -3+((k+1:Nat):Int)<=td):=fun h=>by
       have h1:=hkd.out h;have h2:¬(-3+(k:Int)=td):=fun h'=>hx (HE2.out ⟨h,h'⟩)
       omega
      clear HE HE2 hx hkd;go_wp2
      go_roundg (7-(k+1))
      case measure=>omega
      case rel=>exact⟨k+1,by omega,by go_num,zn,jo,rF⟩
    ·have h4:¬(-3+(k:Int)<=3):=by omega
     have HLE:Hid (-3+((i+1:Nat):Int)<=tm):=by
      have h1:¬(-3+(i:Int)=tm):=fun h=>by have:=hkd.out h;omega
      have h2:=hle.out;show-3+((i+1:Nat):Int)<=tm;omega
     clear hkd hle;go_wp2
     go_roundg (7-(i+1))
     case measure=>omega
     case rel=>exact⟨i+1,by omega,by go_num,HLE,hbr,hbk⟩
 ·simp only[if_true,Bool.and_eq_true,decide_eq_true_eq] at ht;obtain⟨rfl,rfl⟩:=ht;have hs:bU ⟨true,0,0⟩=⟨#[116,114,117,116,104]⟩:=rfl;rw[hs];clear hL hs;have hst:((⟨#[116,114,117,116,104]⟩:ByteArray).toList==[116,114,117,116,104])=true:=by rw[ByteArray.toList_eq];rfl
  have hkb:=HK.out.cells;have hfb:=HK.out.aI;go_enter Tryz.func133,Tryz.ntmps133
  go_upto_region 1 with fail
  simp only[<-hW,<-hB]
  clear hW hB;go_wp2;have Ho:=((HK.out.set 0 (.bool true)).set 1 (.int .i64 0)).set 2 (.int .i64 0);have hc:=Ho.cells;refine bodyPost_ret (v:=.agg #[.bool true,.int .i64 0,.int .i64 0]) (by simp[results,Tryz.results133,go_sem,hc]) rfl ⟨rfl,?_⟩;exact ((aY.out.setCell (p:=⟨B,0,none⟩) iC.out _).setCell (p:=⟨B,1,none⟩) iC.out _).setCell (p:=⟨B,2,none⟩) iC.out _
structure TF (t:TypeId) (w w':World):Prop where
 size:w.heap.size<=w'.heap.size
 keep:∀(k:Nat) (cs:Array Value) (t':TypeId) (fr:Nat × Nat),w.heap[k]?=some (Obj.cells cs t' fr)->t'≠t->w'.heap[k]?=some (Obj.cells cs t' fr)
theorem TF.own {t e:TypeId} {w w':World} {B s n:Nat} {v:Value} {xs:List Value} (h:TF t w w') (ho:w.ownsRow B e s v n xs) (he:e≠t):w'.ownsRow B e s v n xs:=by
 refine⟨ho.1,ho.2.imp id ?_⟩;rintro⟨g,cap,cur,h1,h2,h3,h4⟩;exact⟨g,cap,cur,h1,h2,h.keep g _ _ _ h3 he,h4⟩
theorem TF.blk {t e:TypeId} {w w':World} {b:Nat} {cs:List Value} (h:TF t w w') (hb:aj w b e cs) (he:e≠t):aj w' b e cs:=h.keep b _ _ _ hb he
theorem TF.grown {t:TypeId} {w w':World} {B s n:Nat} {v:Value} {xs:List Value} (ho:w.ownsRow B t s v n xs) (hg:w.grownBy w' v.ownBlock):TF t w w':=by
 refine⟨hg.size,fun k cs t' fr hk ht=>(hg.block k (lt_of_some hk) ?_).trans hk⟩;intro he;rcases ho.2 with⟨rfl,_⟩|⟨g,cap,cur,rfl,_,h3,_⟩
 ·cases he
 ·injection he with he;subst he;rw[h3] at hk;injection hk with hk;injection hk with _ h5 _;exact ht h5.symm
theorem TF.set {t e:TypeId} {w:World} {R:Nat} {cs:List Value} (hb:aj w R t cs) (i:Nat) (u:Value):TF t w (w.setCell ⟨R,i,none⟩ u):=by
 refine⟨by simp[World.setCell],fun k cs' t' fr hk ht=>(Below.heap_setCell w _ u k ?_).trans hk⟩;show k≠R;rintro rfl;have h:w.heap[k]?=_:=hb;rw[h] at hk;injection hk with hk;injection hk with _ h5 _;exact ht h5.symm
structure FR (R:Nat) (w w':World):Prop where
 size:w.heap.size<=w'.heap.size
 keep:∀(k:Nat) (o:Obj),w.heap[k]?=some o->k≠R->(∀cs t fr,o=Obj.cells cs t fr->t≠36/\t≠39/\t≠45)->w'.heap[k]?=some o
theorem FR.below {R:Nat} {w w':World} (h:Below w.heap.size w w'):FR R w w':=⟨h.size,fun k o hk _ _=>(h.block k (lt_of_some hk)).trans hk⟩
theorem FR.trans {R:Nat} {a b c:World} (h:FR R a b) (k:FR R b c):FR R a c:=⟨Nat.le_trans h.size k.size,fun i o hi hr ho=>k.keep i o (h.keep i o hi hr ho) hr ho⟩
theorem FR.grown {R i:Nat} {w w1 w2:World} {B e s n:Nat} {v u:Value} {xs:List Value} (hb:Below w.heap.size w w1) (ho:w1.ownsRow B e s v n xs) (he:e=36∨e=39∨e=45) (hg:w1.grownBy w2 v.ownBlock):FR R w (w2.setCell ⟨R,i,none⟩ u):=by
 refine⟨Nat.le_trans hb.size (Nat.le_trans hg.size (by simp[World.setCell])),fun k o hk hR ht=>?_⟩;have h1:w1.heap[k]?=some o:=(hb.block k (lt_of_some hk)).trans hk;refine (Below.heap_setCell w2 _ u k hR).trans ((hg.block k (lt_of_some h1) ?_).trans h1);intro hq;rcases ho.2 with⟨rfl,_⟩|⟨g,cap,cur,rfl,_,h3,_⟩
 ·cases hq
 ·injection hq with hq;subst hq;rw[h3] at h1;injection h1 with h1;obtain⟨k1,k2,k3⟩:=ht _ _ _ h1.symm;rcases he with h|h|h
  ·exact k1 h
  ·exact k2 h
  ·exact k3 h
structure PT (w0 w:World) (R:Nat) (l:Lw) (ss:List (Sc × Hd)) (ps:List (Pv × Hd)) (fv sv pv:Value):Prop where
 r:w0.heap.size<=R
 bl:Below w0.heap.size w0 w
 blk:aj w R 28 [fv,sv,pv]
 f:w.ownsRow (R+1) 36 4 fv l.facts.length (l.facts.flatMap Dc.cells)
 s:w.ownsRow (R+1) 39 4 sv ss.length (ss.flatMap bK)
 p:w.ownsRow (R+1) 45 12 pv ps.length (ps.flatMap aA)
 sl:ss.map Prod.fst=l.aU
 pl:ps.map Prod.fst=l.aH
 sb:∀x∈ss,x.2.n=x.1.bI.length/\w.ownsRow (R+1) 93 6 (.slice x.2.a x.2.n x.2.c) x.2.n (x.1.bI.flatMap Bk.cells)
 pb:∀x∈ps,x.2.n=x.1.body.length/\w.ownsRow (R+1) 49 5 (.slice x.2.a x.2.n x.2.c) x.2.n (eP x.1.body)
theorem PT.below {w0 w w':World} {R:Nat} {l:Lw} {ss:List (Sc × Hd)} {ps:List (Pv × Hd)} {fv sv pv:Value} (h:PT w0 w R l ss ps fv sv pv) (hb:Below w.heap.size w w'):PT w0 w' R l ss ps fv sv pv:=
 ⟨h.r,ah h.bl hb,h.blk.below hb h.blk.lt,own_below h.f hb,own_below h.s hb,own_below h.p hb,h.sl,h.pl,fun x hx=>⟨(h.sb x hx).1,own_below (h.sb x hx).2 hb⟩,fun x hx=>⟨(h.pb x hx).1,own_below (h.pb x hx).2 hb⟩⟩
theorem nG {w:World} {B e s n:Nat} {A:Option Addr} {m c:Nat} {xs:List Value} (h:w.ownsRow B e s (.slice A m c) n xs):m=n/\n<=c/\c<=maxLen/\Rd w A xs:=by
 obtain⟨A',c',hv,h1,h2,h3,_⟩:=bY h;injection hv with e1 e2 e3;exact⟨e2,by omega,by omega,by rw[e1];exact h3⟩
theorem PT.law {w0 w:World} {R:Nat} {l:Lw} {ss:List (Sc × Hd)} {ps:List (Pv × Hd)} {fv sv pv:Value} (h:PT w0 w R l ss ps fv sv pv):∃f s p:Hd,fv=.slice f.a f.n f.c/\sv=.slice s.a s.n s.c/\pv=.slice p.a p.n p.c/\dV w l ss ps f s p:=by
 obtain⟨f,rfl,_,hf⟩:=aJ.l7 h.f rfl;obtain⟨s,rfl,_,hs⟩:=aJ.l7 h.s rfl;obtain⟨p,rfl,_,hp⟩:=aJ.l7 h.p rfl;refine⟨f,s,p,rfl,rfl,rfl,hf,hs,hp,h.sl,h.pl,fun x hx=>?_,fun x hx=>?_⟩
 ·obtain⟨h1,h2⟩:=h.sb x hx;obtain⟨_,h3,h4,h5⟩:=nG h2;exact⟨h1,h3,h4,h5⟩
 ·obtain⟨h1,h2⟩:=h.pb x hx;obtain⟨_,h3,h4,h5⟩:=nG h2;exact⟨h1,h3,h4,h5⟩
theorem PT.bl2 {w0 W w':World} {R:Nat} {l:Lw} {ss:List (Sc × Hd)} {ps:List (Pv × Hd)} {fv sv pv v u:Value} {i n s:Nat} {e:TypeId} {xs:List Value} (h:PT w0 W R l ss ps fv sv pv) (ho:W.ownsRow (R+1) e s v n xs) (hg:W.grownBy w' v.ownBlock):Below w0.heap.size w0 (w'.setCell ⟨R,i,none⟩ u):=
 (h.bl.grown hg (by have:=h.bl.size;omega) (fun k hk=>by have h1:=(ho.lt k hk).1;have h2:=h.r;omega)).setCell (p:=⟨R,i,none⟩) h.r _
theorem PT.DU {w0 W w':World} {R:Nat} {l:Lw} {ss:List (Sc × Hd)} {ps:List (Pv × Hd)} {fv sv pv v':Value} (h:PT w0 W R l ss ps fv sv pv) (d:Dc) (ho:w'.ownsRow (R+1) 36 4 v' (l.facts.length+1) (l.facts.flatMap Dc.cells++d.cells)) (hg:W.grownBy w' fv.ownBlock):
  PT w0 (w'.setCell ⟨R,0,none⟩ v') R ⟨l.facts++[d],l.aU,l.aH⟩ ss ps v' sv pv:=by
 have ht:=TF.grown h.f hg;refine⟨h.r,h.bl2 h.f hg,((ht.blk h.blk (by decide)).set 0 v'),?_,eX (ht.own h.s (by decide)) 0 _,eX (ht.own h.p (by decide)) 0 _,h.sl,h.pl,fun x hx=>⟨(h.sb x hx).1,eX (ht.own (h.sb x hx).2 (by decide)) 0 _⟩,fun x hx=>⟨(h.pb x hx).1,eX (ht.own (h.pb x hx).2 (by decide)) 0 _⟩⟩;have k:=eX ho 0 v';simpa [List.length_append,List.flatMap_append] using k
theorem PT.UU {w0 W w':World} {R:Nat} {l:Lw} {ss:List (Sc × Hd)} {ps:List (Pv × Hd)} {fv sv pv v':Value} (h:PT w0 W R l ss ps fv sv pv) (x:Sc × Hd) (hx:x.2.n=x.1.bI.length/\W.ownsRow (R+1) 93 6 (.slice x.2.a x.2.n x.2.c) x.2.n (x.1.bI.flatMap Bk.cells)) (ho:w'.ownsRow (R+1) 39 4 v' (ss.length+1) (ss.flatMap bK++bK x)) (hg:W.grownBy w' sv.ownBlock):
  PT w0 (w'.setCell ⟨R,1,none⟩ v') R ⟨l.facts,l.aU++[x.1],l.aH⟩ (ss++[x]) ps fv v' pv:=by
 have ht:=TF.grown h.s hg;refine⟨h.r,h.bl2 h.s hg,((ht.blk h.blk (by decide)).set 1 v'),eX (ht.own h.f (by decide)) 1 _,?_,eX (ht.own h.p (by decide)) 1 _,by rw[List.map_append,h.sl];rfl,h.pl,fun y hy=>?_,fun x hx=>⟨(h.pb x hx).1,eX (ht.own (h.pb x hx).2 (by decide)) 1 _⟩⟩
 ·have k:=eX ho 1 v';simpa [List.length_append,List.flatMap_append] using k
 ·rcases List.mem_append.1 hy with hy|hy
  ·exact⟨(h.sb y hy).1,eX (ht.own (h.sb y hy).2 (by decide)) 1 _⟩
  ·rw[List.mem_singleton.1 hy];exact⟨hx.1,eX (ht.own hx.2 (by decide)) 1 _⟩
theorem PT.pushP {w0 W w':World} {R:Nat} {l:Lw} {ss:List (Sc × Hd)} {ps:List (Pv × Hd)} {fv sv pv v':Value} (h:PT w0 W R l ss ps fv sv pv) (x:Pv × Hd) (hx:x.2.n=x.1.body.length/\W.ownsRow (R+1) 49 5 (.slice x.2.a x.2.n x.2.c) x.2.n (eP x.1.body)) (ho:w'.ownsRow (R+1) 45 12 v' (ps.length+1) (ps.flatMap aA++aA x)) (hg:W.grownBy w' pv.ownBlock):
  PT w0 (w'.setCell ⟨R,2,none⟩ v') R ⟨l.facts,l.aU,l.aH++[x.1]⟩ ss (ps++[x]) fv sv v':=by
 have ht:=TF.grown h.p hg;refine⟨h.r,h.bl2 h.p hg,((ht.blk h.blk (by decide)).set 2 v'),eX (ht.own h.f (by decide)) 2 _,eX (ht.own h.s (by decide)) 2 _,?_,h.sl,by rw[List.map_append,h.pl];rfl,fun x hx=>⟨(h.sb x hx).1,eX (ht.own (h.sb x hx).2 (by decide)) 2 _⟩,fun y hy=>?_⟩
 ·have k:=eX ho 2 v';simpa [List.length_append,List.flatMap_append] using k
 ·rcases List.mem_append.1 hy with hy|hy
  ·exact⟨(h.pb y hy).1,eX (ht.own (h.pb y hy).2 (by decide)) 2 _⟩
  ·rw[List.mem_singleton.1 hy];exact⟨hx.1,eX (ht.own hx.2 (by decide)) 2 _⟩
def UW:List Value:=[.string ⟨#[102,97,99,116]⟩,.func (Fn.func 132) #[] #[],.string ⟨#[115,99,104,101,100,117,108,101]⟩,.func (Fn.func 134) #[] #[],.string ⟨#[112,114,111,118,105,115,105,111,110]⟩,.func (Fn.func 136) #[] #[]]
theorem P8 (w:World):Calls Tryz.prog 92 #[] w fun e w'=>e=.returned (.slice (some ⟨w.heap.size,0,none⟩) 3 3)/\aj w' w.heap.size 157 UW/\Below w.heap.size w w':=by
 obtain⟨W,hW⟩:=zE (w.alloc (.cells UW.toArray 157));obtain⟨B,hB⟩:=zE w.heap.size;have HK:Hid (aj W B 157 UW):=by show aj _ _ _ _;rw[hW,hB];exact aj.new w _ _
 have aY:Hid (Below w.heap.size w W):=by show Below _ _ _;rw[hW];exact zB _ _
 go_enter Tryz.func92,Tryz.ntmps92;go_wp2;go_ret;refine⟨rfl,?_,?_⟩
 ·have h:=HK.out;rw[hW,hB] at h;exact h
 ·have h:=aY.out;rw[hW] at h;exact h
theorem afk (w:World):(Instr.typeAssert .nilIface 20 148 true).run Tryz.prog w=.ok (.tuple #[.agg #[],.bool false]) w:=by
 kernel_rfl
theorem P9 (a:Nat) (w:World):
  CallsD Tryz.prog 89 #[.pointer (some ⟨a,0,none⟩)] .returning w fun e u' w'=>e=.returned (.tuple #[])/\u'=.returning/\Below w.heap.size w w':=by
 refine callsD_of_wpS Tryz.func89 rfl fun c₀ cs hu=>?_
 apply wpS_seq;apply wpS_region;simp[wpOpsS,go_sem,recoverD,hu,Tryz.ntmps89,Exit.thenS,afk];refine wpS_of_wp ?_;go_wp2;cases c₀
 simp_all [bodyPostS,results,Tryz.results89]
 exact zB _ _
theorem PT.tf {w0 w w':World} {R:Nat} {l:Lw} {ss:List (Sc × Hd)} {ps:List (Pv × Hd)} {fv sv pv:Value} {t:TypeId} (h:PT w0 w R l ss ps fv sv pv) (ht:TF t w w') (hb:Below w0.heap.size w0 w') (h1:28≠t) (h2:36≠t) (h3:39≠t) (h4:45≠t) (h5:93≠t) (h6:49≠t):PT w0 w' R l ss ps fv sv pv:=
 ⟨h.r,hb,ht.blk h.blk h1,ht.own h.f h2,ht.own h.s h3,ht.own h.p h4,h.sl,h.pl,fun x hx=>⟨(h.sb x hx).1,ht.own (h.sb x hx).2 h5⟩,fun x hx=>⟨(h.pb x hx).1,ht.own (h.pb x hx).2 h6⟩⟩
def PX (w0 w:World) (R:Nat) (l:Lw):Prop:=∃ss ps fv sv pv,PT w0 w R l ss ps fv sv pv
theorem PX.below {w0 w w':World} {R:Nat} {l:Lw} (h:PX w0 w R l) (hb:Below w.heap.size w w'):PX w0 w' R l:=by
 obtain⟨ss,ps,fv,sv,pv,h⟩:=h;exact⟨ss,ps,fv,sv,pv,h.below hb⟩
theorem PX.setB {w0 w:World} {R B:Nat} {l:Lw} {cs:List Value} (h:PX w0 w R l) (hB:aj w B 4 cs) (h0:w0.heap.size<=B) (u:Value):PX w0 (w.setCell ⟨B,0,none⟩ u) R l:=by
 obtain⟨ss,ps,fv,sv,pv,h⟩:=h;exact⟨ss,ps,fv,sv,pv,h.tf (TF.set (e:=4) hB 0 u) (h.bl.setCell (p:=⟨B,0,none⟩) h0 u) (by decide) (by decide) (by decide) (by decide) (by decide) (by decide)⟩
structure vV (s:ByteArray) (ws:List ByteArray) (rest:ByteArray) (col:Bool):Prop where
 size:s.size<=1000000
 hd:∃h:List UInt8,Lib.cut s.data.toList [58,32]=(h,rest.data.toList,col)/\h.length<=1000000/\Lib.countB ⟨h.toArray⟩ ⟨#[32]⟩+1=ws.length/\Lib.splitB ⟨#[32]⟩ 0 (Lib.countB ⟨h.toArray⟩ ⟨#[32]⟩) ⟨h.toArray⟩=ws
theorem adb {R B:Nat} {w w8 w9:World} {u:Value} (h:FR R w w8) (hB:w.heap.size<=B) (hb:Below (w8.setCell ⟨B,0,none⟩ u).heap.size (w8.setCell ⟨B,0,none⟩ u) w9):FR R w w9:=by
 refine FR.trans (b:=w8.setCell ⟨B,0,none⟩ u) ⟨by have:=h.size;simpa [World.setCell] using this,fun k o hk hr ht=>(Below.heap_setCell w8 _ u k (fun e=>?_)).trans (h.keep k o hk hr ht)⟩ (FR.below hb);have h1:=lt_of_some hk;have h2:k=B:=e;omega
theorem Dp (w0 w:World) (R:Nat) (l l':Lw) (s rest wd nm:ByteArray) (more:List ByteArray) (k:Nat) (col:Bool) (h:PX w0 w R l) (hL:cZ w) (hw:vV s (wd::nm::more) rest col) (hk:more.length=k+1) (hnm:dI nm=true) (idx fn:Nat)
  (hid:(idx=0/\wd=⟨#[102,97,99,116]⟩/\fn=132/\col=false)∨(idx=1/\wd=⟨#[115,99,104,101,100,117,108,101]⟩/\fn=134/\col=true)∨(idx=2/\wd=⟨#[112,114,111,118,105,115,105,111,110]⟩/\fn=136/\col=true))
  (hR:∀W G,Below w.heap.size w W->aj W G 9 (strs (wd::nm::more))->Calls Tryz.prog fn #[.pointer (some ⟨R,0,none⟩),.slice (some ⟨G,1,none⟩) (k+2:Nat) (k+2:Nat),.string rest] W fun e w'=>e=.returned (.tuple #[])/\PX w0 w' R l'/\FR R W w'):
  Calls Tryz.prog 34 #[.pointer (some ⟨R,0,none⟩),.string s] w fun e w'=>e=.returned (.bool true)/\PX w0 w' R l'/\FR R w w':=by
 have hmf:∀(fn:Fn) (first cap:Array Value) (w:World),(Instr.makeFunc fn first cap).run Tryz.prog w=.ok (.func fn first cap) w:=fun _ _ _ _=>rfl
 have hsf:=sQ;obtain⟨hsz,hd,hcut,hhl,hcnt,afD⟩:=hw;obtain⟨ss0,ps0,fv0,sv0,pv0,uX⟩:=h;have HW0:Hid (w0.heap.size<=w.heap.size):=uX.bl.size;have HRW:Hid (R<w.heap.size):=uX.blk.lt;obtain⟨W1,hW1⟩:=zE (w.alloc (.cells #[.bool false] 4));obtain⟨B,hB⟩:=zE w.heap.size;have HKB:Hid (aj W1 B 4 [.bool false]):=by show aj _ _ _ _;rw[hW1,hB];exact aj.new w _ _
 have HB1:Hid (Below w.heap.size w W1):=by show Below _ _ _;rw[hW1];exact zB _ _
 have iC:Hid (w.heap.size<=B):=Nat.le_of_eq hB.symm;have jU:Hid (∀W,Below w.heap.size w W->cZ W):=fun W hb=>hL.below hb
 obtain⟨m,hm⟩:=(jU.out _ HB1.out).e.base.cut.2;have EX:=zH (Tryz.strings_Cut s ⟨#[58,32]⟩ m W1 (by omega) hm);rw[show (⟨#[58,32]⟩:ByteArray).data.toList=[58,32] from rfl,hcut] at EX;simp only at EX;have hrest:(⟨rest.data.toList.toArray⟩:ByteArray)=rest:=by cases rest;rfl
 rw[hrest] at EX
 have Gj:Hid (∀W,Below w.heap.size w W->Calls Tryz.prog 91 #[.string ⟨hd.toArray⟩,.string ⟨#[32]⟩] W fun e w'=>e=.returned (.slice (some ⟨W.heap.size,0,none⟩) (k+3:Nat) (k+3:Nat))/\w'=W.alloc (.cells ((wd::nm::more).map Value.string).toArray 9)):=fun W hb=>by
  obtain⟨m',hm'⟩:=(jU.out _ hb).e.base.cut.2;have k':=Tryz.strings_Split ⟨hd.toArray⟩ ⟨#[32]⟩ m' W (by show hd.toArray.size<_;simp;omega) hm' (by decide);rw[afD,hcnt] at k';simp only[List.length_cons,hk] at k';exact k'
 have kK:Hid (∀W,Below w.heap.size w W->Calls Tryz.prog 20 #[.string nm] W fun e w'=>e=.returned (.bool true)/\Below W.heap.size W w'):=fun W hb=>by
  have k':=xX nm W (jU.out _ hb).e;rw[hnm] at k';exact k'
 have HR:=zH hR;have Yk:=zH hid;have HM:=zH tu;have xJ:=zH P8;have HMR:Hid (more.length=k+1):=hk;have akZ:Hid (R<w.heap.size):=HRW.out;clear hL hm hrest hsz hcut hhl hcnt afD hR hnm hid uX hk;generalize (⟨hd.toArray⟩:ByteArray)=hb at*
 go_enter_defers Tryz.func34,Tryz.ntmps34
 go_wp2_with fail;simp only[<-hW1,<-hB]
 clear hW1 hB;refine EX.out.mono ?_;rintro e w2 ⟨rfl,nd,hw2⟩;obtain⟨W2,hW2⟩:=zE (W1.drewN nd);rw[<-hW2] at hw2;subst hw2;have HA2:Below W1.heap.size W1 w2:=by rw[hW2];exact ak _ _ _
 have HB2:=zH (ah HB1.out HA2);have HKB2:Hid (aj w2 B 4 [.bool false]):=HKB.out.below HA2 HKB.out.lt;clear hW2 HA2 HKB EX HB1;go_wp2_with fail;refine (Gj.out _ HB2.out).mono ?_;rintro e w3 ⟨rfl,hw3⟩;obtain⟨G,hG⟩:=zE w2.heap.size;have HG:Hid (aj w3 G 9 (strs (wd::nm::more))):=by show aj _ _ _ _;rw[hw3,hG,FB];exact aj.new w2 _ _
 have Ro:Below w2.heap.size w2 w3:=by rw[hw3];exact zB _ _
 have HB3:=zH (ah HB2.out Ro);have HKB3:Hid (aj w3 B 4 [.bool false]):=HKB2.out.below Ro HKB2.out.lt;simp only[<-hG]
 clear hG hw3 Ro HKB2 HB2 Gj;go_wp2_with fail;refine (xJ.out w3).mono ?_;rintro e w4 ⟨rfl,hk4,hb4⟩;obtain⟨D,hD⟩:=zE w3.heap.size;rw[<-hD] at hk4;have HD:=zH hk4;have HB4:=zH (ah HB3.out hb4);have HKB4:Hid (aj w4 B 4 [.bool false]):=HKB3.out.below hb4 HKB3.out.lt;have HG4:Hid (aj w4 G 9 (strs (wd::nm::more))):=HG.out.below hb4 HG.out.lt;simp only[<-hD]
 clear hD hk4 hb4 HKB3 HB3 HG xJ;go_wp2_with fail
 go_loopg [22] 3 (fun q iv wr=>∃i:Nat,i+q=3/\iv=.int .i64 i/\Hid (i<=idx)/\Hid (Below w.heap.size w wr)/\Hid (aj wr B 4 [.bool false])/\Hid (aj wr G 9 (strs (wd::nm::more)))/\Hid (aj wr D 157 UW))
 case atStart=>exact⟨0,by omega,rfl,Nat.zero_le _,HB4,HKB4,HG4,HD⟩
 case round=>
  obtain⟨i,hi,rfl,hidx,hbr,hkB,xB,Oq⟩:=hrel;clear HB4 HKB4 HG4 HD
  obtain⟨wi,fi,e5,e1,e2,e3,e4⟩:∃(wi:ByteArray) (fi:Nat),(∀(a:Array Value) (w:World),Sem.run Tryz.prog (callFunc fi a) w=Result.ok (Next.enter fi a) w)/\wr.cell? ⟨D,i*2,none⟩=some (.string wi)/\wr.cell? ⟨D,i*2+1,none⟩=some (.func (Fn.func fi) #[] #[])/\Hid (i≠idx->(wi.toList==wd.toList)=false)/\Hid (i=idx->wi=wd/\fi=fn/\(wd.toList==[102,97,99,116])= !col):=by
   have hc:=Oq.out.cells;have hI:i=0∨i=1∨i=2:=by have h1:=hidx.out;have h2:idx<=2:=by {rcases Yk.out with h|h|h<;>omega};omega
   rcases hI with rfl|rfl|rfl
   ·refine⟨_,_,fun a w=>by (first|rfl|simp[go_sem]),hc 0,hc 1,fun h=>?_,fun h=>?_⟩
    all_goals rcases Yk.out with⟨h1,rfl,rfl,rfl⟩|⟨h1,rfl,rfl,rfl⟩|⟨h1,rfl,rfl,rfl⟩<;>first|(exfalso;omega)|exact⟨rfl,rfl,by simp only[ByteArray.toList_eq];decide⟩|(simp only[ByteArray.toList_eq];decide)
   ·refine⟨_,_,fun a w=>by (first|rfl|simp[go_sem]),hc 2,hc 3,fun h=>?_,fun h=>?_⟩
    all_goals rcases Yk.out with⟨h1,rfl,rfl,rfl⟩|⟨h1,rfl,rfl,rfl⟩|⟨h1,rfl,rfl,rfl⟩<;>first|(exfalso;omega)|exact⟨rfl,rfl,by simp only[ByteArray.toList_eq];decide⟩|(simp only[ByteArray.toList_eq];decide)
   ·refine⟨_,_,fun a w=>by (first|rfl|simp[go_sem]),hc 4,hc 5,fun h=>?_,fun h=>?_⟩
    all_goals rcases Yk.out with⟨h1,rfl,rfl,rfl⟩|⟨h1,rfl,rfl,rfl⟩|⟨h1,rfl,rfl,rfl⟩<;>first|(exfalso;omega)|exact⟨rfl,rfl,by simp only[ByteArray.toList_eq];decide⟩|(simp only[ByteArray.toList_eq];decide)
  have i0:(0:Int)<=(i:Int):=by omega
  have i1:(i:Int)<3:=by have h1:=hidx.out;have h2:idx<=2:=by {rcases Yk.out with h|h|h<;>omega};omega
  have i2:i<3:=by omega
  go_upto_region 7 with fail
  generalize hX:World.alloc wr _=wt;obtain⟨hT,Yl⟩:=zA hX;have HTW:Hid (w.heap.size<=wr.heap.size):=hbr.out.size;have oD:Hid (wr.heap.size≠R):=by have h1:=HRW.out;have h2:=HTW.out;show _≠_;omega
  generalize wr.heap.size=T at hT HTW oD⊢;replace hbr:=ah hbr.out Yl;replace hkB:=hkB.out.below Yl hkB.out.lt;replace xB:=xB.out.below Yl xB.out.lt;replace Oq:=Oq.out.below Yl Oq.out.lt;clear hX Yl e1 e2;have hcc:=fun (X:World) (h:Below wt.heap.size wt X)=>show X.cell? ⟨T,0,none⟩=some (.string wi)/\X.cell? ⟨T,1,none⟩=some (.func (Fn.func fi) #[] #[])/\X.cell? ⟨G,0,none⟩=some (.string wd)/\X.cell? ⟨G,1,none⟩=some (.string nm) from⟨(hT.below h hT.lt).cells 0,(hT.below h hT.lt).cells 1,(xB.below h xB.lt).cells 0,(xB.below h xB.lt).cells 1⟩
  have ak0:(0:Int)<(k:Int)+3:=by omega
  have ak1:(1:Int)<(k:Int)+3:=by omega
  by_cases hix:i=idx
  ·obtain⟨rfl,rfl,hfc⟩:=e4.out hix;have HFC:=zH hfc;clear e3 e4 hix hidx hfc;refine dN (Below wt.heap.size wt) 99 (ak _ _ 1) (fun v hv hS=>?_)
   iterate 6 refine aW ?_
   refine dH ?_;have hl:=hcc _ hS;go_wp2_with fail;refine (kK.out v (ah hbr hS)).mono ?_;rintro e w5 ⟨rfl,hb5⟩;replace hS:=ah hS hb5;have hfc:=HFC.out;clear hl hb5 hv;have hl:=hcc _ hS;cases col
   all_goals simp only[Bool.not_true,Bool.not_false] at hfc
   all_goals as_aux_lemma=>
    go_wp2_with fail;refine (HM.out w5).mono ?_;rintro e w6 ⟨rfl,hw6⟩;rw[hw6];clear hw6 hl hfc;have ak2:(1:Int)<=(k:Int)+3:=by omega
    replace hbr:=ah hbr hS;replace hkB:=hkB.below hS hkB.lt;replace xB:=xB.below hS xB.lt;replace hT:=hT.below hS hT.lt;clear hS hcc;have hcc:=fun (X:World) (h:aj X T 157 [.string wi,.func (Fn.func fi) #[] #[]])=>h.cells
    go_upto_region 9 with fail
    refine dN (fun X=>aj X T 157 [.string wi,.func (Fn.func fi) #[] #[]]) 99 hT.drew (fun v7 hv7 hS=>?_)
    iterate 6 refine aW ?_
    refine cO 6 (HR.out v7 G (ah hbr hv7) (xB.below hv7 xB.lt)) ?_;rintro e w8 ⟨rfl,hpx,hfr⟩;refine⟨_,rfl,hfr.keep T _ hS oD.out (fun cs t fr e=>by injection e with _ e2 _;subst e2;decide),fun hS=>?_⟩;refine dH ?_;have Ym:Hid (aj w8 B 4 [.bool false]):=hfr.keep B _ (hkB.below hv7 hkB.lt) (by have h1:=HRW.out;have h2:=iC.out;omega) (fun cs t fr e=>by injection e with _ e2 _;subst e2;decide);have rG:Hid (FR R w w8):=FR.trans (FR.below (ah hbr hv7)) hfr;have NW:=zH hpx;clear hpx hfr hcc;have hk8:=Ym.out.cells;have hf8:=Ym.out.aI;go_wp2;refine leaves_cons (f:=89) (args:=#[.pointer (some ⟨B,0,none⟩)]) (by simp) (by simp[go_sem]) ?_;refine (P9 B _).mono ?_;rintro e u' w9 ⟨rfl,rfl,gW⟩;have hKS:=(Ym.out.set 0 (.bool true)).below gW (Ym.out.set 0 (.bool true)).lt;have Wi:w9.cell? ⟨B,0,none⟩=some (.bool true):=hKS.cells 0;simp[Leaves,settle,results,Tryz.results34,go_sem,Wi];exact⟨(NW.out.setB Ym.out (Nat.le_trans HW0.out iC.out) _).below gW,adb rG.out iC.out gW⟩
  ·have hne:=e3.out hix;have Ht:Hid (i+1<=idx):=by have h1:=hidx.out;show i+1<=idx;omega
   clear e3 e4 hix hidx;refine dN (Below wt.heap.size wt) 99 (ak _ _ 1) (fun v hv hS=>?_)
   iterate 6 refine aW ?_
   refine dH ?_;have H1:=zH (ah hbr hS);have H2:=zH (hkB.below hS hkB.lt);have H3:=zH (xB.below hS xB.lt);have H4:=zH (Oq.below hS Oq.lt);clear hcc hbr hkB xB Oq hT;go_wp2
   go_roundg (2-i)
   case measure=>omega
   case rel=>exact⟨i+1,by omega,by go_num,Ht,H1,H2,H3,H4⟩
theorem XZ (a b:Int) (w:World):Calls Tryz.prog 18 #[.int .i64 a,.int .i64 b] w fun e w'=>e=.returned (Ty.v ⟨false,a,b⟩)/\Below w.heap.size w w':=by
 unfold Ty.v;simp only
 obtain⟨W,hW⟩:=zE (w.alloc (.cells #[.bool false,.int .i64 0,.int .i64 0] 34));obtain⟨B,hB⟩:=zE w.heap.size;have HK:Hid (aj W B 34 [.bool false,.int .i64 0,.int .i64 0]):=by show aj _ _ _ _;rw[hW,hB];exact aj.new w _ _
 have aY:Hid (Below w.heap.size w W):=by show Below _ _ _;rw[hW];exact zB _ _
 have iC:=zH (Nat.le_of_eq hB.symm);have hkb:=HK.out.cells;have hfb:=HK.out.aI;go_enter Tryz.func18,Tryz.ntmps18
 go_upto_region 1 with fail
 simp only[<-hW,<-hB]
 clear hW hB;go_wp2;have Ho:=((HK.out.set 0 (.bool false)).set 1 (.int .i64 a)).set 2 (.int .i64 b);have hc:=Ho.cells;refine bodyPost_ret (v:=.agg #[.bool false,.int .i64 a,.int .i64 b]) (by simp[results,Tryz.results18,go_sem,hc]) rfl ⟨rfl,?_⟩;exact ((aY.out.setCell (p:=⟨B,0,none⟩) iC.out _).setCell (p:=⟨B,1,none⟩) iC.out _).setCell (p:=⟨B,2,none⟩) iC.out _
end Go.Proofs.YtimokmplkpbmdaaGreatDoor
