/- Part: Ua Ub U5 U6 U8 U3 Uc Jv Jw Jx Ud Ui Un. -/
import Derived.Test.YtjpbmbgincdjaaaGreatDoorK32
set_option linter.all false
set_option maxRecDepth 100000
set_option maxHeartbeats 0
namespace Go.Proofs.YtjpbmbgincdjaaaGreatDoor
open Go.RowKit Go.Maps List World Tryz
def sortedB:List ByteArray->Bool
 |a::b::r=>Op.bytesLess a.toList b.toList&&sortedB (b::r)
 |_=>true
theorem sW (l:List ByteArray):sortedB l=true↔∀k (h:k+1<l.length),Op.bytesLess (l[k]'(by omega)).toList l[k+1].toList=true:=by
 induction l with
 |nil=>exact⟨fun _ k h=>by simp at h,fun _=>rfl⟩
 |cons a l ih=>
  cases l with
  |nil=>exact⟨fun _ k h=>by simp at h,fun _=>rfl⟩
  |cons b r=>
   rw[sortedB,Bool.and_eq_true,ih];constructor
   ·rintro⟨h1,h2⟩ k h;cases k with
    |zero=>exact h1
    |succ k=>exact h2 k (by simpa using h)
   ·intro h;exact⟨h 0 (by simp),fun k hk=>h (k+1) (by simpa using hk)⟩
def gI (s:ByteArray) (l:List ByteArray):Nat:=(l.filter fun x=>decide (x=s)).length
theorem sZ (s:ByteArray) (a b:List ByteArray):gI s (a++b)=gI s a+gI s b:=by unfold gI;rw[filter_append,length_append]
theorem EU (s t:ByteArray):gI s [t]=if t=s then 1 else 0:=by
 unfold gI;by_cases h:t=s
 ·rw[if_pos h,filter_cons,decide_eq_true h];rfl
 ·rw[if_neg h,filter_cons,decide_eq_false h];rfl
theorem aes (s:ByteArray) (l:List ByteArray):gI s l<=l.length:=length_filter_le _ _
theorem EW {s:ByteArray} {l:List ByteArray} (h:0<gI s l):s∈l:=by
 unfold gI at h;obtain⟨x,hx⟩:=exists_mem_of_length_pos h;have:=mem_filter.1 hx;rw[<-of_decide_eq_true this.2];exact this.1
def EX (l:List ByteArray):Bool:=l.any fun s=>decide (1<gI s l)
def EY (l:Lw):List (List ByteArray):=[l.facts.map Dc.name,l.aH.map Sc.name,l.ay.map Pv.name]
def oP (NS:List (List ByteArray)):Int:=if NS.flatten.all bY then (if NS.all sortedB then (if EX NS.flatten then 14 else 0) else 11) else 12
def jF (l:Lw):Int:=oP (EY l)
theorem QK {s:ByteArray} (h:bY s=true):s.size<=20:=by
 unfold bY nameB at h;rw[Bool.and_eq_true,Bool.and_eq_true,decide_eq_true_eq] at h;have:=h.1.2;show s.data.size<=20;rw[<-Array.length_toList];exact this
def Counts (D:DataW Unit) (names:List ByteArray):Prop:=∀s:ByteArray,D.atKey (.string s.data.toList) (.lit (.int .i64 0))=.lit (.int .i64 (gI s names))
theorem YZ {s t:ByteArray} (h:s≠t):(Lit.string s.data.toList)≠.string t.data.toList:=by
 intro e;injection e with e;exact h (ByteArray.ext (Array.toList_inj.1 e))
theorem Counts.put {D:DataW Unit} {names:List ByteArray} {s:ByteArray} (h:Counts D names) (hD:IsMap D):Counts (D.put (.string s.data.toList) (.lit (.int .i64 ((gI s names:Int)+1)))) (names++[s]):=by
 intro t;rw[sZ,EU];by_cases e:s=t
 ·subst e;rw[atKey_put_same hD (show WideAt.IsKeyLit (.string s.data.toList) from trivial),if_pos rfl];rfl
 ·rw[atKey_put_other (YZ (fun h=>e h.symm)),if_neg e];exact h t
theorem Counts.has {D:DataW Unit} {names:List ByteArray} {s:ByteArray} (h:Counts D names) (hs:s∈names):Maps.has D (.string s.data.toList)=true:=by
 cases e:Maps.has D (.string s.data.toList) with
 |true=>rfl
 |false=>
  have h1:=h s;rw[atKey_of_not_has e] at h1;injection h1 with h1;injection h1 with _ h1;exfalso
  have h2:0<gI s names:=by
   unfold gI;exact length_pos_of_mem (mem_filter.2 ⟨hs,decide_eq_true rfl⟩)
  omega
theorem Dq:Keyed prog 9:=string_keyed underlying9
theorem abq (w:World):(zeroValue 3).run prog w=.ok (.int .i64 0) w:=by kernel_rfl
theorem ag7 (y0 y1 y2:Hd) (r:Nat) (hr:r<3) (w:World):(Instr.index 121 (.agg #[.slice y0.a y0.n y0.c,.slice y1.a y1.n y1.c,.slice y2.a y2.n y2.c]) (.int .i64 (r:Int))).run prog w=
  .ok (.slice (([y0,y1,y2].getD r y0).a) (([y0,y1,y2].getD r y0).n) (([y0,y1,y2].getD r y0).c)) w:=by
 have h:r=0∨r=1∨r=2:=by omega
 rcases h with rfl|rfl|rfl<;>rfl
theorem Rd.str {w:World} {A:Option Addr} {l:List ByteArray} (h:Rd w A (l.flatMap sF)) {j:Nat} (hj:j<l.length):∃b off,A=some ⟨b,off,none⟩/\b<w.heap.size/\∀k (hk:k<l.length),w.cell? ⟨b,off+k,none⟩=some (.string l[k]):=by
 obtain⟨b,off,hA,hb,_⟩:=Rd.row sF 1 (fun _=>rfl) (by omega) h hj;refine⟨b,off,hA,hb,fun k hk=>?_⟩;obtain⟨b',off',hA',hb',hc⟩:=Rd.row sF 1 (fun _=>rfl) (by omega) h hk;rw[hA] at hA';injection hA' with hA';injection hA' with h1 h2;subst h1 h2;have:=hc 0 _ rfl;rw[Nat.mul_one,Nat.add_zero] at this;exact this
theorem KG {NS:List (List ByteArray)} {r:Nat} (hr:r<NS.length):(NS.take (r+1)).flatten=(NS.take r).flatten++NS[r]:=by
 rw[take_succ_eq_append_getElem hr,flatten_append];simp
theorem aeu (a b:ByteArray) (w:World):(binOp .geq 9 (.string a) (.string b)).run prog w=.ok (.bool (!Op.bytesLess a.toList b.toList)) w:=by
 simp[binOp,Op.stringOp]
theorem VZ (l:Lw) (ss:List (Sc × Hd)) (ps:List (Pv × Hd)) (f s p:Hd) (w:World) (hL:eX w) (h:iQ w l ss ps f s p) (hf:lW l):
  Calls prog 28 #[nD f s p] w fun e w'=>e=.returned (.int .i64 (jF l))/\Below w.heap.size w w':=by
 have HLI:=zH (fun W hb=>VP l ss ps f s p W (h.below hb) hf);have HL:Hid (∀W,Below w.heap.size w W->eX W):=fun W hb=>hL.below hb
 have HLEN:Hid ((EY l).flatten.length<=3000):=by
  have h1:=hf.fn;have h2:=hf.sn;have h3:=hf.pn;show _<=_;unfold EY;simp;omega
 obtain⟨NS,TA⟩:=zE (EY l);have TB:Hid (NS.length=3):=by show _=_;rw[TA];rfl
 have HG:Hid (∀W (y0 y1 y2:Hd),dB W sF (l.facts.map Dc.name) y0->dB W sF (l.aH.map Sc.name) y1->dB W sF (l.ay.map Pv.name) y2->∀r (hr:r<3),dB W sF (NS[r]'(by rw[TB.out];exact hr)) ([y0,y1,y2].getD r y0)):=fun W y0 y1 y2 h0 h1 h2 r hr=>by
  subst TA;have h:r=0∨r=1∨r=2:=by omega
  rcases h with rfl|rfl|rfl
  ·exact h0
  ·exact h1
  ·exact h2
 obtain⟨R,hR⟩:=zE (jF l)
 have ag8:Hid ((∃x∈NS.flatten,bY x=false)->R=12):=fun⟨x,hx,h⟩=>by
  rw[hR];unfold jF oP;rw[<-TA];rw[if_neg];intro h2;rw[all_eq_true.1 h2 x hx] at h;cases h
 have HV:Hid ((∀x∈NS.flatten,bY x=true)->R=if NS.all sortedB then (if EX NS.flatten then 14 else 0) else 11):=fun h=>by
  rw[hR];unfold jF oP;rw[<-TA,if_pos (all_eq_true.2 h)]
 rw[<-hR];rw[<-TA] at HLEN;clear hL h hf TA hR;obtain⟨fa,fn,fc⟩:=f;obtain⟨sa,sn,sc⟩:=s;obtain⟨pa,pn,pc⟩:=p;unfold nD at HLI⊢;simp only at HLI⊢;obtain⟨W,hW⟩:=zE (w.alloc (.cells #[.slice fa fn fc,.slice sa sn sc,.slice pa pn pc] 29));obtain⟨B,hB⟩:=zE w.heap.size;have HK:Hid (aj W B 29 [.slice fa fn fc,.slice sa sn sc,.slice pa pn pc]):=by show aj _ _ _ _;rw[hW,hB];exact aj.new w _ _
 have bZ:Hid (Below w.heap.size w W):=by show Below _ _ _;rw[hW];exact zB _ _
 have hkc:=HK.out.cells;have hmm:=@run_makeMap prog;go_enter func28,ntmps28
 go_upto_region 1 with fail
 simp only[<-hW,<-hB]
 clear hW hB;go_wp2_with fail;refine (HLI.out W bZ.out).mono ?_;rintro e W1 ⟨y0,y1,y2,rfl,r0,r1,r2,hb1⟩;have HB1:=zH (ah bZ.out hb1);have abr:=zH (fun W (hb:Below W1.heap.size W1 W) r hr=>HG.out W y0 y1 y2 (r0.below hb) (r1.below hb) (r2.below hb) r hr);have HIX:=zH (ag7 y0 y1 y2);clear hb1 r0 r1 r2 HG hkc HLI
 go_upto_region 2 with fail
 obtain⟨W2,hW2⟩:∃x,x=(W1.alloc (.map #[] 0)).alloc (.cells #[.slice y0.a y0.n y0.c,.slice y1.a y1.n y1.c,.slice y2.a y2.n y2.c] 121):=⟨_,rfl⟩
 obtain⟨M,hM⟩:=zE W1.heap.size;have Bz:Hid (W2.ownsMap (H:=Unit) prog 9 (plainElem prog 3) M 0 (.map [])):=by show World.ownsMap _ _ _ _ _ _ _;rw[hW2,hM];exact (ownsMap_made _ _ _ _).alloc _
 have Aj:Hid (aj W2 (M+1) 121 [.slice y0.a y0.n y0.c,.slice y1.a y1.n y1.c,.slice y2.a y2.n y2.c]):=by
  show aj _ _ _ _;have h:=aj.new (W1.alloc (.map #[] 0)) 121 #[.slice y0.a y0.n y0.c,.slice y1.a y1.n y1.c,.slice y2.a y2.n y2.c];rw[size_alloc] at h;rw[hW2,hM];exact h
 have HB2:Hid (Below W1.heap.size W1 W2):=by show Below _ _ _;rw[hW2];exact (zB _ _).alloc (by rw[size_alloc];omega) _
 have Eh:Hid (M=W1.heap.size):=hM;have TD:Hid (∀W,bW M W2 W->Below W1.heap.size W1 W):=fun W ho=>HB2.out.trans (ho.below (by rw[hM];exact Nat.le_refl _) HB2.out.size)
 simp only[<-hW2,<-hM,size_alloc]
 clear hW2 hM hmm;have hbx:=Aj.out.cells;go_wp2_with fail
 go_loopg [18] 3 (fun g iv wr=>∃(r n:Nat) (D:DataW Unit),r+g=3/\iv=.int .i64 r/\n<=3000/\Hid (n<=(NS.take r).flatten.length)/\Hid (wr.ownsMap prog 9 (plainElem prog 3) M n D)/\Hid (Counts D (NS.take r).flatten)/\Hid (∀x∈(NS.take r).flatten,bY x=true)/\Hid (bW M W2 wr))
 case atStart=>exact⟨0,0,.map [],by omega,rfl,by omega,Nat.zero_le _,Bz.out,(fun s=>rfl),(fun x hx=>by cases hx),bW.refl _ _⟩
 case round=>
  obtain⟨r,n,D,hr,rfl,hn3,hnl,hmap,hcnt,hok,hon⟩:=hrel;by_cases hlt:r<3
  ·have hrl:r<NS.length:=by rw[TB.out];exact hlt
   have hix:=HIX.out r hlt;have HRW:=zH (fun W hb=>abr.out W hb r hlt);have HTF:=zH (KG hrl);have amq:Hid (∀x∈NS[r],x∈NS.flatten):=fun x hx=>mem_flatten.2 ⟨_,getElem_mem hrl,hx⟩
   have HBL:Hid ((NS.take r).flatten.length+NS[r].length<=3000):=by
    have h1:=HTF.out
    have h2:(NS.take (r+1)).flatten.length<=NS.flatten.length:=by
     conv=>rhs;rw[<-take_append_drop (r+1) NS,flatten_append,length_append]
     omega
    rw[h1,length_append] at h2;have:=HLEN.out;show _<=_;omega
   have hlt3:decide ((r:Int)<3)=true:=decide_eq_true (by omega);generalize [y0,y1,y2].getD r y0=hd at*;obtain⟨ha,hn,hc⟩:=hd;generalize NS[r]=L at*;generalize (NS.take r).flatten=dn at*;simp only at hix HRW;have hlen:hn=L.length:=(HRW.out W1 (Below.refl _ _)).len;have BX:=zH hlen;clear hlen;have hib:hn<=3000:=by have:=HBL.out;have:=BX.out;omega
   go_wp2_with fail
   go_loopg [23] hn (fun g iv wr=>∃(i n:Nat) (D:DataW Unit),i+g=hn/\iv=.int .i64 i/\n<=3000/\Hid (n<=dn.length+i)/\Hid (wr.ownsMap prog 9 (plainElem prog 3) M n D)/\Hid (Counts D (dn++L.take i))/\Hid (∀x∈dn++L.take i,bY x=true)/\Hid (bW M W2 wr))
   case atStart=>exact⟨0,n,D,by omega,rfl,hn3,zH (by have:=hnl.out;omega),hmap,(by show Counts _ _;rw[take_zero,append_nil];exact hcnt.out),(by rw[take_zero,append_nil];exact hok.out),hon⟩
   case round=>
    obtain⟨i,n,D,hi,rfl,hn3,hnl,hmap,hcnt,hok,hon⟩:=hrel;by_cases hin:i<hn
    ·have hil:i<L.length:=by rw[<-BX.out];exact hin
     obtain⟨b,off,hA,hb,hcs⟩:=(HRW.out wr (TD.out _ hon.out)).rd.str hil;simp only at hA;subst hA;have hc0:=hcs i hil;have amr:Hid (L[i]∈NS.flatten):=amq.out _ (getElem_mem hil);have O7:Hid (L.take (i+1)=L.take i++[L[i]]):=take_succ_eq_append_getElem hil;generalize L[i]=x at*;have HLE:=zH (HL.out wr (ah HB1.out (TD.out _ hon.out)));clear hcs;go_wp2_with fail;refine (xA x wr HLE.out).mono ?_;rintro e w9 ⟨rfl,fP⟩;have HO9:=zH (hon.out.trans (bW.of_below (G:=M) fP));have ac5:=hmap.out.kept (below_grown fP) (by simp);have HM9:=zH ac5;clear fP ac5 hc0;cases hq:bY x with
     |false=>
      obtain rfl:R=12:=ag8.out ⟨x,amr.out,hq⟩;have lV:=zH (ah HB1.out (TD.out _ HO9.out));clear hq;go_wp2;go_ret;exact⟨rfl,lV.out⟩
     |true=>
      have hkey:keyOf prog 9 (.string x)=some (.string x.data.toList):=WideMaps.keyOf_string_mk underlying9 (by have:=QK hq;unfold maxLen;omega);have HKEY:=zH hkey;have HQ:=zH hq;clear hkey hq;go_wp2_with (at_lookup;refine wpList_lookup_own_int _ rfl _ _ 123 rfl 9 3 .i64 Dq underlying123 underlying3 (abq _) M n D rfl HM9.out _ _ rfl HKEY.out ?_);intro c hat hwc
      have hcx:c=(gI x (dn++L.take i):Int):=by
       have h1:=hcnt.out x;rw[h1] at hat;injection hat with hat;injection hat with _ hat;exact hat.symm
      have ams:gI x (dn++L.take i)<=dn.length+i:=by
       have:=aes x (dn++L.take i);rw[length_append,length_take] at this;omega
      have amu:=zH (hcnt.out.put (s:=x) HM9.out.isMap);subst hcx;generalize gI x (dn++L.take i)=cn at*;have hcn:cn<=3000:=by have:=HBL.out;have:=BX.out;omega
      have hw1:IntKind.i64.wrap ((cn:Int)+1)=(cn:Int)+1:=IntWalk.i64_in _ (by omega);have hwf:(Lit.int .i64 ((cn:Int)+1)).wf=true:=WalkArith.wf_i64 (by omega);have HWF:=zH hwf;clear hat hwc hwf ams;go_wp2_with (at_mapUpdate;refine wpList_mapUpdate_own _ rfl _ _ _ 123 rfl 9 3 Dq underlying123 _ M n _ rfl HM9.out (by unfold maxLen;omega) _ _ _ rfl rfl HKEY.out _ [] (plainElem_int underlying3 HWF.out) ?_);intro w10 Y0 hgr;have amv:=zH Y0;have amw:Hid (bW M W2 w10):=HO9.out.trans ⟨hgr.os,hgr.tape,hgr.output,hgr.size,fun k hk hne=>hgr.block k hk (fun e=>hne (Option.some.inj e))⟩;clear Y0 hgr;go_wp2
      go_roundg (hn-(i+1))
      case measure=>omega
      case rel=>
       refine⟨i+1,n+1,_,by omega,by go_num,?_,?_,amv,?_,?_,amw⟩
       ·have:=hnl.out;have:=HBL.out;have:=BX.out;omega
       ·have:=hnl.out;show _<=_;omega
       ·show Counts _ _;rw[O7.out,<-append_assoc];exact amu.out
       ·show ∀y∈_,_;rw[O7.out,<-append_assoc];intro y hy;rcases mem_append.1 hy with hy|hy
        ·exact hok.out y hy
        ·rw[mem_singleton.1 hy];exact HQ.out
    ·have hie:L.take i=L:=take_of_length_le (by have:=BX.out;omega);have hcnt2:=hcnt.out;have hok2:=hok.out;rw[hie,<-HTF.out] at hcnt2 hok2;have HC2:=zH hcnt2;have kN:=zH hok2
     have amx:Hid (n<=(NS.take (r+1)).flatten.length):=by
      show _<=_;rw[HTF.out,length_append];have:=hnl.out;have:=BX.out;omega
     clear hcnt hok hcnt2 hok2 hie;go_wp2
     go_roundg (3-(r+1))
     case measure=>omega
     case rel=>exact⟨r+1,n,D,by omega,by go_num,hn3,amx,hmap,HC2,kN,hon⟩
  ·have hr3:NS.take r=NS:=take_of_length_le (by rw[TB.out];omega);rw[hr3] at hcnt hok hnl;have YJ:=zH (HV.out hok.out);obtain⟨W3,hW3⟩:∃x,x=wr:=⟨_,rfl⟩
   rw[<-hW3] at hmap hon⊢;have HB3:=zH (ah HB1.out (TD.out _ hon.out));have ac6:=zH (fun W (hb:Below W3.heap.size W3 W) r hr=>abr.out W (ah (TD.out _ hon.out) hb) r hr);have amy:=(hon.out.blk Aj.out (by omega)).cells;have hgeq:=fun (a b:ByteArray) (W:World)=>aeu a b W
   clear HV ag8 Bz hW3 TD abr HB1 HB2 hok hnl hon Aj;go_wp2_with fail
   go_loopg [37] 3 (fun g iv wr=>∃r:Nat,r+g=3/\iv=.int .i64 r/\Hid (∀k (hk:k<NS.length),k<r->sortedB NS[k]=true)/\Hid (Below W3.heap.size W3 wr))
   case atStart=>exact⟨0,by omega,rfl,(fun k hk h=>absurd h (by omega)),Below.refl _ _⟩
   case round=>
    obtain⟨r,hr,rfl,hso,hbr⟩:=hrel;by_cases hlt:r<3
    ·have hrl:r<NS.length:=by rw[TB.out];exact hlt
     have hix:=HIX.out r hlt;have HRW:=zH (fun W hb=>ac6.out W hb r hlt)
     have HNS:Hid (sortedB NS[r]=false->R=11):=fun h=>by
      rw[YJ.out,if_neg];intro h2;have:=all_eq_true.1 h2 NS[r] (getElem_mem hrl);rw[h] at this;cases this
     have Y1:Hid (sortedB NS[r]=true->∀k (hk:k<NS.length),k<r+1->sortedB NS[k]=true):=fun h k hk hkr=>by
      by_cases e:k<r
      ·exact hso.out k hk e
      ·obtain rfl:k=r:=by omega
       exact h
     have hbound:NS[r].length<=3000:=by
      have h2:(NS.take (r+1)).flatten.length<=NS.flatten.length:=by
       conv=>rhs;rw[<-take_append_drop (r+1) NS,flatten_append,length_append]
       omega
      rw[KG hrl,length_append] at h2;have:=HLEN.out;omega
     generalize [y0,y1,y2].getD r y0=hd at*;obtain⟨ha,hn,hc⟩:=hd;generalize NS[r]=L at*;simp only at hix HRW;have hlen:hn=L.length:=(HRW.out W3 (Below.refl _ _)).len;have nI:=zH (sW L);have hlt3:decide ((r:Int)<3)=true:=decide_eq_true (by omega);have hnb:hn<=3000:=by rw[hlen];exact hbound
     have BX:=zH hlen;clear hlen hbound hso;go_wp2_with fail
     go_loopg [11] hn (fun g iv wr=>∃i:Nat,iv=.int .i64 i/\1<=i/\hn-i<=g/\i<=hn+1/\Hid (∀k (hk:k+1<L.length),k+1<i->Op.bytesLess L[k].toList L[k+1].toList=true)/\Hid (Below W3.heap.size W3 wr))
     case atStart=>exact⟨1,rfl,by omega,by omega,by omega,(fun k hk h=>absurd h (by omega)),hbr⟩
     case round=>
      obtain⟨i,rfl,hi1,hig,hin1,hle,hbr⟩:=hrel;by_cases hin:i<hn
      ·have hil:i<L.length:=by rw[<-BX.out];exact hin
       obtain⟨b,off,hA,hb,hcs⟩:=(HRW.out wr hbr.out).rd.str hil;simp only at hA;subst hA;obtain⟨m,rfl⟩:∃m,i=m+1:=⟨i-1,by omega⟩
       have hc0:=hcs m (by omega);have hc1:=hcs (m+1) hil;have hw1:IntKind.i64.wrap (((m+1:Nat):Int)-1)=(m:Int):=by rw[IntWalk.i64_in _ (by omega)];omega
       have ahe:Hid (Op.bytesLess (L[m]'(by omega)).toList L[m+1].toList=true->∀k (hk:k+1<L.length),k+1<m+1+1->Op.bytesLess L[k].toList L[k+1].toList=true):=fun h k hk hkm=>by
        by_cases e:k+1<m+1
        ·exact hle.out k hk e
        ·obtain rfl:k=m:=by omega
         exact h
       have HBAD:Hid (Op.bytesLess (L[m]'(by omega)).toList L[m+1].toList=false->R=11):=fun h=>by
        refine HNS.out ?_;cases e:sortedB L with
        |false=>rfl
        |true=>have:=nI.out.1 e m hil;rw[h] at this;cases this
       have hml:m<hn:=by omega
       generalize L[m]'(by omega)=x0 at*;generalize L[m+1]=x1 at*;obtain⟨q,hq⟩:=zF (Op.bytesLess x0.toList x1.toList);rw[hq] at ahe HBAD;clear hcs hle hgeq;have HBD:=zH (below_drewN hbr.out 1);clear hbr
       go_upto_region 19 with fail
       cases q
       ·obtain rfl:R=11:=HBAD.out rfl;have lV:=zH (ah HB3.out HBD.out);go_region;go_wp2;go_ret;exact⟨rfl,lV.out⟩
       ·have amA:=zH (ahe.out rfl);go_region;go_wp2
        go_roundg (hn-(m+1+1))
        case measure=>omega
        case rel=>exact⟨m+1+1,by go_num,by omega,by omega,by omega,amA,HBD⟩
      ·have HSL:Hid (sortedB L=true):=nI.out.2 (fun k hk=>hle.out k hk (by have:=BX.out;omega));have O8:=zH (Y1.out HSL.out);clear hle;go_wp2
       go_roundg (3-(r+1))
       case measure=>omega
       case rel=>exact⟨r+1,by omega,by go_num,O8,hbr⟩
    ·have hall:NS.all sortedB=true:=all_eq_true.2 (fun x hx=>by
      obtain⟨k,hk,rfl⟩:=getElem_of_mem hx;exact hso.out k hk (by have:=TB.out;omega))
     have xw:=YJ.out;rw[if_pos hall] at xw
     have yh:Hid ((∃x,1<gI x NS.flatten)->R=14):=fun⟨x,hx⟩=>by
      rw[xw,if_pos];exact any_eq_true.2 ⟨x,EW (by omega),decide_eq_true hx⟩
     have F7:Hid ((∀x∈NS.flatten,gI x NS.flatten<=1)->R=0):=fun h=>by
      rw[xw,if_neg];intro h2;obtain⟨x,hx,h3⟩:=any_eq_true.1 h2;have:=of_decide_eq_true h3;have:=h x hx;omega
     have HMX:=zH (hmap.kept (below_grown hbr.out) (by simp));have O9:Hid (Counts D NS.flatten):=hcnt;have kU:=zH (ah HB3.out hbr.out);obtain⟨W4,hW4⟩:∃x,x=wr:=⟨_,rfl⟩
     rw[<-hW4] at HMX kU⊢;clear xw hall YJ hso hmap hcnt hbr hW4 HIX ac6 hgeq amy TB HLEN;go_wp2_with (at_range;refine wpList_range_own _ rfl _ 123 rfl 9 3 Dq underlying123 _ M n _ rfl HMX.out ?_;intro w0 hrg0 hg0 hs0)
     go_frame
     obtain⟨rr,hrr⟩:∃x,x=W4.heap.size:=⟨_,rfl⟩
     rw[<-hrr] at hrg0⊢;have HRR:Hid (w.heap.size<=rr):=by show _<=_;rw[hrr];exact kU.out.size
     have HB0:Hid (Below w.heap.size w w0):=kU.out.grown hg0 kU.out.size (fun g hg=>by cases hg);have ahf:=zH hrg0;clear hrr hg0 hs0 hrg0
     go_loopg [13] (Maps.size D) (fun g v wr=>∃left:Lit->Bool,Hid (wr.ranges prog 9 (plainElem prog 3) M rr n D left g)/\Hid (∀x∈NS.flatten,left (.string x.data.toList)=true∨gI x NS.flatten<=1)/\Hid (Below w.heap.size w wr))
     case atStart=>exact⟨_,ahf,(fun x hx=>.inl (O9.out.has hx)),HB0⟩
     case round=>
      obtain⟨left,hrg,hlf,hbr⟩:=hrel;clear ahf HB0;go_wp2_with (at_next;refine wpList_next_ranges _ rfl _ rfl 9 Dq (plainElem prog 3) (fun s:ByteArray=>Value.string s) (Value.int .i64) (fun key kl h=>by obtain⟨s,h1,_⟩:=WideMaps.string_of_keyOf underlying9 h;exact⟨s,h1⟩) (fun v y h=>by obtain⟨c,h1,_⟩:=plainElem_int_inv underlying3 h;exact⟨c,h1⟩) M rr n D left _ rfl hrg.out ?_ ?_)
      ·intro hc0 hl0
       obtain rfl:R=0:=F7.out (fun x hx=>by
        rcases hlf.out x hx with h|h
        ·rw[hl0] at h;cases h
        ·exact h)
       clear hl0;go_wp2;go_ret;exact⟨rfl,hbr.out⟩
      ·intro x c kl yd yp w' cnt' hkey hlk hv hat ahg hlt' hgr hsz hen;obtain⟨s,hs,rfl,_⟩:=WideMaps.string_of_keyOf underlying9 hkey;injection hs with hs;subst hs;obtain⟨c',hc',hyy,_⟩:=plainElem_int_inv underlying3 hv;injection hc' with _ hc';subst hc';injection hyy with hy1 hy2;subst hy1 hy2
       have hcx:c=(gI x NS.flatten:Int):=by
        have h1:=hat (.lit (.int .i64 0));rw[O9.out x] at h1;injection h1 with h1;injection h1 with _ h1;exact h1.symm
       have HCX:=zH hcx;have HB':Hid (Below w.heap.size w w'):=hbr.out.grown hgr hbr.out.size (fun g hg=>by obtain rfl:=Option.some.inj hg;exact HRR.out);have amB:=zH ahg;have HLT:=zH hlt'
       have HLF:Hid (c<=1->∀t∈NS.flatten,(left (.string t.data.toList)&& !(Lit.string t.data.toList).sameKey (.string x.data.toList))=true∨gI t NS.flatten<=1):=fun hc t ht=>by
        rcases hlf.out t ht with h|h
        ·cases e:(Lit.string t.data.toList).sameKey (.string x.data.toList) with
         |false=>left;rw[h];rfl
         |true=>
          right
          have h2:=WideAt.sameKey_eq e;injection h2 with h2;have h3:t=x:=ByteArray.ext (Array.toList_inj.1 h2);rw[h3];omega
        ·exact .inr h
       clear hkey hlk hv hat ahg hlt' hgr hsz hcx hlf hrg hbr;by_cases h1:1<c
       ·obtain rfl:R=14:=yh.out ⟨x,by have:=HCX.out;omega⟩;go_wp2;go_ret;exact⟨rfl,HB'.out⟩
       ·have amC:=zH (HLF.out (by omega));go_wp2
        go_roundg cnt'
        case measure=>exact HLT.out
        case rel=>exact⟨_,amB,amC,HB'⟩
end Go.Proofs.YtjpbmbgincdjaaaGreatDoor
namespace Go.Proofs.YtjpbmbgincdjaaaGreatDoor
open Go.RowKit List World Tryz
theorem QL (x:Dc) (w:World):Calls prog 64 #[.agg (Dc.cells x).toArray] w fun e w'=>e=.returned (.bool (!aN x.ty))/\Below w.heap.size w w':=by
 have HU:=zH (fun W=>D5 x.ty W);generalize aN x.ty=q at*;obtain⟨nm,⟨tt,tm,td⟩⟩:=x;unfold Dc.cells;simp only[Ty.v] at HU⊢;obtain⟨W,hW⟩:=zE (w.alloc (.cells #[.string nm,.bool tt,.int .i64 tm,.int .i64 td] 53));have hkc:=(aj.new w 53 #[.string nm,.bool tt,.int .i64 tm,.int .i64 td]).cells;have bZ:Hid (Below w.heap.size w W):=by show Below _ _ _;rw[hW];exact zB _ _
 rw[<-hW] at hkc;obtain⟨B,hB⟩:=zE w.heap.size;rw[<-hB] at hkc;go_enter func64,ntmps64
 go_upto_region 1 with fail
 simp only[<-hW,<-hB]
 clear hW hB;go_wp2_with fail;refine (HU.out W).mono ?_;rintro e w5 ⟨rfl,hb5⟩;have lV:=zH (ah bZ.out hb5);clear hb5;go_wp2;go_ret;exact⟨rfl,lV.out⟩
theorem QM (x:Pv × Hd) (w:World):Calls prog 67 #[.agg (cO x).toArray] w fun e w'=>e=.returned (.bool (!aN x.1.ty))/\Below w.heap.size w w':=by
 have HU:=zH (fun W=>D5 x.1.ty W);generalize aN x.1.ty=q at*;obtain⟨⟨nm,⟨tt,tm,td⟩,ch,⟨He,Hf,Hg⟩,⟨Hl,Ho,cn3⟩,bo⟩,⟨ha,hn,hcc⟩⟩:=x;unfold cO;simp only[Ty.v] at HU⊢;obtain⟨W,hW⟩:=zE (w.alloc (.cells #[.string nm,.bool tt,.int .i64 tm,.int .i64 td,.slice ha hn hcc,.bool ch,.bool He,.string Hf,.string Hg,.bool Hl,.string Ho,.string cn3] 59));have hkc:=(aj.new w 59 #[.string nm,.bool tt,.int .i64 tm,.int .i64 td,.slice ha hn hcc,.bool ch,.bool He,.string Hf,.string Hg,.bool Hl,.string Ho,.string cn3]).cells;have bZ:Hid (Below w.heap.size w W):=by show Below _ _ _;rw[hW];exact zB _ _
 rw[<-hW] at hkc;obtain⟨B,hB⟩:=zE w.heap.size;rw[<-hB] at hkc;go_enter func67,ntmps67
 go_upto_region 1 with fail
 simp only[<-hW,<-hB]
 clear hW hB;go_wp2_with fail;refine (HU.out W).mono ?_;rintro e w5 ⟨rfl,hb5⟩;have lV:=zH (ah bZ.out hb5);clear hb5;go_wp2;go_ret;exact⟨rfl,lV.out⟩
theorem QN (x:Sc × Hd) (w:World):Calls prog 69 #[.agg (kG x).toArray] w fun e w'=>e=.returned (.bool (!dU x.1.aA x.1.days))/\Below w.heap.size w w':=by
 have HU:=zH (fun W=>wZ x.1.aA x.1.days W);generalize dU x.1.aA x.1.days=q at*;obtain⟨⟨nm,mo,da,br⟩,⟨ha,hn,hcc⟩⟩:=x;unfold kG;simp only at HU⊢;obtain⟨W,hW⟩:=zE (w.alloc (.cells #[.string nm,.int .i64 mo,.int .i64 da,.slice ha hn hcc] 71));have hkc:=(aj.new w 71 #[.string nm,.int .i64 mo,.int .i64 da,.slice ha hn hcc]).cells;have bZ:Hid (Below w.heap.size w W):=by show Below _ _ _;rw[hW];exact zB _ _
 rw[<-hW] at hkc;obtain⟨B,hB⟩:=zE w.heap.size;rw[<-hB] at hkc;go_enter func69,ntmps69
 go_upto_region 1 with fail
 simp only[<-hW,<-hB]
 clear hW hB;go_wp2_with fail;refine (HU.out W).mono ?_;rintro e w5 ⟨rfl,hb5⟩;have lV:=zH (ah bZ.out hb5);clear hb5;go_wp2;go_ret;exact⟨rfl,lV.out⟩
theorem Y3 (A:Option Addr) (c:Nat) (fv:Value) (w:World):Calls prog 63 #[.slice A 0 c,fv] w fun e w'=>e=.returned (.bool false)/\Below w.heap.size w w':=by
 have bZ:Hid (Below w.heap.size w w):=Below.refl _ _;go_enter func63,ntmps63;go_wp2
 go_loopg [8] 0 (fun g iv wr=>iv=.int .i64 0/\wr=w)
 case atStart=>exact⟨rfl,rfl⟩
 case round=>
  obtain⟨rfl,rfl⟩:=hrel;go_wp2;go_ret;exact⟨rfl,bZ.out⟩
theorem abt (xs:List (Dc)) (h:Hd) (w:World) (hr:dB w Dc.cells xs h):
  Calls prog 63 #[.slice h.a h.n h.c,.func (.func 64) #[] #[]] w fun e w'=>e=.returned (.bool (xs.any fun x=> !aN x.ty))/\Below w.heap.size w w':=by
 by_cases h0:h.n=0
 ·have hx:xs=[]:=eq_nil_of_length_eq_zero (by rw[<-hr.len];exact h0);subst hx;rw[h0];exact Y3 _ _ _ w
 ·have hlen:=hr.len;have hmx:=hr.max;have hcp:=hr.cap;obtain⟨b,off,hA,hb,_⟩:=Rd.row Dc.cells 4 (fun _=>rfl) (by omega) hr.rd (j:=0) (by omega);have eg:∀args w,(callFunc 64 args).run prog w=.ok (.enter 64 args) w:=enters_of func64 (by kernel_rfl) rfl;have hrd:=hr.rd;rw[hA] at hrd⊢
  letI:Inhabited (Dc):=⟨xs[0]'(by omega)⟩
  have hh:=AnyQ.slices_ContainsFunc Tryz.conD 4 isAgg53 sizeOf53 Dc.cells (fun _=>rfl) (fun x=> !aN x.ty) 64 #[] eg b off h.n h.c xs w
   (fun W x hW=>(QL x W).mono (fun e w' ⟨h1,h2⟩=>⟨h1,ah hW h2⟩)) (by omega) (by unfold maxLen at hmx;omega) hb (fun j hj i v hv=>by
     obtain⟨b',off',hA',hb',hc'⟩:=Rd.row Dc.cells 4 (fun _=>rfl) (by omega) hrd hj;injection hA' with hA';injection hA' with h1 h2;subst h1 h2;refine hc' i v ?_;have e:=getElem!_pos xs j hj;rw[e] at hv;exact hv)
  rw[take_of_length_le (by omega)] at hh;exact hh
theorem Y4 (A:Option Addr) (c:Nat) (fv:Value) (w:World):Calls prog 66 #[.slice A 0 c,fv] w fun e w'=>e=.returned (.bool false)/\Below w.heap.size w w':=by
 have bZ:Hid (Below w.heap.size w w):=Below.refl _ _;go_enter func66,ntmps66;go_wp2
 go_loopg [8] 0 (fun g iv wr=>iv=.int .i64 0/\wr=w)
 case atStart=>exact⟨rfl,rfl⟩
 case round=>
  obtain⟨rfl,rfl⟩:=hrel;go_wp2;go_ret;exact⟨rfl,bZ.out⟩
theorem abu (xs:List (Pv × Hd)) (h:Hd) (w:World) (hr:dB w cO xs h):
  Calls prog 66 #[.slice h.a h.n h.c,.func (.func 67) #[] #[]] w fun e w'=>e=.returned (.bool (xs.any fun x=> !aN x.1.ty))/\Below w.heap.size w w':=by
 by_cases h0:h.n=0
 ·have hx:xs=[]:=eq_nil_of_length_eq_zero (by rw[<-hr.len];exact h0);subst hx;rw[h0];exact Y4 _ _ _ w
 ·have hlen:=hr.len;have hmx:=hr.max;have hcp:=hr.cap;obtain⟨b,off,hA,hb,_⟩:=Rd.row cO 12 (fun _=>rfl) (by omega) hr.rd (j:=0) (by omega);have eg:∀args w,(callFunc 67 args).run prog w=.ok (.enter 67 args) w:=enters_of func67 (by kernel_rfl) rfl;have hrd:=hr.rd;rw[hA] at hrd⊢
  letI:Inhabited (Pv × Hd):=⟨xs[0]'(by omega)⟩
  have hh:=AnyQ.slices_ContainsFunc Tryz.conP 12 isAgg59 sizeOf59 cO (fun _=>rfl) (fun x=> !aN x.1.ty) 67 #[] eg b off h.n h.c xs w
   (fun W x hW=>(QM x W).mono (fun e w' ⟨h1,h2⟩=>⟨h1,ah hW h2⟩)) (by omega) (by unfold maxLen at hmx;omega) hb (fun j hj i v hv=>by
     obtain⟨b',off',hA',hb',hc'⟩:=Rd.row cO 12 (fun _=>rfl) (by omega) hrd hj;injection hA' with hA';injection hA' with h1 h2;subst h1 h2;refine hc' i v ?_;have e:=getElem!_pos xs j hj;rw[e] at hv;exact hv)
  rw[take_of_length_le (by omega)] at hh;exact hh
theorem Y5 (A:Option Addr) (c:Nat) (fv:Value) (w:World):Calls prog 68 #[.slice A 0 c,fv] w fun e w'=>e=.returned (.bool false)/\Below w.heap.size w w':=by
 have bZ:Hid (Below w.heap.size w w):=Below.refl _ _;go_enter func68,ntmps68;go_wp2
 go_loopg [8] 0 (fun g iv wr=>iv=.int .i64 0/\wr=w)
 case atStart=>exact⟨rfl,rfl⟩
 case round=>
  obtain⟨rfl,rfl⟩:=hrel;go_wp2;go_ret;exact⟨rfl,bZ.out⟩
theorem abv (xs:List (Sc × Hd)) (h:Hd) (w:World) (hr:dB w kG xs h):
  Calls prog 68 #[.slice h.a h.n h.c,.func (.func 69) #[] #[]] w fun e w'=>e=.returned (.bool (xs.any fun x=> !dU x.1.aA x.1.days))/\Below w.heap.size w w':=by
 by_cases h0:h.n=0
 ·have hx:xs=[]:=eq_nil_of_length_eq_zero (by rw[<-hr.len];exact h0);subst hx;rw[h0];exact Y5 _ _ _ w
 ·have hlen:=hr.len;have hmx:=hr.max;have hcp:=hr.cap;obtain⟨b,off,hA,hb,_⟩:=Rd.row kG 4 (fun _=>rfl) (by omega) hr.rd (j:=0) (by omega);have eg:∀args w,(callFunc 69 args).run prog w=.ok (.enter 69 args) w:=enters_of func69 (by kernel_rfl) rfl;have hrd:=hr.rd;rw[hA] at hrd⊢
  letI:Inhabited (Sc × Hd):=⟨xs[0]'(by omega)⟩
  have hh:=AnyQ.slices_ContainsFunc Tryz.conS 4 isAgg71 sizeOf71 kG (fun _=>rfl) (fun x=> !dU x.1.aA x.1.days) 69 #[] eg b off h.n h.c xs w
   (fun W x hW=>(QN x W).mono (fun e w' ⟨h1,h2⟩=>⟨h1,ah hW h2⟩)) (by omega) (by unfold maxLen at hmx;omega) hb (fun j hj i v hv=>by
     obtain⟨b',off',hA',hb',hc'⟩:=Rd.row kG 4 (fun _=>rfl) (by omega) hrd hj;injection hA' with hA';injection hA' with h1 h2;subst h1 h2;refine hc' i v ?_;have e:=getElem!_pos xs j hj;rw[e] at hv;exact hv)
  rw[take_of_length_le (by omega)] at hh;exact hh
theorem TG {α:Type} (p:α->Bool) (l:List α):(l.any fun x=> !p x)= !l.all p:=by
 induction l with
 |nil=>rfl
 |cons a l ih=>rw[any_cons,all_cons,ih,Bool.not_and]
theorem TI {α β:Type} (p:α->Bool) {l:List (α × β)} {l':List α} (h:l.map Prod.fst=l'):(l.any fun x=> !p x.1)= !l'.all p:=by
 subst h;rw[TG (fun x:α × β=>p x.1),all_map];rfl
theorem V4 (l:Lw) (ss:List (Sc × Hd)) (ps:List (Pv × Hd)) (f s p:Hd) (w:World) (h:iQ w l ss ps f s p):
  Calls prog 29 #[nD f s p] w fun e w'=>e=.returned (.bool (jQ l))/\Below w.heap.size w w':=by
 have HA:=zH (fun W hb=>abt l.facts f W (h.below (w':=W) hb).f);have HP:=zH (fun W hb=>abu ps p W (h.below (w':=W) hb).p);have HS:=zH (fun W hb=>abv ss s W (h.below (w':=W) hb).s)
 have HT:Hid (jQ l=(!(l.facts.any fun x=> !aN x.ty)&&(!(ps.any fun x=> !aN x.1.ty)&& !(ss.any fun x=> !dU x.1.aA x.1.days)))):=by
  show _=_;rw[TG (fun x:Dc=>aN x.ty),TI (fun x:Pv=>aN x.ty) h.pl,TI (fun x:Sc=>dU x.aA x.days) h.sl,Bool.not_not,Bool.not_not,Bool.not_not];rfl
 rw[HT.out];generalize (l.facts.any fun x=> !aN x.ty)=a at*;generalize (ps.any fun x=> !aN x.1.ty)=b at*;generalize (ss.any fun x=> !dU x.1.aA x.1.days)=c at*;clear HT h;obtain⟨fa,fn,fc⟩:=f;obtain⟨sa,sn,sc⟩:=s;obtain⟨pa,pn,pc⟩:=p;unfold nD;simp only at HA HP HS⊢;obtain⟨W,hW⟩:=zE (w.alloc (.cells #[.slice fa fn fc,.slice sa sn sc,.slice pa pn pc] 29));obtain⟨B,hB⟩:=zE w.heap.size;have HK:Hid (aj W B 29 [.slice fa fn fc,.slice sa sn sc,.slice pa pn pc]):=by show aj _ _ _ _;rw[hW,hB];exact aj.new w _ _
 have bZ:Hid (Below w.heap.size w W):=by show Below _ _ _;rw[hW];exact zB _ _
 have hkc:=HK.out.cells;cases a
 ·cases b
  ·go_enter func29,ntmps29
   go_upto_region 1 with fail
   simp only[<-hW,<-hB]
   clear hW hB;go_wp2_with fail;refine (HA.out W bZ.out).mono ?_;rintro e w5 ⟨rfl,hb5⟩;have ku:=zH (ah bZ.out hb5);have rG:=zH (HK.out.below hb5 HK.out.lt);have hk5:=rG.out.cells;clear hb5;go_wp2_with fail;refine (HP.out w5 ku.out).mono ?_;rintro e w6 ⟨rfl,hb6⟩;have uY:=zH (ah ku.out hb6);have hk6:=(rG.out.below hb6 rG.out.lt).cells;clear hb6;go_wp2_with fail;refine (HS.out w6 uY.out).mono ?_;rintro e w7 ⟨rfl,hb7⟩;have BZ:=zH (ah uY.out hb7);clear hb7;go_wp2;go_ret;exact⟨by simp,BZ.out⟩
  ·go_enter func29,ntmps29
   go_upto_region 1 with fail
   simp only[<-hW,<-hB]
   clear hW hB;go_wp2_with fail;refine (HA.out W bZ.out).mono ?_;rintro e w5 ⟨rfl,hb5⟩;have ku:=zH (ah bZ.out hb5);have rG:=zH (HK.out.below hb5 HK.out.lt);have hk5:=rG.out.cells;clear hb5;go_wp2_with fail;refine (HP.out w5 ku.out).mono ?_;rintro e w6 ⟨rfl,hb6⟩;have uY:=zH (ah ku.out hb6);clear hb6;go_wp2;go_ret;exact⟨by simp,uY.out⟩
 ·go_enter func29,ntmps29
  go_upto_region 1 with fail
  simp only[<-hW,<-hB]
  clear hW hB;go_wp2_with fail;refine (HA.out W bZ.out).mono ?_;rintro e w5 ⟨rfl,hb5⟩;have ku:=zH (ah bZ.out hb5);clear hb5;go_wp2;go_ret;exact⟨by simp,ku.out⟩
theorem I8 (sg:List Sg) (x:Pv × Hd) (A1:Option Addr) (k1 c1:Nat) (w:World) (hL:bT w) (hk1:k1=sg.length) (hm1:k1<=maxLen) (hr1:Rd w A1 (D7 sg)) (hb:dB w Nd.cells x.1.body x.2) (hs:dA x.1.step) (hc:dA x.1.cap) (hf:∀n∈x.1.body,Fine n):
  Calls prog 31 #[.slice A1 k1 c1,.agg (cO x).toArray] w fun e w'=>e=.returned (.int .i64 (iJ sg x.1))/\Below w.heap.size w w':=by
 have HT:=zH (fun W (h:Below w.heap.size w W)=>YL sg x.1.body A1 x.2.a k1 c1 x.2.n x.2.c W (hL.below h) hk1 hm1 (hr1.below h) ⟨(hb.below h).len,(hb.below h).cap,(hb.below h).max,(hb.below h).rd⟩ hf);have HPL:=zH (fun W=>G9 x W);have yA:=zH (fun W=>QI x W hs hc);have HL:Hid (∀W,Below w.heap.size w W->bT W):=fun W hb=>hL.below hb
 have yh:Hid ((gU sg x.1.body).2≠0->iJ sg x.1=(gU sg x.1.body).2):=fun h=>by unfold iJ;rw[if_pos h]
 have DU:Hid ((gU sg x.1.body).2=0->decide ((gU sg x.1.body).1=x.1.ty)=false->iJ sg x.1=13):=fun h h2=>by unfold iJ;rw[if_neg (by rw[h];simp),if_pos (of_decide_eq_false h2)]
 have KH:Hid ((gU sg x.1.body).2=0->decide ((gU sg x.1.body).1=x.1.ty)=true->iJ sg x.1=if (x.1.fH&& !decide ((gU sg x.1.body).1=aV))||(!dX x.1&& !iO x.1) then 1 else 0):=fun h h2=>by
  have e:=of_decide_eq_true h2;unfold iJ;rw[if_neg (by rw[h];simp),if_neg (by rw[e];simp),e];congr 3;rw[decide_not]
 have Ai:=fun W=>Bj (gU sg x.1.body).1 x.1.ty W
 have HNC:=fun W=>Bj (gU sg x.1.body).1 aV W
 generalize iJ sg x.1=R at*;generalize gU sg x.1.body=te at*;generalize dX x.1=pl at*;generalize iO x.1=cp at*;clear hL hk1 hm1 hr1 hb hs hc hf;obtain⟨te,z⟩:=te;simp only at HT yh DU KH Ai HNC;generalize decide (te=x.1.ty)=q1 at*;generalize decide (te=aV)=q2 at*;obtain⟨et,em,ed⟩:=te;obtain⟨⟨nm,⟨tt,tm,td⟩,ch,⟨He,Hf,Hg⟩,⟨Hl,Ho,cn3⟩,bo⟩,⟨ha,hn,hcc⟩⟩:=x;unfold cO at HPL yA⊢;simp only[Ty.v,aV] at HT Ai HNC HPL yA KH⊢;obtain⟨W,hW⟩:=zE (w.alloc (.cells #[.string nm,.bool tt,.int .i64 tm,.int .i64 td,.slice ha hn hcc,.bool ch,.bool He,.string Hf,.string Hg,.bool Hl,.string Ho,.string cn3] 59));obtain⟨B,hB⟩:=zE w.heap.size;have HK:Hid (aj W B 59 [.string nm,.bool tt,.int .i64 tm,.int .i64 td,.slice ha hn hcc,.bool ch,.bool He,.string Hf,.string Hg,.bool Hl,.string Ho,.string cn3]):=by show aj _ _ _ _;rw[hW,hB];exact aj.new w _ _
 have bZ:Hid (Below w.heap.size w W):=by show Below _ _ _;rw[hW];exact zB _ _
 have hkc:=HK.out.cells;go_enter func31,ntmps31
 go_upto_region 1 with fail
 simp only[<-hW,<-hB]
 clear hW hB;go_wp2_with fail;refine (HT.out W bZ.out).mono ?_;rintro e w5 ⟨rfl,hb5⟩;have ku:=zH (ah bZ.out hb5);have rG:=zH (HK.out.below hb5 HK.out.lt);clear hb5 hkc HT
 go_upto_region 2 with fail
 obtain⟨w6,hw6⟩:∃x,x=w5.alloc (.cells #[.bool et,.int .i64 em,.int .i64 ed] 51):=⟨_,rfl⟩
 obtain⟨N,hN⟩:=zE w5.heap.size;have HKN:Hid (aj w6 N 51 [.bool et,.int .i64 em,.int .i64 ed]):=by show aj _ _ _ _;rw[hw6,hN];exact aj.new _ _ _
 have Pg:Hid (aj w6 B 59 [.string nm,.bool tt,.int .i64 tm,.int .i64 td,.slice ha hn hcc,.bool ch,.bool He,.string Hf,.string Hg,.bool Hl,.string Ho,.string cn3]):=by show aj _ _ _ _;rw[hw6];exact rG.out.alloc _
 have uY:Hid (Below w.heap.size w w6):=by show Below _ _ _;rw[hw6];exact ah ku.out (zB _ _)
 simp only[<-hw6,<-hN]
 clear hw6 hN;have hkn:=HKN.out.cells;have hk6:=Pg.out.cells;have g0:=(HL.out _ uY.out).U5 0 _ rfl;have g1:=(HL.out _ uY.out).U5 1 _ rfl;have g2:=(HL.out _ uY.out).U5 2 _ rfl;unfold aV at g0 g1 g2;simp only at g0 g1 g2;by_cases hz:z=0
 ·subst hz;cases q1
  ·obtain rfl:R=13:=DU.out rfl rfl;go_wp2;go_ret;exact⟨rfl,uY.out⟩
  ·have hv3:=KH.out rfl rfl;clear yh DU KH;by_cases h1:(ch&& !q2)=true
   ·obtain⟨rfl,h2⟩:=Bool.and_eq_true_iff.1 h1;obtain rfl:q2=false:=by simpa using h2
    obtain rfl:R=1:=hv3;clear h1 h2;go_wp2;go_ret;exact⟨rfl,uY.out⟩
   ·have h1':(ch&& !q2)=false:=by simpa using h1
    rw[h1',Bool.false_or] at hv3;have HV:=zH hv3;clear h1 hv3;have HX:Hid (∀W',Below w.heap.size w W'->True):=fun _ _=>trivial
    go_upto_region 6 with fail
    go_cut [23] from 24 to 30 (fun v wc=>v=.bool false/\wc=w6)
    case first=>
     cases ch
     ·go_wp2
      go_meet
      case rel=>exact⟨rfl,rfl⟩
     ·obtain rfl:q2=true:=by simpa using h1'
      go_wp2
      go_meet
      case rel=>exact⟨rfl,rfl⟩
    case rest=>
     obtain⟨rfl,rfl⟩:=hcut;clear h1';go_wp2_with fail;refine (HPL.out _).mono ?_;rintro e w7 ⟨rfl,hb7⟩;have BZ:=zH (ah uY.out hb7);have hk7:=(Pg.out.below hb7 Pg.out.lt).cells;clear hb7;cases pl
     ·go_wp2_with fail;refine (yA.out _).mono ?_;rintro e w8 ⟨rfl,hb8⟩;have Y6:=zH (ah BZ.out hb8);clear hb8;cases cp
      ·obtain rfl:R=1:=HV.out;go_wp2;go_ret;exact⟨rfl,Y6.out⟩
      ·obtain rfl:R=0:=HV.out;go_wp2;go_ret;exact⟨rfl,Y6.out⟩
     ·obtain rfl:R=0:=HV.out;go_wp2;go_ret;exact⟨rfl,BZ.out⟩
 ·obtain rfl:R=z:=yh.out hz;have hzb:(R !=0)=true:=by simp[hz]
  have hzc:(R==0)=false:=by simp[hz]
  clear yh DU KH hz;go_wp2;go_ret;exact⟨rfl,uY.out⟩
theorem info_sig:(prog.info? 67).map (fun i=>(i.zero,i.size,i.bytes))=some (some (.agg #[.int .i64 0,.string ⟨#[]⟩,.bool false,.int .i64 0,.int .i64 0]),5,48):=by kernel_rfl
theorem OV {α β:Type} (f:α->β) {l:List α} {k:Nat} (hk:k<l.length):(l.take (k+1)).map f=(l.take k).map f++[f l[k]]:=by
 rw[take_succ_eq_append_getElem hk,map_append];rfl
def opsL (ps:List (Pv × Hd)) (r:Nat):List Sg:=(List.range r).flatMap fun q:Nat=>ps.map fun x=>jd (6+(q:Int)) x.1
theorem opsL_succ (ps:List (Pv × Hd)) (r:Nat):opsL ps (r+1)=opsL ps r++ps.map fun x=>jd (6+(r:Int)) x.1:=by
 unfold opsL;rw[range_succ,flatMap_append];simp
theorem opsL_len (ps:List (Pv × Hd)) (r:Nat):(opsL ps r).length=r*ps.length:=by
 induction r with
 |zero=>unfold opsL;simp
 |succ r ih=>rw[opsL_succ,length_append,ih,length_map,Nat.succ_mul]
theorem sigsL_eq {l:Lw} {ss:List (Sc × Hd)} {ps:List (Pv × Hd)} (hs:ss.map Prod.fst=l.aH) (hp:ps.map Prod.fst=l.ay):dO l=l.facts.map oM++opsL ps 3++ss.map fun x=>oN x.1:=by
 unfold dO opsL;rw[<-hs,<-hp];simp[range_succ,flatMap_cons,Function.comp_def]
structure SLq (z:Nat) (W X:World) (v:Value) (xs:List Sg):Prop where
 o:X.ownsRow z 67 5 v xs.length (D7 xs)
 bl:Below z W X
 s:z<=X.heap.size
theorem SLq.next {z:Nat} {W X X1 Y:World} {v v':Value} {xs:List Sg} (g:Sg) (h:SLq z W X v xs) (hb:Below X.heap.size X X1) (ho:Y.ownsRow z 67 5 v' (xs.length+1) (D7 xs++g.cells)) (hb':Below z X1 Y):SLq z W Y v' (xs++[g]):=
 ⟨by rw[VN,length_append,show D7 [g]=g.cells from append_nil _];exact ho,(h.bl.trans (hb.mono h.s)).trans hb',Nat.le_trans (Nat.le_trans h.s hb.size) hb'.size⟩
theorem Y7 (l:Lw) (ss:List (Sc × Hd)) (ps:List (Pv × Hd)) (f s p:Hd) (w:World) (h:iQ w l ss ps f s p) (hf:lW l):
  Calls prog 17 #[nD f s p] w fun e w'=>∃h:Hd,e=.returned (.slice h.a h.n h.c)/\dB w' Sg.cells (dO l) h/\Below w.heap.size w w':=by
 obtain⟨fa,fn,fc⟩:=f;obtain⟨sa,sn,sc⟩:=s;obtain⟨pa,pn,pc⟩:=p;have HF:Hid (fn=l.facts.length/\fn<=1000):=⟨h.f.len,by rw[show fn=l.facts.length from h.f.len];exact hf.fn⟩
 have HS:Hid (sn=ss.length/\sn<=1000):=⟨h.s.len,by have a:=h.s.len;have b:=congrArg List.length h.sl;have c:=hf.sn;rw[length_map] at b;simp only at a;omega⟩
 have HP:Hid (pn=ps.length/\pn<=1000):=⟨h.p.len,by have a:=h.p.len;have b:=congrArg List.length h.pl;have c:=hf.pn;rw[length_map] at b;simp only at a;omega⟩
 rw[sigsL_eq h.sl h.pl];have rO:=zH h;clear h hf;unfold nD;simp only
 go_enter func17,ntmps17
 go_upto_region 1 with fail
 generalize hX:w.alloc _=W;obtain⟨kL,hb0⟩:=zA hX;have hcL:=fun Y (hY:Below W.heap.size W Y)=>(kL.below hY kL.lt).cells
 clear hX kL;have kQ:=fun Y (hY:Below W.heap.size W Y)=>rO.out.below (ah hb0 hY)
 have hbz:=fun Y (hY:Below W.heap.size W Y)=>ah hb0 hY
 have hc0:=hcL W (Below.refl _ _);have K:SLq W.heap.size W W (.slice none 0 0) []:=⟨ownsRow_nil _ _ _ _,Below.refl _ _,Nat.le_refl _⟩
 generalize W.heap.size=z at K hcL kQ hbz;go_wp2_with fail
 go_loopg [2,14] fn (fun q ov iv X=>∃j:Nat,j+q=fn/\iv=.int .i64 j/\SLq z W X ov ((l.facts.take j).map oM))
 case atStart=>exact⟨0,by omega,rfl,K⟩
 case round=>
  clear K hc0;obtain⟨j,hj,rfl,K⟩:=hrel;by_cases hlt:j<fn
  ·obtain⟨b,off,nm,t,m,d,rfl,_,hx,hxe,hc⟩:=acX (kQ wr K.bl).f hlt;have hc:=hc wr (Below.refl _ _);have ht:=OV oM hx;rw[hxe] at ht;have hn:=HF.out.2;have hl:((l.facts.take j).map oM).length<=1000:=by rw[length_map,length_take];omega
   generalize hxs:(l.facts.take j).map oM=xs at K hl;have HX:=zH hxs;clear hxs;have j0:(0:Int)<=(j:Int):=by omega
   have j1:(j:Int)<(fn:Int):=by omega
   clear hxe
   go_upto_region 4 with fail
   generalize hX:wr.alloc _=X1;obtain⟨k4,hb⟩:=zA hX;have h4:=k4.cells;clear hX hc k4;go_wp2_with (at_builtin;go_must (refine zP info_sig underlying46 (own_below K.o hb) (by omega) (Nat.le_trans K.s hb.size) ?_));intro v' w' ho hb';have K:=K.next ⟨5,nm,t,m,d⟩ hb ho hb'
   clear h4 ho hb hb';go_wp2
   go_roundg (fn-(j+1))
   case measure=>omega
   case rel=>exact⟨j+1,by omega,by go_num,by rw[ht,HX.out];exact K⟩
  ·obtain rfl:j=fn:=by omega
   rw[take_of_length_le (Nat.le_of_eq HF.out.1.symm)] at K;have hc0:=hcL wr K.bl;clear hj hlt;go_wp2_with fail
   go_loopg [2,28] 3 (fun q ov iv X=>∃r:Nat,r+q=3/\iv=.int .i64 r/\SLq z W X ov (l.facts.map oM++opsL ps r))
   case atStart=>exact⟨0,by omega,rfl,by rw[show opsL ps 0=[] from rfl,append_nil];exact K⟩
   case round=>
    clear K hc0;obtain⟨r,hr,rfl,K⟩:=hrel;have hc0:=hcL wr K.bl;by_cases hlt:r<3
    ·have hr3:r=0∨r=1∨r=2:=by omega
     go_upto_region 8 with fail
     go_cut [6] from 30 to 30 (fun v wc=>v=.int .i64 (6+(r:Int))/\wc=wr)
     case first=>
      have hix:∀W,(Instr.index 23 (.agg #[.int .i64 6,.int .i64 7,.int .i64 8]) (.int .i64 (r:Int))).run prog W=.ok (.int .i64 (6+(r:Int))) W:=fun W=>by rcases hr3 with rfl|rfl|rfl<;>kernel_rfl
      go_wp2
      go_meet
      case rel=>exact⟨rfl,rfl⟩
     case rest=>
      obtain⟨rfl,rfl⟩:=hcut
      have hrp:(l.facts.map oM++opsL ps r).length<=4000:=by
       have:=Nat.mul_le_mul (show r<=3 by omega) HP.out.2;rw[length_append,length_map,opsL_len,<-HF.out.1,<-HP.out.1];have:=HF.out.2;omega
      clear hr3;have hd3:decide ((r:Int)<3)=true:=decide_eq_true (by omega);simp only[hd3]
      go_wp2_with fail
      go_loopg [2,34] pn (fun q ov iv X=>∃j:Nat,j+q=pn/\iv=.int .i64 j/\SLq z W X ov ((l.facts.map oM++opsL ps r)++(ps.take j).map (fun x=>jd (6+(r:Int)) x.1)))
      case atStart=>exact⟨0,by omega,rfl,by rw[take_zero,map_nil,append_nil];exact K⟩
      case round=>
       clear K hc0;obtain⟨j,hj,rfl,K⟩:=hrel;by_cases hlt:j<pn
       ·obtain⟨b,off,y,rfl,_,hx,hxe,hc⟩:=acZ (kQ wr K.bl).p hlt;have hc:=hc wr (Below.refl _ _);have ht:=OV (fun x=>jd (6+(r:Int)) x.1) hx;rw[hxe] at ht;have hn:=HP.out.2;have hl:((l.facts.map oM++opsL ps r)++(ps.take j).map fun x=>jd (6+(r:Int)) x.1).length<=5000:=by rw[length_append,length_map,length_take];omega
        generalize hxs:(l.facts.map oM++opsL ps r)++(ps.take j).map (fun x=>jd (6+(r:Int)) x.1)=xs at K hl;have HX:=zH hxs;clear hxs;have j0:(0:Int)<=(j:Int):=by omega
        have j1:(j:Int)<(pn:Int):=by omega
        clear hxe
        go_upto_region 12 with fail
        generalize hX:wr.alloc _=X1;obtain⟨k4,hb⟩:=zA hX;have h4:=k4.cells;clear hX hc k4;go_wp2_with (at_builtin;go_must (refine zP info_sig underlying46 (own_below K.o hb) (by omega) (Nat.le_trans K.s hb.size) ?_));intro v' w' ho hb';have K:=K.next ⟨6+(r:Int),y.1.name,y.1.ty⟩ hb ho hb'
        clear h4 ho hb hb';go_wp2
        go_roundg (pn-(j+1))
        case measure=>omega
        case rel=>exact⟨j+1,by omega,by go_num,by rw[ht,<-append_assoc,HX.out];exact K⟩
       ·obtain rfl:j=pn:=by omega
        rw[take_of_length_le (Nat.le_of_eq HP.out.1.symm)] at K;have hc0:=hcL wr K.bl;clear hj hlt;go_wp2
        go_roundg (3-(r+1))
        case measure=>omega
        case rel=>exact⟨r+1,by omega,by go_num,by rw[opsL_succ,<-append_assoc];exact K⟩
    ·obtain rfl:r=3:=by omega
     have hrp:(l.facts.map oM++opsL ps 3).length<=4000:=by
      rw[length_append,length_map,opsL_len,<-HF.out.1,<-HP.out.1];have:=HF.out.2;have:=HP.out.2;omega
     clear hr hlt;go_wp2_with fail
     go_loopg [2,52] sn (fun q ov iv X=>∃j:Nat,j+q=sn/\iv=.int .i64 j/\SLq z W X ov ((l.facts.map oM++opsL ps 3)++(ss.take j).map (fun x=>oN x.1)))
     case atStart=>exact⟨0,by omega,rfl,by rw[take_zero,map_nil,append_nil];exact K⟩
     case round=>
      clear K hc0;obtain⟨j,hj,rfl,K⟩:=hrel;by_cases hlt:j<sn
      ·obtain⟨b,off,nm,m,d,bs,hh,rfl,_,hx,hxe,hc⟩:=acY (kQ wr K.bl).s hlt;have hc:=hc wr (Below.refl _ _);have ht:=OV (fun x=>oN x.1) hx;rw[hxe] at ht;have hn:=HS.out.2;have hl:((l.facts.map oM++opsL ps 3)++(ss.take j).map fun x=>oN x.1).length<=5000:=by rw[length_append,length_map,length_take];omega
       generalize hxs:(l.facts.map oM++opsL ps 3)++(ss.take j).map (fun x=>oN x.1)=xs at K hl;have HX:=zH hxs;clear hxs;have j0:(0:Int)<=(j:Int):=by omega
       have j1:(j:Int)<(sn:Int):=by omega
       clear hxe
       go_upto_region 18 with fail
       generalize hX:wr.alloc _=X1;obtain⟨k4,hb⟩:=zA hX;have h4:=k4.cells;clear hX hc k4;go_wp2_with (at_builtin;go_must (refine zP info_sig underlying46 (own_below K.o hb) (by omega) (Nat.le_trans K.s hb.size) ?_));intro v' w' ho hb';have K:=K.next ⟨24,nm,false,m,d⟩ hb ho hb'
       clear h4 ho hb hb';go_wp2
       go_roundg (sn-(j+1))
       case measure=>omega
       case rel=>exact⟨j+1,by omega,by go_num,by rw[ht,<-append_assoc,HX.out];exact K⟩
      ·obtain rfl:j=sn:=by omega
       rw[take_of_length_le (Nat.le_of_eq HS.out.1.symm)] at K;have hc0:=hcL wr K.bl;clear hj hlt;obtain⟨y,rfl,_,hy⟩:=dB.BO (enc:=Sg.cells) K.o rfl;have hb:=hbz wr K.bl;clear K hc0;go_wp2;go_ret;exact⟨y,rfl,hy,hb⟩
def dY:List Int->Int
 |[]=>0
 |z::r=>if z=0 then dY r else z
def aT (l:Lw):Int:=if 20<l.facts.length∨8<l.aH.length∨30<l.ay.length then 2 else if jF l≠0 then jF l else if jQ l=false then 13 else
 if dY (l.aH.map fun s=>eY s.bJ)≠0 then dY (l.aH.map fun s=>eY s.bJ) else dY (l.ay.map (iJ (dO l)))
theorem nT (z:Int) (r:List Int):dY (z::r)=if z=0 then dY r else z:=rfl
theorem vC (l:Lw) (ss:List (Sc × Hd)) (ps:List (Pv × Hd)) (f s p:Hd) (w:World) (hL:bT w) (h:iQ w l ss ps f s p) (hf:lW l):
  Calls prog 9 #[nD f s p] w fun e w'=>e=.returned (.int .i64 (aT l))/\Below w.heap.size w w':=by
 have HNA:=zH (fun W hb=>VZ l ss ps f s p W (hL.below hb).e (h.below hb) hf);have Kz:=zH (fun W hb=>V4 l ss ps f s p W (h.below hb));have HSI:=zH (fun W hb=>Y7 l ss ps f s p W (h.below hb) hf);have HL:Hid (∀W,Below w.heap.size w W->bT W):=fun W hb=>hL.below hb
 have rO:=zH h;have HF:=zH hf;obtain⟨R,hR⟩:=zE (aT l);have TJ:Hid (f.n=l.facts.length):=h.f.len;have O8:Hid (s.n=l.aH.length):=by show _=_;rw[<-h.sl,length_map];exact h.s.len
 have wJ:Hid (p.n=l.ay.length):=by show _=_;rw[<-h.pl,length_map];exact h.p.len
 have HVM:Hid (20<f.n∨8<s.n∨30<p.n->R=2):=fun h=>by rw[hR];unfold aT;rw[TJ.out,O8.out,wJ.out] at h;rw[if_pos h]
 have HVN:Hid (¬(20<f.n∨8<s.n∨30<p.n)->R=if jF l≠0 then jF l else if jQ l=false then 13 else if dY (l.aH.map fun s=>eY s.bJ)≠0 then dY (l.aH.map fun s=>eY s.bJ) else dY (l.ay.map (iJ (dO l)))):=fun h=>by
  rw[hR];unfold aT;rw[TJ.out,O8.out,wJ.out] at h;rw[if_neg h]
 have HFX:Hid (∀k (hk:k<l.aH.length) (hk':k<ss.length),l.aH[k]=ss[k].1):=fun k hk hk'=>by have e:=h.sl;simp[<-e]
 have HPX:Hid (∀k (hk:k<l.ay.length) (hk':k<ps.length),l.ay[k]=ps[k].1):=fun k hk hk'=>by have e:=h.pl;simp[<-e]
 rw[<-hR];generalize jQ l=ty at*;generalize jF l=nz at*;clear hL h hf hR;obtain⟨fa,fn,fc⟩:=f;obtain⟨sa,sn,sc⟩:=s;obtain⟨pa,pn,pc⟩:=p;unfold nD at HNA Kz HSI⊢;simp only at HNA Kz HSI TJ O8 wJ HVM HVN⊢;obtain⟨W,hW⟩:=zE (w.alloc (.cells #[.slice fa fn fc,.slice sa sn sc,.slice pa pn pc] 29));obtain⟨B,hB⟩:=zE w.heap.size;have HK:Hid (aj W B 29 [.slice fa fn fc,.slice sa sn sc,.slice pa pn pc]):=by show aj _ _ _ _;rw[hW,hB];exact aj.new w _ _
 have bZ:Hid (Below w.heap.size w W):=by show Below _ _ _;rw[hW];exact zB _ _
 have hkc:=HK.out.cells;by_cases hm:20<fn∨8<sn∨30<pn
 ·obtain rfl:R=2:=HVM.out hm;go_enter func9,ntmps9
  go_upto_region 1 with fail
  simp only[<-hW,<-hB]
  clear hW hB;by_cases h1:20<fn
  ·go_wp2;go_ret;exact⟨rfl,bZ.out⟩
  by_cases h2:8<sn
  ·go_wp2;go_ret;exact⟨rfl,bZ.out⟩
  have h3:30<pn:=by omega
  clear hm;go_wp2;go_ret;exact⟨rfl,bZ.out⟩
 have hv:=HVN.out hm;have h1:¬20<fn:=fun h=>hm (.inl h)
 have h2:¬8<sn:=fun h=>hm (.inr (.inl h))
 have h3:¬30<pn:=fun h=>hm (.inr (.inr h))
 have HV:=zH hv;clear hm HVM HVN hv;go_enter func9,ntmps9
 go_upto_region 1 with fail
 simp only[<-hW,<-hB]
 clear hW hB;go_wp2_with fail;refine (HNA.out W bZ.out).mono ?_;rintro e w5 ⟨rfl,hb5⟩;have ku:=zH (ah bZ.out hb5);have rG:=zH (HK.out.below hb5 HK.out.lt);have hk5:=rG.out.cells;clear hb5 HNA hkc;by_cases hz:nz=0;rotate_left
 ·obtain rfl:R=nz:=by rw[HV.out,if_pos hz]
  have hzb:(R !=0)=true:=by simp[hz]
  have hzc:(R==0)=false:=by simp[hz]
  clear HV;go_wp2;go_ret;exact⟨rfl,ku.out⟩
 subst hz;go_wp2_with fail;refine (Kz.out w5 ku.out).mono ?_;rintro e w6 ⟨rfl,hb6⟩;have uY:=zH (ah ku.out hb6);have Pg:=zH (rG.out.below hb6 rG.out.lt);have hk6:=Pg.out.cells;clear hb6 Kz hk5;cases ty
 ·obtain rfl:R=13:=by rw[HV.out];simp
  clear HV;go_wp2;go_ret;exact⟨rfl,uY.out⟩
 have DU:Hid (R=if dY (l.aH.map fun s=>eY s.bJ)≠0 then dY (l.aH.map fun s=>eY s.bJ) else dY (l.ay.map (iJ (dO l)))):=by show _=_;rw[HV.out];simp
 clear HV;go_wp2_with fail
 go_loopg [38] sn (fun g iv wr=>∃j:Nat,j+g=sn/\iv=.int .i64 j/\Hid (dY (l.aH.map fun s=>eY s.bJ)=dY ((l.aH.drop j).map fun s=>eY s.bJ))/\Hid (Below w.heap.size w wr)/\Hid (aj wr B 29 [.slice fa fn fc,.slice sa sn sc,.slice pa pn pc]))
 case atStart=>exact⟨0,by omega,rfl,rfl,uY,Pg⟩
 case round=>
  obtain⟨j,hj,rfl,hfe,hbr,hkr⟩:=hrel;by_cases hlt:j<sn
  ·have FN:j<l.aH.length:=by rw[<-O8.out];exact hlt
   have hjm:j<ss.length:=by rw[<-rO.out.s.len];exact hlt
   obtain⟨b,off,hA,hb,hc⟩:=Rd.row kG 4 (fun _=>rfl) (by omega) (rO.out.s.below hbr.out).rd hjm;have hrow:=(rO.out.sb _ (getElem_mem hjm)).below hbr.out;have hfin:=HF.out.sb _ (getElem_mem FN);have xR:=hfe.out;rw[drop_eq_getElem_cons FN,map_cons,nT] at xR;rw[HFX.out j FN hjm] at xR hfin;simp only at hA;subst hA;generalize ss[j]=x at*;obtain⟨⟨nm,mo,da,br⟩,⟨ha,hn,hcc⟩⟩:=x;simp only at hrow hfin xR;have HRC:=zH (fun W (hb:Below wr.heap.size wr W)=>VL nm mo da br ha hn hcc W (hrow.below hb).len (Nat.le_trans hrow.cap hrow.max) (hrow.below hb).rd hfin);have c0:=hc 0 _ rfl;have c1:=hc 1 _ rfl;have c2:=hc 2 _ rfl;have c3:=hc 3 _ rfl;simp only[Nat.add_zero] at c0;generalize eY br=z at*;have KI:=zH xR;have hba:=(Below.refl wr.heap.size wr).alloc (Nat.le_refl _) (.cells #[.string nm,.int .i64 mo,.int .i64 da,.slice ha hn hcc] 71);have Aj:=zH hba;clear hc hrow hfin xR hfe hba;go_wp2_with fail;refine (HRC.out _ Aj.out).mono ?_;rintro e w7 ⟨rfl,hb7⟩;have BZ:=zH (ah hbr.out (ah Aj.out hb7));have HK7:=zH (hkr.out.below (ah Aj.out hb7) hkr.out.lt);clear hb7 c0 c1 c2 c3 hbr hkr;by_cases hz:z=0
   ·subst hz;have abw:Hid (dY (l.aH.map fun s=>eY s.bJ)=dY ((l.aH.drop (j+1)).map fun s=>eY s.bJ)):=by show _=_;rw[KI.out,if_pos rfl]
    go_wp2
    go_roundg (sn-(j+1))
    case measure=>omega
    case rel=>exact⟨j+1,by omega,by go_num,abw,BZ,HK7⟩
   ·obtain rfl:R=z:=by rw[DU.out,KI.out,if_neg hz,if_pos hz]
    have hzb:(R !=0)=true:=by simp[hz]
    have hzc:(R==0)=false:=by simp[hz]
    clear DU KI;go_wp2;go_ret;exact⟨rfl,BZ.out⟩
  ·have hjn:j=sn:=by omega
   have hv3:R=dY (l.ay.map (iJ (dO l))):=by
    rw[DU.out,hfe.out,hjn,O8.out,drop_length];rfl
   have KH:=zH hv3;have amD:=hkr.out.cells;have kU:=hbr;clear hv3 DU hfe hjn Pg uY hk6;go_wp2_with fail;refine (HSI.out wr hbr.out).mono ?_;rintro e w7 ⟨hg,rfl,hgr,hb7⟩;have BZ:=zH (ah kU.out hb7);have HK7:=zH (hkr.out.below hb7 hkr.out.lt);have hk7:=HK7.out.cells;obtain⟨ga,gn,gc⟩:=hg;have Hu:=zH hgr;clear hb7 hgr hbr hkr amD;simp only at Hu⊢;go_wp2_with fail
   go_loopg [53] pn (fun g iv wr=>∃j:Nat,j+g=pn/\iv=.int .i64 j/\Hid (R=dY ((l.ay.drop j).map (iJ (dO l))))/\Hid (Below w7.heap.size w7 wr))
   case atStart=>exact⟨0,by omega,rfl,KH,Below.refl _ _⟩
   case round=>
    obtain⟨j,hj,rfl,hfe,hbr⟩:=hrel;clear KH;by_cases hlt:j<pn
    ·have FN:j<l.ay.length:=by rw[<-wJ.out];exact hlt
     have hjm:j<ps.length:=by rw[<-rO.out.p.len];exact hlt
     have hbw:=ah BZ.out hbr.out;obtain⟨b,off,hA,hb,hc⟩:=Rd.row cO 12 (fun _=>rfl) (by omega) (rO.out.p.below hbw).rd hjm;have hrow:=(rO.out.pb _ (getElem_mem hjm)).below hbw;have hfin:=HF.out.pb _ (getElem_mem FN);have xR:=hfe.out;rw[drop_eq_getElem_cons FN,map_cons,nT] at xR;rw[HPX.out j FN hjm] at xR hfin;simp only at hA;subst hA;generalize ps[j]=x at*;have HPV:=zH (fun W (hb:Below wr.heap.size wr W)=>I8 (dO l) x ga gn gc W (HL.out _ (ah hbw hb)) Hu.out.len (Nat.le_trans Hu.out.cap Hu.out.max) (Hu.out.below (ah hbr.out hb)).rd (hrow.below hb) hfin.1 hfin.2.1 hfin.2.2);generalize iJ (dO l) x.1=z at*;obtain⟨⟨nm,⟨tt,tm,td⟩,ch,⟨He,Hf,Hg⟩,⟨Hl,Ho,cn3⟩,bo⟩,⟨ha,hn,hcc⟩⟩:=x;unfold cO at HPV;simp only at HPV;have c0:=hc 0 _ rfl;have c1:=hc 1 _ rfl;have c2:=hc 2 _ rfl;have c3:=hc 3 _ rfl;have c4:=hc 4 _ rfl;have c5:=hc 5 _ rfl;have c6:=hc 6 _ rfl;have c7:=hc 7 _ rfl;have c8:=hc 8 _ rfl;have c9:=hc 9 _ rfl;have c10:=hc 10 _ rfl;have c11:=hc 11 _ rfl;simp only[Nat.add_zero] at c0;have KI:=zH xR;have hba:=(Below.refl wr.heap.size wr).alloc (Nat.le_refl _) (.cells #[.string nm,.bool tt,.int .i64 tm,.int .i64 td,.slice ha hn hcc,.bool ch,.bool He,.string Hf,.string Hg,.bool Hl,.string Ho,.string cn3] 59);have Aj:=zH hba;clear hc hrow hfin xR hfe hba hbw;go_wp2_with fail;refine (HPV.out _ Aj.out).mono ?_;rintro e w8 ⟨rfl,hb8⟩;have Y6:=zH (ah hbr.out (ah Aj.out hb8));clear hb8 c0 c1 c2 c3 c4 c5 c6 c7 c8 c9 c10 c11 hbr;by_cases hz:z=0
     ·subst hz;have abw:Hid (R=dY ((l.ay.drop (j+1)).map (iJ (dO l)))):=by show _=_;rw[KI.out,if_pos rfl]
      clear KI;go_wp2
      go_roundg (pn-(j+1))
      case measure=>omega
      case rel=>exact⟨j+1,by omega,by go_num,abw,Y6⟩
     ·obtain rfl:R=z:=by rw[KI.out,if_neg hz]
      have hzb:(R !=0)=true:=by simp[hz]
      have hzc:(R==0)=false:=by simp[hz]
      have lV:=zH (ah BZ.out Y6.out);clear KI;go_wp2;go_ret;exact⟨rfl,lV.out⟩
    ·have hjn:j=pn:=by omega
     obtain rfl:R=0:=by rw[hfe.out,hjn,wJ.out,drop_length];rfl
     have lV:=zH (ah BZ.out hbr.out);clear hfe hbr hjn;go_wp2;go_ret;exact⟨rfl,lV.out⟩
section
set_option maxRecDepth 100000
set_option maxHeartbeats 2000000
variable {Ld:bU}
theorem Ph {α:Type} (p:α->Bool) {l:List α} {k:Nat} (h:k<l.length):(l.drop k).all p=(p l[k]&&(l.drop (k+1)).all p):=by rw[drop_eq_getElem_cons h,all_cons]
theorem I9 {α:Type} (p:α->Bool) {l:List α} {k:Nat} (h:l.length<=k):(l.drop k).all p=true:=by rw[drop_of_length_le h];rfl
theorem ahp (l:Lw) (hl:BU l):PC prog Ld 58 [l.p] (·=bP (jQ l)):=by
 obtain⟨h1,h2,h3⟩:=hl;have hE:jQ l=(l.facts.all (fun d=>aN d.ty)&&(l.ay.all (fun p=>aN p.ty)&&l.aH.all fun s=>dU s.aA s.days)):=rfl;refine dh func58 fun X=>?_
 refine run ?_;refine mO l.facts.length (fun k=>jQ l=((l.facts.drop k).all (fun d=>aN d.ty)&&(l.ay.all (fun p=>aN p.ty)&&l.aH.all fun s=>dU s.aA s.days))) (fun k=>[(.s 3,.s (.v (nP k)))]) [.s 1,.o 1] ?_ hE;intro k hk hJ hw;refine run ?_;refine aZ (fun hu=>?_) fun hu=>?_
 ·rw[Ph _ hu] at hJ;have c:=BD (Ld:=Ld) l.facts[k].ty;refine run ?_;refine bM (fun h=>?_) fun h=>?_
  ·refine run ?_;exact aF (hr:=by rw[hJ,(by simpa using h:aN l.facts[k].ty=false)];rfl)
  ·refine run ?_;refine mP (by rw[hJ,(by simpa using h:aN l.facts[k].ty=true)];rfl)
 ·rw[I9 _ (by omega),Bool.true_and] at hJ;clear hE hu hw;refine run ?_;refine mO l.ay.length (fun k=>jQ l=((l.ay.drop k).all (fun d=>aN d.ty)&&l.aH.all fun s=>dU s.aA s.days)) (fun k=>[(.s 4,.s (.v (nP k)))]) [.s 1,.o 1] ?_ hJ;intro j hj hJ hw;refine run ?_;refine aZ (fun hu=>?_) fun hu=>?_
  ·rw[Ph _ hu] at hJ;have c:=BD (Ld:=Ld) l.ay[j].ty;refine run ?_;refine bM (fun h=>?_) fun h=>?_
   ·refine run ?_;exact aF (hr:=by rw[hJ,(by simpa using h:aN l.ay[j].ty=false)];rfl)
   ·refine run ?_;refine mP (by rw[hJ,(by simpa using h:aN l.ay[j].ty=true)];rfl)
  ·rw[I9 _ (by omega),Bool.true_and] at hJ;clear hu hw;refine run ?_;refine mO l.aH.length (fun k=>jQ l=(l.aH.drop k).all fun s=>dU s.aA s.days) (fun k=>[(.s 5,.s (.v (nP k)))]) [.s 1,.o 1] ?_ hJ;intro i hi hJ hw;refine run ?_;refine aZ (fun hu=>?_) fun hu=>?_
   ·rw[Ph _ hu] at hJ;have c:=acL (Ld:=Ld) l.aH[i].aA l.aH[i].days;refine run ?_;refine bM (fun h=>?_) fun h=>?_
    ·refine run ?_;exact aF (hr:=by rw[hJ,(by simpa using h:dU l.aH[i].aA l.aH[i].days=false)];rfl)
    ·refine run ?_;refine mP (by rw[hJ,(by simpa using h:dU l.aH[i].aA l.aH[i].days=true)];rfl)
   ·rw[I9 _ (by omega)] at hJ;refine run ?_;exact aF (hr:=by rw[hJ];rfl)
abbrev ssP (l:List ByteArray):PV:=.sl 1 (l.map sP)
theorem EZ {α β:Type} (f:α->β) {l:List α} {k:Nat} (h:k<l.length):(l.take (k+1)).map f=(l.take k).map f++[f l[k]]:=by rw[take_succ_eq_append_getElem h,map_append];rfl
theorem ahr (l:Lw) (hl:BU l):PC prog Ld 110 [l.p] (·=.ag [ssP (l.facts.map Dc.name),ssP (l.aH.map Sc.name),ssP (l.ay.map Pv.name)]):=by
 obtain⟨h1,h2,h3⟩:=hl;refine dh func110 fun X=>?_
 refine run ?_;refine II 3 0 901 9 1 ?_;refine jr l.facts.length (fun k=>[(.s 4,.s (.v (nP k))),(.o 3,.o (.blk [.ow 901 (((l.facts.take k).map Dc.name).map sP).length,.v (.sc (.slice none 0 0)),.v (.sc (.slice none 0 0))])),(.o 901,.o (.row 9 1 (((l.facts.take k).map Dc.name).map sP)))]) [.s 1,.o 1,.s 2,.o 2,.s 3] ?_;intro k hk hw;refine run ?_;refine aZ (fun hu=>?_) fun hu=>?_
 ·have e:=EZ Dc.name hu;refine run ?_;refine gq
 ·rw[take_of_length_le (show l.facts.length<=k by omega)];clear hu hw;refine run ?_;refine II 3 1 902 9 1 ?_;refine jr l.aH.length (fun k=>[(.s 5,.s (.v (nP k))),(.o 3,.o (.blk [.ow 901 ((l.facts.map Dc.name).map sP).length,.ow 902 (((l.aH.take k).map Sc.name).map sP).length,.v (.sc (.slice none 0 0))])),(.o 902,.o (.row 9 1 (((l.aH.take k).map Sc.name).map sP)))]) [.s 1,.o 1,.s 2,.o 2,.s 3,.o 901] ?_;intro j hj hw;refine run ?_;refine aZ (fun hu=>?_) fun hu=>?_
  ·have e:=EZ Sc.name hu;refine run ?_;refine gq
  ·rw[take_of_length_le (show l.aH.length<=j by omega)];clear hu hw;refine run ?_;refine II 3 2 903 9 1 ?_;refine jr l.ay.length (fun k=>[(.s 6,.s (.v (nP k))),(.o 3,.o (.blk [.ow 901 ((l.facts.map Dc.name).map sP).length,.ow 902 ((l.aH.map Sc.name).map sP).length,.ow 903 (((l.ay.take k).map Pv.name).map sP).length])),(.o 903,.o (.row 9 1 (((l.ay.take k).map Pv.name).map sP)))]) [.s 1,.o 1,.s 2,.o 2,.s 3,.o 901,.o 902] ?_;intro i hi hw;refine run ?_;refine aZ (fun hu=>?_) fun hu=>?_
   ·have e:=EZ Pv.name hu;refine run ?_;refine gq
   ·rw[take_of_length_le (show l.ay.length<=i by omega)];refine run ?_;exact aF
theorem TK {s:ByteArray} {l:List ByteArray} (h:s∈l):0<gI s l:=by
 unfold gI;exact length_pos_of_mem (mem_filter.2 ⟨h,decide_eq_true rfl⟩)
theorem aev {l:List ByteArray} {i k:Nat} (hi:i<l.length) (hk:k<i) (h:l[i]=l[k]'(by omega)):EX l=true:=by
 refine any_eq_true.2 ⟨l[i],getElem_mem hi,decide_eq_true ?_⟩;have h1:=sZ l[i] (l.take i) (l.drop i);rw[take_append_drop] at h1;have h2:0<gI l[i] (l.drop i):=TK (by rw[drop_eq_getElem_cons hi];exact mem_cons_self ..);have h3:0<gI l[i] (l.take i):=TK (by rw[h];exact mem_take_iff_getElem.2 ⟨k,by omega,rfl⟩);omega
theorem TL:∀{l:List ByteArray},(∀i k,∀hi:i<l.length,∀hk:k<i,l[i]≠l[k]'(by omega))->∀s,gI s l<=1
 |[],_,s=>by unfold gI;exact Nat.zero_le _
 |x::t,h,s=>by
  have h1:=sZ s [x] t;rw[EU,singleton_append] at h1
  have h2:=TL (l:=t) (fun i k hi hk=>by
   have:=h (i+1) (k+1) (by simp;omega) (by omega);simpa using this) s
  by_cases hx:x=s
  ·have h3:gI s t=0:=by
    by_cases h0:gI s t=0
    ·exact h0
    ·obtain⟨j,hj,e⟩:=getElem_of_mem (EW (show 0<gI s t by omega));exact absurd (by simp[e,hx]) (h (j+1) 0 (by simp;omega) (by omega))
   rw[if_pos hx] at h1;omega
  ·rw[if_neg hx] at h1;omega
theorem ahs {l:List ByteArray} (h:∀i k,∀hi:i<l.length,∀hk:k<i,l[i]≠l[k]'(by omega)):EX l=false:=by
 cases hd:EX l
 ·rfl
 ·obtain⟨s,_,h1⟩:=any_eq_true.1 hd;have:=of_decide_eq_true h1;have:=TL h s;omega
theorem aiL (s:ByteArray):PC prog Ld 92 [sP s] (·=bP (bY s)):=by
 have h:=acM (Ld:=Ld) s;refine dh func92 fun X=>?_
 refine run ?_;exact aF
theorem aew {α:Type} {l:List (List α)} {k:Nat} {x:List α} (h:l[k]?=some x):(l.take (k+1)).flatten=(l.take k).flatten++x:=by
 obtain⟨hk,rfl⟩:=List.getElem?_eq_some_iff.1 h;rw[take_succ_eq_append_getElem hk,flatten_append];simp
theorem abx {NS:List (List ByteArray)} {x:List ByteArray} (h:x∈NS) {i:Nat} (hi:i<x.length) (hn:bY x[i]=false):oP NS=12:=by
 unfold oP;rw[if_neg];intro ha;have:=all_eq_true.1 ha x[i] (mem_flatten.2 ⟨x,h,getElem_mem hi⟩);rw[hn] at this;cases this
theorem aby {NS:List (List ByteArray)} (ha:NS.flatten.all bY=true) {x:List ByteArray} (h:x∈NS) (hs:sortedB x=false):oP NS=11:=by
 unfold oP;rw[if_pos ha,if_neg];intro hb;have:=all_eq_true.1 hb x h;rw[hs] at this;cases this
theorem aht (l:Lw) (hl:BU l):PC prog Ld 57 [l.p] (·=iP (jF l)):=by
 have c0:=ahr (Ld:=Ld) l hl;have hE:jF l=oP [l.facts.map Dc.name,l.aH.map Sc.name,l.ay.map Pv.name]:=rfl;have lA:(l.facts.map Dc.name).length<=100:=by rw[length_map];exact hl.f
 have lB:(l.aH.map Sc.name).length<=100:=by rw[length_map];exact hl.s
 have lC:(l.ay.map Pv.name).length<=200:=by rw[length_map];exact hl.p
 rw[hE];clear hE;generalize l.facts.map Dc.name=A at*;generalize l.aH.map Sc.name=B at*;generalize l.ay.map Pv.name=C at*;refine dh func57 fun X=>?_
 refine run ?_;refine nK 4 4 9 1 rfl rfl (by decide) ?_;refine mO 3 (fun k=>([A,B,C].take k).flatten.all bY=true) (fun k=>[(.s 5,.s (.v (nP k))),(.s 4,.s (.ow 4 (([A,B,C].take k).flatten.map sP).length)),(.o 4,.o (.row 9 1 (([A,B,C].take k).flatten.map sP)))]) [.s 3,.o 3] ?_ rfl;intro k hk hJ hw;by_cases h3:k=3
 ·subst h3;have hf:([A,B,C]:List (List ByteArray)).flatten.length<=400:=by simp;omega
  obtain⟨F,hF⟩:∃F:List ByteArray,([A,B,C]:List (List ByteArray)).flatten=F:=⟨_,rfl⟩
  have hJ:F.all bY=true:=by rw[<-hF];exact hJ
  rw[show ([A,B,C]:List (List ByteArray)).take 3=[A,B,C] from rfl,hF];rw[hF] at hf;clear hk hw;refine run ?_;refine mO 3 (fun k=>([A,B,C].take k).all sortedB=true) (fun k=>[(.s 7,.s (.v (nP k)))]) [.s 3,.o 3,.s 4,.o 4] ?_ rfl;intro k hk hS hw;by_cases h3:k=3
  ·subst h3;have hS:([A,B,C]:List (List ByteArray)).all sortedB=true:=hS;have hD:oP [A,B,C]=if EX F then 14 else 0:=by unfold oP;rw[hF,if_pos hJ,if_pos hS]
   rw[hD];clear hk hw hJ hS hD hF lA lB lC c0;refine run ?_;refine mO F.length (fun i=>∀a b,∀ha:a<F.length,∀hb:b<a,a<i->F[a]≠F[b]) (fun i=>[(.s 9,.s (.v (nP i)))]) [.s 4,.o 4] ?_ (fun a b _ _ h=>absurd h (by omega));intro i hi hI hw;refine run ?_;refine aZ (fun hu=>?_) fun hu=>?_
   ·refine run ?_;refine mO i (fun k=>∀b,∀hb:b<F.length,b<k->F[i]≠F[b]) (fun k=>[(.s 10,.s (.v (nP k)))]) [.s 4,.o 4,.s 9] ?_ (fun b _ h=>absurd h (by omega));intro k hk hK hv;refine run ?_;refine aZ (fun hx=>?_) fun hx=>?_
    ·have hkl:k<F.length:=by omega
     refine run ?_;refine aZ (fun he=>?_) fun he=>?_
     ·refine run ?_;exact aF (hr:=by rw[aev hu hx he];rfl)
     ·refine run ?_;refine mP fun b hb hbk=>?_
      by_cases hb2:b=k
      ·subst hb2;exact he
      ·exact hK b hb (by omega)
    ·refine run ?_;refine mP fun a b ha hb hai=>?_
     by_cases ha2:a=i
     ·subst ha2;exact hK b (by omega) (by omega)
     ·exact hI a b ha hb (by omega)
   ·refine run ?_;exact aF (hr:=by rw[ahs fun a b ha hb=>hI a b ha hb (by omega)];rfl)
  obtain⟨L,hL⟩:∃L,[A,B,C][k]?=some L:=⟨_,getElem?_eq_getElem (by simp;omega)⟩
  have hm:=mem_of_getElem? hL
  have hLl:L.length<=200:=by
   simp only[mem_cons,not_mem_nil,or_false] at hm;rcases hm with rfl|rfl|rfl<;>omega
  have hn:=fun h=>aby (by rw[hF];exact hJ) hm h
  have e:([A,B,C].take (k+1)).all sortedB=sortedB L:=by
   obtain⟨h1,h2⟩:=List.getElem?_eq_some_iff.1 hL;rw[take_succ_eq_append_getElem h1,all_append,hS,h2];simp
  rw[e];clear e hF hf hJ hS;obtain⟨w1,w2,w3⟩:IntKind.i64.wrap 1=1/\IntKind.i64.wrap 2=2/\IntKind.i64.wrap 3=3:=by decide
  rcases (by omega:k=0∨k=1∨k=2) with rfl|rfl|rfl
  all_goals
   obtain rfl:=(Option.some.inj hL).symm;clear hL;refine run ?_;refine mO L.length (fun i=>∀t (h:t+1<L.length),t<i->Op.bytesLess (L[t]'(by omega)).toList L[t+1].toList=true) (fun i=>[(.s 8,.s (.v (nP (i+1))))]) [.s 3,.o 3,.s 4,.o 4,.s 7] ?_ (fun t _ h=>absurd h (by omega));intro i hi hI hv;have w9:IntKind.i64.wrap ((i:Int)+1+1)=((i+1+1:Nat):Int):=by rw[IntWalk.i64_in _ (by omega)];omega
   have w8:IntKind.i64.wrap (i:Int)=(i:Int):=IntWalk.i64_in _ (by omega);refine run ?_;refine aZ (fun hu=>?_) fun hu=>?_
   ·have hil:i<L.length:=by omega
    have amE:i+1<L.length:=by omega
    have ht:((i:Int)+1).toNat=i+1:=by omega
    refine run ?_;refine bM (fun h=>?_) fun h=>?_
    ·have hs:sortedB L=false:=by
      cases hs:sortedB L
      ·rfl
      ·have:=(sW L).1 hs i amE;simp[this] at h
     refine run ?_;exact aF (hr:=by rw[hn hs];rfl)
    ·refine run ?_;refine mP fun t ht hti=>?_
     by_cases ht2:t=i
     ·subst ht2;simpa using h
     ·exact hI t ht (by omega)
   ·have hs:sortedB L=true:=(sW L).2 fun t h=>hI t h (by omega)
    refine run ?_;refine mP hs
 obtain⟨L,hL⟩:∃L,[A,B,C][k]?=some L:=⟨_,getElem?_eq_getElem (by simp;omega)⟩
 have hm:=mem_of_getElem? hL;have e:=aew hL
 have hPl:([A,B,C].take k).flatten.length<=400:=by
  have:([A,B,C].take k).flatten.length+([A,B,C].drop k).flatten.length=[A,B,C].flatten.length:=by rw[<-length_append,<-flatten_append,take_append_drop]
  simp at this⊢;omega
 have hLl:L.length<=200:=by
  simp only[mem_cons,not_mem_nil,or_false] at hm;rcases hm with rfl|rfl|rfl<;>omega
 generalize ([A,B,C].take k).flatten=PRE at*;obtain⟨w1,w2,w3⟩:IntKind.i64.wrap 1=1/\IntKind.i64.wrap 2=2/\IntKind.i64.wrap 3=3:=by decide
 rcases (by omega:k=0∨k=1∨k=2) with rfl|rfl|rfl
 all_goals
  obtain rfl:=(Option.some.inj hL).symm;clear hL;refine run ?_;refine mO L.length (fun i=>(L.take i).all bY=true) (fun i=>[(.s 6,.s (.v (nP i))),(.s 4,.s (.ow 4 ((PRE++L.take i).map sP).length)),(.o 4,.o (.row 9 1 ((PRE++L.take i).map sP)))]) [.s 3,.o 3,.s 5] ?_ rfl;intro i hi hI hv;refine run ?_;refine aZ (fun hu=>?_) fun hu=>?_
  ·have c:=aiL (Ld:=Ld) L[i];have e2:PRE++L.take (i+1)=(PRE++L.take i)++[L[i]]:=by rw[take_succ_eq_append_getElem hu,append_assoc]
   have e3:(L.take i).length<=200:=by rw[length_take];omega
   have e4:(L.take (i+1)).all bY=((L.take i).all bY&&bY L[i]):=by rw[take_succ_eq_append_getElem hu,all_append];simp
   rw[hI,Bool.true_and] at e4;rw[e2,e4];generalize L.take i=o at*;refine run ?_;refine bM (fun h=>?_) fun h=>?_
   ·refine run ?_;exact aF (hr:=by rw[abx hm hu (by simpa using h)];rfl)
   ·refine run ?_;refine mP (by simpa using h)
  ·have e1:L.take i=L:=take_of_length_le (by omega);rw[e1] at hI⊢;refine run ?_;refine mP (by rw[e,all_append,hJ,hI];rfl)
end
section
set_option maxRecDepth 100000
set_option maxHeartbeats 2000000
variable {Ld:bU}
theorem Y8 (a:Ra) (h:dA a):PC prog Ld 113 [a.p] (·=bP (okR a)):=
 kT (.ag (by repeat constructor) .nil) rfl fun w _=>yZ a w (Nat.le_trans h.1 (by decide)) (Nat.le_trans h.2 (by decide))
theorem amF (a b:Ra) (ha:okR a=true) (hb:okR b=true) (h1:dA a) (h2:dA b):PC prog Ld 115 [a.p,b.p] (·=iP (kV a b)):=
 kT (.ag (by repeat constructor) (.ag (by repeat constructor) .nil)) rfl fun w _=>aaN a b w ha hb 1048576 (by omega) h1.1 h1.2 h2.1 h2.2
theorem aiM (s:Sc) (hf:∀b∈s.bJ,lH b):PC prog Ld 59 [s.p] (·=iP (eY s.bJ)):=by
 obtain⟨nm,mo,da,l⟩:=s;dsimp only at hf⊢;refine dh func59 fun X=>?_
 refine run ?_;refine aZ (fun h=>?_) fun h8=>?_
 ·refine run ?_;exact aF (hr:=by unfold eY;rw[if_pos (by omega)];rfl)
 refine run ?_;refine aZ (fun h=>?_) fun h0=>?_
 ·refine run ?_;exact aF (hr:=by unfold eY;rw[if_neg (by omega),if_pos (by omega)];rfl)
 have hl8:l.length<=8:=by omega
 have hl0:0<l.length:=by omega
 refine run ?_;refine mO l.length (fun k=>∀i (h:i<l.length),i<k->okB l[i]=true) (fun k=>[(.s 4,.s (.v (nP k)))]) [.s 3] ?_ (fun i _ h=>absurd h (by omega));intro k hk hJ hw;refine run ?_;refine aZ (fun hu=>?_) fun hu=>?_
 ·have hb:=hf l[k] (getElem_mem hu);have c1:=Y8 (Ld:=Ld) l[k].fr hb.1;have c2:=Y8 (Ld:=Ld) l[k].rt hb.2;refine run ?_;refine dH [(.s 44,.s (.v (bP (!okR l[k].fr|| !okR l[k].rt))))] ?_;refine run ?_;refine bM (fun h=>?_) fun h=>?_
  ·refine run ?_;exact aF (hr:=by rw[I4 hl8 hl0 (.inl ⟨l[k],getElem_mem hu,by unfold okB;rw[<-Bool.not_not (okR l[k].fr&&_),Bool.not_and,h];rfl⟩)];rfl)
  ·refine run ?_;refine mP fun i hi hik=>?_
   by_cases hi2:i=k
   ·subst hi2;unfold okB;simpa using h
   ·exact hJ i hi (by omega)
 have hok:∀b∈l,okB b=true:=fun b hb=>by
  obtain⟨i,hi,rfl⟩:=getElem_of_mem hb;exact hJ i hi (by omega)
 clear hJ hu hw hk;have hb:=hf l[0] (getElem_mem hl0);have c1:=Vq (Ld:=Ld) l[0].fr (Nat.le_trans hb.1.1 (by decide)) (Nat.le_trans hb.1.2 (by decide));refine run ?_;refine bM (fun h=>?_) fun h=>?_
 ·refine run ?_;exact aF (hr:=by rw[I4 hl8 hl0 (.inr (.inl (by simpa using h)))];rfl)
 have hs:dD l[0].fr=0:=by simpa using h
 clear h c1 hb;refine run ?_;refine mO l.length (fun k=>∀i (h:i+1<l.length),i<k->kV (l[i]'(by omega)).fr l[i+1].fr<0) (fun k=>[(.s 8,.s (.v (nP (k+1))))]) [.s 3] ?_ (fun i _ h=>absurd h (by omega));intro k hk hJ hw;have w9:IntKind.i64.wrap ((k:Int)+1+1)=((k+1+1:Nat):Int):=by rw[IntWalk.i64_in _ (by omega)];omega
 have w8:IntKind.i64.wrap (k:Int)=(k:Int):=IntWalk.i64_in _ (by omega);refine run ?_;refine aZ (fun hu=>?_) fun hu=>?_
 ·have hu1:k<l.length:=by omega
  have hu2:k+1<l.length:=by omega
  have ht:((k:Int)+1).toNat=k+1:=by omega
  have a1:=hok l[k] (getElem_mem hu1);have a2:=hok l[k+1] (getElem_mem hu2);unfold okB at a1 a2;rw[Bool.and_eq_true] at a1 a2;have c1:=amF (Ld:=Ld) l[k].fr l[k+1].fr a1.1 a2.1 (hf _ (getElem_mem hu1)).1 (hf _ (getElem_mem hu2)).1;clear a1 a2;refine run ?_;refine aZ (fun h=>?_) fun h=>?_
  ·refine run ?_;exact aF (hr:=by rw[I4 hl8 hl0 (.inr (.inr ⟨k,hu2,h⟩))];rfl)
  ·refine run ?_;refine mP fun i hi hik=>?_
   by_cases hi2:i=k
   ·subst hi2;omega
   ·exact hJ i hi (by omega)
 rw[OX hl8 hl0 hok hs fun i hi=>hJ i hi (by omega)];clear hJ hu hw hk hs hok w8 w9;refine run ?_;refine mO l.length (fun k=>∀i (h:i<l.length),i<k->lg l[i]=false) (fun k=>[(.s 10,.s (.v (nP k)))]) [.s 3] ?_ (fun i _ h=>absurd h (by omega));intro k hk hJ hw;refine run ?_;refine aZ (fun hu=>?_) fun hu=>?_
 ·have hb:=hf l[k] (getElem_mem hu);have c1:=GY (Ld:=Ld) l[k].fr (Nat.le_trans hb.1.1 (by decide)) (Nat.le_trans hb.1.2 (by decide));have c2:=GY (Ld:=Ld) l[k].rt (Nat.le_trans hb.2.1 (by decide)) (Nat.le_trans hb.2.2 (by decide));refine run ?_;refine dH [(.s 95,.s (.v (bP (!bQ l[k].fr|| !bQ l[k].rt))))] ?_;refine run ?_;refine bM (fun h=>?_) fun h=>?_
  ·refine run ?_;exact aF (hr:=by rw[if_pos (any_eq_true.2 ⟨l[k],getElem_mem hu,h⟩)];rfl)
  ·refine run ?_;refine mP fun i hi hik=>?_
   by_cases hi2:i=k
   ·subst hi2;exact h
   ·exact hJ i hi (by omega)
 ·have ha:l.any lg=false:=any_eq_false.2 fun b hb=>by
   obtain⟨i,hi,rfl⟩:=getElem_of_mem hb;rw[hJ i hi (by omega)];simp
  refine run ?_;exact aF (hr:=by rw[ha];rfl)
end
section
set_option maxRecDepth 100000
set_option maxHeartbeats 2000000
variable {Ld:bU}
theorem TM (l:Lw):(dO l).length=l.facts.length+3*l.ay.length+l.aH.length:=by unfold dO;simp;omega
theorem Pj (l:Lw) (hl:BU l) (hf:lW l) (hb:∀p∈l.ay,p.body.length<=100000):PC prog Ld 25 [l.p] (·=iP (aT l)):=by
 have c1:=aht (Ld:=Ld) l hl;have c2:=ahp (Ld:=Ld) l hl;have c3:=(VX (Ld:=Ld) l hl).pc;have hsl:=TM l;have b1:=hl.f;have b2:=hl.s;have b3:=hl.p;refine dh func25 fun X=>?_
 refine run ?_;refine dH [(.s 22,.s (.v (bP (decide ((20:Int)<l.facts.length)||(decide ((8:Int)<l.aH.length)||decide ((30:Int)<l.ay.length))))))] ?_;refine run ?_;refine bM (fun h=>?_) fun h=>?_
 ·simp only[Bool.or_eq_true,decide_eq_true_eq] at h;refine run ?_;exact aF (hr:=by unfold aT;rw[if_pos (by omega)];rfl)
 simp only[Bool.or_eq_false_iff,decide_eq_false_iff_not] at h
 have hE:aT l=if jF l≠0 then jF l else if jQ l=false then 13 else if dY (l.aH.map fun s=>eY s.bJ)≠0 then dY (l.aH.map fun s=>eY s.bJ) else dY (l.ay.map (iJ (dO l))):=by
  unfold aT;rw[if_neg (by omega)]
 rw[hE];clear hE h;refine run ?_;refine bM (fun h=>?_) fun h=>?_
 ·have h:jF l≠0:=by simpa using h
  rw[if_pos h];refine run ?_;exact aF
 have h:jF l=0:=by simpa using h
 rw[if_neg (by simp[h])];clear h c1;refine run ?_;refine bM (fun h=>?_) fun h=>?_
 ·rw[if_pos (by simpa using h)];refine run ?_;exact aF
 rw[if_neg (by simpa using h)];clear h c2;refine run ?_;refine mO l.aH.length (fun k=>dY (l.aH.map fun s=>eY s.bJ)=dY ((l.aH.drop k).map fun s=>eY s.bJ)) (fun k=>[(.s 4,.s (.v (nP k)))]) [.s 1,.o 1] ?_ rfl;intro k hk hJ hw;refine run ?_;refine aZ (fun hu=>?_) fun hu=>?_
 ·have c:=aiM (Ld:=Ld) l.aH[k] (hf.sb _ (getElem_mem hu));rw[drop_eq_getElem_cons hu,map_cons,nT] at hJ;refine run ?_;refine bM (fun h=>?_) fun h=>?_
  ·have h:¬eY l.aH[k].bJ=0:=by simpa using h
   rw[if_neg h] at hJ;rw[hJ,if_pos h];refine run ?_;exact aF
  ·have h:eY l.aH[k].bJ=0:=by simpa using h
   rw[if_pos h] at hJ;refine run ?_;refine mP hJ
 rw[drop_of_length_le (by omega)] at hJ;rw[hJ,if_neg (by simp[dY])];clear hJ hu hw hk;refine run ?_;generalize dO l=sg at*;refine mO l.ay.length (fun k=>dY (l.ay.map (iJ sg))=dY ((l.ay.drop k).map (iJ sg))) (fun k=>[(.s 6,.s (.v (nP k)))]) [.s 1,.o 1,.s 5] ?_ rfl;intro j hj hJ hw;refine run ?_;refine aZ (fun hu=>?_) fun hu=>?_
 ·have hm:=getElem_mem hu;have hp:=hf.pb _ hm;have c:=VO (Ld:=Ld) sg l.ay[j] (by omega) hp.2.2 (hb _ hm) hp.1 hp.2.1;rw[drop_eq_getElem_cons hu,map_cons,nT] at hJ;refine run ?_;refine bM (fun h=>?_) fun h=>?_
  ·have h:¬iJ sg l.ay[j]=0:=by simpa using h
   rw[if_neg h] at hJ;rw[hJ];refine run ?_;exact aF
  ·have h:iJ sg l.ay[j]=0:=by simpa using h
   rw[if_pos h] at hJ;refine run ?_;refine mP hJ
 rw[drop_of_length_le (by omega)] at hJ;rw[hJ];refine run ?_;exact aF
end
theorem Za (b:Nat) (w:World) (h0:w.cell? ⟨b,0,none⟩=some (.pointer none)) (hsh:w.shape? b=some (95,2)) (hfz:w.frozen? ⟨b,0,none⟩=false):
  Calls prog 205 #[.pointer (some ⟨b,0,none⟩)] w fun e w'=>e=.returned (.tuple #[])/\w'=w.setCell ⟨b,0,none⟩ (.pointer (some ⟨b,0,none⟩)):=by
 obtain⟨j,hj,hjs⟩:=Option.map_eq_some_iff.1 (show (prog.info? 93).map (·.size)=some 2 by kernel_rfl);go_enter func205,ntmps205;go_wp2;rw[Lib.run_to_unsafe w ⟨b,0,none⟩ underlying91 underlying289 hj (by rw[hjs];decide) hsh (Nat.zero_lt_succ 1)];simp only[Result.andThen]
 rw[Oper.upon_value];go_wp2;rw[run_callFunc_extern func254 (by kernel_rfl) (by kernel_rfl) (by kernel_rfl) (e:=Extern.AbiNoEscape.same) (by kernel_rfl)];rw[Lib.run_noEscape];simp only[Result.andThen]
 rw[Oper.upon_value];go_wp2;rw[Lib.run_from_unsafe w ⟨b,0,none⟩ underlying289 underlying91 hj hsh (by kernel_rfl)];simp only[Result.andThen]
 rw[Oper.upon_value];go_wp2;go_end0;exact⟨rfl,rfl⟩
theorem ahu (B b:Nat) (bs:List Value) (w:World) (h:Lib.IsBuilder 95 5 B b bs w):
  Calls prog 205 #[.pointer (some ⟨b,0,none⟩)] w fun e w'=>e=.returned (.tuple #[])/\(Lib.BuilderAt 95 5 B b (.pointer (some ⟨b,0,none⟩)) bs w'/\Below B w w'/\BF b w w'):=by
 rcases h with h|h
 ·refine (Za b w h.cell0 h.shape h.frozen0).mono ?_;rintro e w' ⟨rfl,rfl⟩;exact⟨rfl,h.used _,(Below.refl B w).setCell (p:=⟨b,0,none⟩) h.1 _,(BF.refl b w).set 0 _⟩
 ·refine (Sl b w h.cell0).mono ?_;rintro e w' ⟨rfl,rfl⟩;exact⟨rfl,h,Below.refl B _,BF.refl b _⟩
theorem aex (B b:Nat) (bs:List Value) (s:ByteArray) (w:World) (h:Lib.IsBuilder 95 5 B b bs w) (hlen:bs.length+s.size<=140737488355328) (hBw:B<=w.heap.size):
  Calls prog 153 #[.pointer (some ⟨b,0,none⟩),.string s] w fun e w'=>e=.returned (.tuple #[.int .i64 s.size,.nilIface])/\(Lib.BuilderAt 95 5 B b (.pointer (some ⟨b,0,none⟩)) (bs++lc s.data.toList) w'/\Below B w w'/\BF b w w'):=by
 obtain⟨i0,hi,hz0,hz1,hz2⟩:=info_parts (show (prog.info? 5).map (fun i=>(i.zero,i.size,i.bytes))=some (some (.int .u8 0),1,1) by kernel_rfl);have HC:=zH (ahu B b bs w h);go_enter func153,ntmps153;go_wp2_with fail;refine HC.out.mono ?_;rintro e w1 ⟨rfl,h1,hb1,hf1⟩;obtain⟨hB,v,hbk,hown,hne⟩:=h1;have c0:w1.cell? ⟨b,0,none⟩=some (.pointer (some ⟨b,0,none⟩)):=by rw[Lib.cell_of_heap hbk];rfl
 have c1:w1.cell? ⟨b,1,none⟩=some v:=by rw[Lib.cell_of_heap hbk];rfl
 go_wp2_with (at_builtin;refine Lib.wpList_append_own_string _ rfl _ _ 41 9 rfl B 5 i0 underlying41 underlying9 hi hz0 hz1 hz2 _ _ _ rfl hown s rfl ?c3 ?c4 ?c5 ?_)
 case c3=>unfold maxLen;omega
 case c4=>omega
 case c5=>have:=hb1.size;omega
 intro v' w2 hown' hgrow _
 have hlt:b<w1.heap.size:=by
  rcases Nat.lt_or_ge b w1.heap.size with h'|h'
  ·exact h'
  ·simp[Array.getElem?_eq_none h'] at hbk
 have hb2:w2.heap[b]?=some (.cells #[.pointer (some ⟨b,0,none⟩),v] 95 (0,0)):=by
  rw[hgrow.block b hlt (fun e=>hne e.symm)];exact hbk
 have d0:w2.cell? ⟨b,0,none⟩=some (.pointer (some ⟨b,0,none⟩)):=by rw[Lib.cell_of_heap hb2];rfl
 have d1:w2.cell? ⟨b,1,none⟩=some v:=by rw[Lib.cell_of_heap hb2];rfl
 have f1:w2.frozen? ⟨b,1,none⟩=false:=Lib.frozen_of_heap hb2 1;have HF:Hid (BF b w w2):=hf1.trans (BF.grown hown hgrow);clear hf1
 obtain⟨ao,n',cap,rfl⟩:∃ao n' cap,v'=.slice ao n' cap:=by
  rcases hown'.2 with⟨hv,_⟩|⟨g,cap,cur,hv,_⟩
  ·exact⟨_,_,_,hv⟩
  ·exact⟨_,_,_,hv⟩
 go_wp2;go_ret2;refine⟨rfl,?_,?_,HF.out.set 1 _⟩
 ·exact Lib.BuilderAt.put (T:=95) (e:=5) hB hb2 (bs':=bs++lc s.data.toList) (by simpa [Lib.strCells_length,lc,Lib.strCells] using hown') (by decide)
 ·exact (hb1.grown hgrow (by have:=hb1.size;omega) (fun k hk=>(hown.lt k hk).1)).setCell (p:=⟨b,1,none⟩) hB _
theorem abz (B b:Nat) (p:Value) (l:List UInt8) (w:World) (h:Lib.BuilderAt 95 5 B b p (lc l) w) (h0:l≠[]):
  Calls prog 42 #[.pointer (some ⟨b,0,none⟩)] w fun e w'=>e=.returned (.string ⟨l.toArray⟩)/\Below B w w':=by
 obtain⟨hB,v,hbk,hown,hne⟩:=h;have hl0:l.length≠0:=by simpa using h0
 rw[Ot] at hown
 obtain⟨g,cap,cur,rfl,hbg,hg,hnc,hcm,hcs,htake⟩:∃g cap cur,v=.slice (some ⟨g,0,none⟩) l.length cap/\B<=g/\w.heap[g]?=some (.cells cur 5 (0,0))/\l.length<=cap/\cap<=maxLen/\cur.size=cap*1/\cur.toList.take (l.length*1)=lc l:=by
  rcases hown.2 with⟨_,hz⟩|⟨g,cap,cur,hv,r⟩
  ·exact absurd hz hl0
  ·exact⟨g,cap,cur,hv,r⟩
 have c1:w.cell? ⟨b,1,none⟩=some (.slice (some ⟨g,0,none⟩) l.length cap):=by rw[Lib.cell_of_heap hbk];rfl
 have hSD:(Builtin.unsafeSliceData_ #[41] 169 #[.slice (some ⟨g,0,none⟩) l.length cap]).run prog w.drew=.ok (.pointer (some ⟨g,0,none⟩)) w.drew:=
  Lib.run_unsafeSliceData_row _ _ _ _ _ _ (by omega)
 have hUS:(Builtin.unsafeString_ #[169,3] 9 #[.pointer (some ⟨g,0,none⟩),.int .i64 l.length]).run prog w.drew=.ok (.string ⟨l.toArray⟩) (w.drew.freeze ⟨g,0,none⟩ l.length):=by
  refine Lib.run_unsafeString_row w.drew 169 3 9 5 underlying169 (by kernel_rfl) g cur.size (by have hg':w.drew.heap[g]?=some (.cells cur 5 (0,0)):=hg;simp[World.shape?,hg']) l h0 (by omega) (by unfold maxLen at hcm;omega) ?_;intro j x hx;have:=hown.cells (g:=g) rfl j (.int .u8 x.toNat) (by simp[lc,hx]);exact this
 go_enter func42,ntmps42;go_wp2;go_region
 all_goals (go_wp2;go_ret;exact⟨rfl,Lib.below_freeze (Below.drew (Below.refl B w)) (p:=⟨g,0,none⟩) hbg _⟩)
theorem sG (w:World):Calls prog 91 #[.bool true] w fun e w'=>e=.returned (.tuple #[])/\w'=w:=by
 go_enter func91,ntmps91;go_wp2;go_end0;exact⟨rfl,rfl⟩
theorem tq (s:ByteArray) (w:World) (hL:Laid w) (hs:s.size<=1048576) (hk:(fG s).2=true):Calls prog 145 #[.string s] w fun e w'=>e=.returned (fG s).1.v/\Below w.heap.size w w':=by
 obtain⟨W,hW⟩:=zE (w.alloc (.cells #[.bool false,.string ⟨#[]⟩,.string ⟨#[]⟩] 57));obtain⟨B,hB⟩:=zE w.heap.size;have HK:Hid (aj W B 57 [.bool false,.string ⟨#[]⟩,.string ⟨#[]⟩]):=by show aj _ _ _ _;rw[hW,hB];exact aj.new w _ _
 have bZ:Hid (Below w.heap.size w W):=by show Below _ _ _;rw[hW];exact zB _ _
 have HP:=zH (Gv s W (hL.below bZ.out) hs);rw[hk] at HP;generalize (fG s).1=x at*;obtain⟨x1,x2,x3⟩:=x;unfold Ra.v at HP⊢;simp only at HP⊢;have kR:=zH (Nat.le_of_eq hB.symm);clear hL hk;go_enter func145,ntmps145
 go_upto_region 1 with fail
 simp only[<-hW,<-hB]
 clear hW hB;go_wp2_with fail;refine HP.out.mono ?_;rintro e w1 ⟨rfl,hb1⟩;have HB1:=zH (ah bZ.out hb1);have jl:Hid (aj w1 B 57 [.bool false,.string ⟨#[]⟩,.string ⟨#[]⟩]):=HK.out.below hb1 HK.out.lt;have HA:Hid (Below w1.heap.size w1 (w1.alloc (.cells #[.bool x1,.string x2,.string x3] 57))):=(Below.refl _ _).alloc (Nat.le_refl _) _;obtain⟨w2,hw2⟩:=zE (w1.alloc (.cells #[.bool x1,.string x2,.string x3] 57));obtain⟨C,hC⟩:=zE w1.heap.size;have kN:Hid (aj w2 B 57 [.bool false,.string ⟨#[]⟩,.string ⟨#[]⟩]):=by show aj _ _ _ _;rw[hw2];exact jl.out.below HA.out jl.out.lt
 have HK3:Hid (aj w2 C 57 [.bool x1,.string x2,.string x3]):=by show aj _ _ _ _;rw[hw2,hC];exact aj.new w1 _ _
 have HB2:Hid (Below w.heap.size w w2):=by show Below _ _ _;rw[hw2];exact ah HB1.out HA.out
 have hM:=sG w2;have hk2:=kN.out.cells;have hk3:=HK3.out.cells;have hf2:=kN.out.bH;have hne:¬B=C:=by have:=jl.out.lt;omega
 have hne':¬C=B:=fun e=>hne e.symm
 clear hb1 HP
 go_upto_region 2 with fail
 simp only[<-hw2,<-hC]
 clear hw2 hC;go_wp2_with fail;refine hM.mono ?_;rintro e w3 ⟨rfl,rfl⟩;go_wp2;have Hw:=((kN.out.set 0 (.bool x1)).set 1 (.string x2)).set 2 (.string x3);have hc:=Hw.cells;refine bodyPost_ret (v:=.agg #[.bool x1,.string x2,.string x3]) (by simp[results,results145,go_sem,hc]) rfl ⟨rfl,?_⟩;exact ((HB2.out.setCell (p:=⟨B,0,none⟩) kR.out _).setCell (p:=⟨B,1,none⟩) kR.out _).setCell (p:=⟨B,2,none⟩) kR.out _
theorem Y9 (a b:Int) (w:World):Calls prog 19 #[.int .i64 a,.int .i64 b] w fun e w'=>e=.returned (Ty.v ⟨false,a,b⟩)/\Below w.heap.size w w':=by
 unfold Ty.v;simp only
 obtain⟨W,hW⟩:=zE (w.alloc (.cells #[.bool false,.int .i64 0,.int .i64 0] 51));obtain⟨B,hB⟩:=zE w.heap.size;have HK:Hid (aj W B 51 [.bool false,.int .i64 0,.int .i64 0]):=by show aj _ _ _ _;rw[hW,hB];exact aj.new w _ _
 have bZ:Hid (Below w.heap.size w W):=by show Below _ _ _;rw[hW];exact zB _ _
 have kR:=zH (Nat.le_of_eq hB.symm);have hkb:=HK.out.cells;have hfb:=HK.out.bH;go_enter func19,ntmps19
 go_upto_region 1 with fail
 simp only[<-hW,<-hB]
 clear hW hB;go_wp2;have Hw:=((HK.out.set 0 (.bool false)).set 1 (.int .i64 a)).set 2 (.int .i64 b);have hc:=Hw.cells;refine bodyPost_ret (v:=.agg #[.bool false,.int .i64 a,.int .i64 b]) (by simp[results,results19,go_sem,hc]) rfl ⟨rfl,?_⟩;exact ((bZ.out.setCell (p:=⟨B,0,none⟩) kR.out _).setCell (p:=⟨B,1,none⟩) kR.out _).setCell (p:=⟨B,2,none⟩) kR.out _
end Go.Proofs.YtjpbmbgincdjaaaGreatDoor
