/- A part of the proof: U2 U3 U4 Tf U9 U5 U6 Uy. -/
import Derived.Deep.Cut
import Derived.Deep.CutRange
import Derived.Test.YtkgiaegmkncljaaGreatDoorS01
import Derived.Test.YtkgiaegmkncljaaGreatDoorS06
import Derived.Test.YtkgiaegmkncljaaGreatDoorS18
import Derived.Test.YtkgiaegmkncljaaGreatDoorS19
import Derived.Test.YtkgiaegmkncljaaGreatDoorS20
import Derived.Test.YtkgiaegmkncljaaGreatDoorS27
import Derived.Test.YtkgiaegmkncljaaGreatDoorS30
set_option linter.unusedVariables false
set_option linter.unusedSimpArgs false
set_option maxRecDepth 100000
set_option maxHeartbeats 40000000
namespace Go.Proofs.YtkgiaegmkncljaaGreatDoor
open Go.RowKit
structure Hd where
 a:Option Addr
 n:Nat
 c:Nat
structure RowAt {α:Type} (w:World) (enc:α→List Value) (xs:List α) (h:Hd):Prop where
 len:h.n=xs.length
 cap:h.n≤h.c
 max:h.c≤maxLen
 rd:Rd w h.a (xs.flatMap enc)
theorem RowAt.below {α:Type} {w w':World} {enc:α→List Value} {xs:List α} {h:Hd} (k:RowAt w enc xs h) (hb:Below w.heap.size w w'):RowAt w' enc xs h:=⟨k.len,k.cap,k.max,k.rd.below hb⟩
theorem RowAt.nil {α:Type} (w:World) (enc:α→List Value):RowAt w enc ([]:List α) ⟨none,0,0⟩:=⟨rfl,Nat.le_refl _,Nat.zero_le _,.inl rfl⟩
theorem RowAt.of_own {α:Type} {w:World} {enc:α→List Value} {xs:List α} {base m n:Nat} {e:TypeId} {v:Value} (h:w.ownsRow base e m v n (xs.flatMap enc)) (hn:n=xs.length):∃h:Hd,v=.slice h.a h.n h.c∧h.n=n∧RowAt w enc xs h:=by
 obtain⟨A,c,rfl,h1,h2,h3,_⟩:=own_rd h;exact⟨⟨A,n,c⟩,rfl,rfl,hn,h1,h2,h3⟩
structure Dc where
 name:ByteArray
 ty:Ty
deriving DecidableEq
structure Sc where
 name:ByteArray
 money:Int
 days:Int
 brs:List Bk
deriving DecidableEq
structure Pv where
 name:ByteArray
 ty:Ty
 charge:Bool
 step:Ra
 cap:Ra
 body:List Nd
deriving DecidableEq
structure Lw where
 facts:List Dc
 schs:List Sc
 provs:List Pv
deriving DecidableEq
def Dc.cells (d:Dc):List Value:=[.string d.name,.bool d.ty.truth,.int .i64 d.ty.money,.int .i64 d.ty.days]
def scCells (s:Sc × Hd):List Value:=[.string s.1.name,.int .i64 s.1.money,.int .i64 s.1.days,.slice s.2.a s.2.n s.2.c]
def pvCells (p:Pv × Hd):List Value:=[.string p.1.name,.bool p.1.ty.truth,.int .i64 p.1.ty.money,.int .i64 p.1.ty.days,.slice p.2.a p.2.n p.2.c,.bool p.1.charge,
 .bool p.1.step.neg,.string p.1.step.num,.string p.1.step.den,.bool p.1.cap.neg,.string p.1.cap.num,.string p.1.cap.den]
structure LawAt (w:World) (l:Lw) (ss:List (Sc × Hd)) (ps:List (Pv × Hd)) (f s p:Hd):Prop where
 f:RowAt w Dc.cells l.facts f
 s:RowAt w scCells ss s
 p:RowAt w pvCells ps p
 sl:ss.map Prod.fst=l.schs
 pl:ps.map Prod.fst=l.provs
 sb:∀x∈ss,RowAt w Bk.cells x.1.brs x.2
 pb:∀x∈ps,RowAt w Nd.cells x.1.body x.2
theorem LawAt.below {w w':World} {l:Lw} {ss:List (Sc × Hd)} {ps:List (Pv × Hd)} {f s p:Hd} (k:LawAt w l ss ps f s p) (hb:Below w.heap.size w w'):LawAt w' l ss ps f s p:=
 ⟨k.f.below hb,k.s.below hb,k.p.below hb,k.sl,k.pl,fun x hx=>(k.sb x hx).below hb,fun x hx=>(k.pb x hx).below hb⟩
def lawV (f s p:Hd):Value:=.agg #[.slice f.a f.n f.c,.slice s.a s.n s.c,.slice p.a p.n p.c]
structure FineL (l:Lw):Prop where
 fn:l.facts.length≤1000
 sn:l.schs.length≤1000
 pn:l.provs.length≤1000
 sb:∀s∈l.schs,∀b∈s.brs,FineB b
 pb:∀p∈l.provs,FineR p.step∧FineR p.cap∧∀n∈p.body,Fine n
def fSig (d:Dc):Sg:=⟨5,d.name,d.ty⟩
def pSig (op:Int) (p:Pv):Sg:=⟨op,p.name,p.ty⟩
def sSig (s:Sc):Sg:=⟨24,s.name,⟨false,s.money,s.days⟩⟩
def sigsL (l:Lw):List Sg:=l.facts.map fSig++(l.provs.map (pSig 6)++(l.provs.map (pSig 7)++(l.provs.map (pSig 8)++l.schs.map sSig)))
def plainP (p:Pv):Bool:=decide (p.step=zR)&&decide (p.cap=zR)
def cappedP (p:Pv):Bool:= !p.ty.truth&&(fitsR p.step&&(fitsR p.cap&&(decide (0<signR p.step)&&(decide ((quoR p.cap p.step).1.den=(ofI 1).den)&&(decide (0<signR (quoR p.cap p.step).1)&&decide (cmpR (quoR p.cap p.step).1 (ofI 200)≤0))))))
def provE (sg:List Sg) (p:Pv):Int:=if (typeE sg p.body).2≠0 then (typeE sg p.body).2 else if (typeE sg p.body).1≠p.ty then 13 else if (p.charge&&decide (p.ty≠tCash))||(!plainP p&& !cappedP p) then 1 else 0
def typedL (l:Lw):Bool:=l.facts.all (fun d=>rightB d.ty)&&(l.provs.all (fun p=>rightB p.ty)&&l.schs.all (fun s=>unitB s.money s.days))
theorem sgs_append (a b:List Sg):sgs (a++b)=sgs a++sgs b:=List.flatMap_append
theorem info_sig:(Tryz.prog.info? 83).map (fun i=>(i.zero,i.size,i.bytes))=some (some (.agg #[.int .i64 0,.string ⟨#[]⟩,.bool false,.int .i64 0,.int .i64 0]),5,48):=by kernel_rfl
theorem take_map {α β:Type} (f:α→β) {l:List α} {k:Nat} (hk:k<l.length):(l.take (k+1)).map f=(l.take k).map f++[f l[k]]:=by
 rw[List.take_succ_eq_append_getElem hk,List.map_append];rfl
def opsL (l:Lw) (r:Nat):List Sg:=(List.range r).flatMap fun q:Nat=>l.provs.map (pSig (6+(q:Int)))
theorem opsL_succ (l:Lw) (r:Nat):opsL l (r+1)=opsL l r++l.provs.map (pSig (6+(r:Int))):=by
 unfold opsL;rw[List.range_succ,List.flatMap_append];simp
theorem opsL_len (l:Lw) (r:Nat):(opsL l r).length=r*l.provs.length:=by
 induction r with
 |zero=>unfold opsL;simp
 |succ r ih=>rw[opsL_succ,List.length_append,ih,List.length_map,Nat.succ_mul]
theorem sigsL_eq (l:Lw):sigsL l=l.facts.map fSig++opsL l 3++l.schs.map sSig:=by
 unfold sigsL opsL;simp[List.range_succ,List.flatMap_cons]
theorem uSigs_any (l:Lw) (ss:List (Sc × Hd)) (ps:List (Pv × Hd)) (f s p:Hd) (w:World) (h:LawAt w l ss ps f s p) (hf:FineL l):
  Calls Tryz.prog 11 #[lawV f s p] w fun e w'=>∃h:Hd,e=.returned (.slice h.a h.n h.c)∧RowAt w' Sg.cells (sigsL l) h∧Below w.heap.size w w':=by
 have hfn1:=hf.fn;have hsn1:=hf.sn;have hpn1:=hf.pn;obtain⟨fa,fn,fc⟩:=f;obtain⟨sa,sn,sc⟩:=s;obtain⟨pa,pn,pc⟩:=p;unfold lawV;simp only
 obtain⟨W,hW⟩:=zE (w.alloc (.cells #[.slice fa fn fc,.slice sa sn sc,.slice pa pn pc] 30));obtain⟨B,hB⟩:=zE w.heap.size;have HKL:Hid (Blk W B 30 [.slice fa fn fc,.slice sa sn sc,.slice pa pn pc]):=by show Blk _ _ _ _;rw[hW,hB];exact Blk.new w _ _
 have HBA:Hid (Below w.heap.size w W):=by show Below _ _ _;rw[hW];exact zB _ _
 have HLA:=zH (h.below HBA.out);have HFN:Hid (fn=l.facts.length):=h.f.len;have HSN:Hid (sn=l.schs.length):=by show _=_;rw[←h.sl,List.length_map];exact h.s.len
 have HPN:Hid (pn=l.provs.length):=by show _=_;rw[←h.pl,List.length_map];exact h.p.len
 rw[←HFN.out] at hfn1;rw[←HSN.out] at hsn1;rw[←HPN.out] at hpn1;have HFX:Hid (∀k (hk:k<l.schs.length) (hk':k<ss.length),l.schs[k]=ss[k].1):=fun k hk hk'=>by have e:=h.sl;simp[←e]
 have HPX:Hid (∀k (hk:k<l.provs.length) (hk':k<ps.length),l.provs[k]=ps[k].1):=fun k hk hk'=>by have e:=h.pl;simp[←e]
 clear h hf;have HST:Hid (W.ownsRow W.heap.size 83 5 (.slice none 0 0) (0+0) (sgs [])):=World.ownsRow_nil _ _ _ _;have HBW:Hid (Below W.heap.size W W):=Below.refl _ _;have HBA2:=HBA;have hkc:=HKL.out.cells;go_enter Tryz.func11,Tryz.ntmps11
 go_upto_region 1 with fail
 simp only[←hW,←hB]
 clear hW hB;go_wp2_with fail
 go_loopg [2,14] fn (fun g ov iv wr=>∃j:Nat,j+g=fn∧iv=.int .i64 j∧Hid (wr.ownsRow W.heap.size 83 5 ov (0+j) (sgs (([]:List Sg)++(l.facts.take j).map fSig)))∧Hid (Below W.heap.size W wr))
 case atStart=>exact⟨0,by omega,rfl,(by show World.ownsRow _ _ _ _ _ _ _;rw[List.take_zero,List.map_nil,List.append_nil];exact HST.out),HBW⟩
 case round=>
  obtain⟨j,hj,rfl,hown,hbr⟩:=hrel;clear HST HBW;by_cases hlt:j<fn
  ·have hjx:j<l.facts.length:=by rw[←HFN.out];exact hlt
   have hjm:j<l.facts.length:=by rw[←HLA.out.f.len];exact hlt
   have htm:=take_map fSig hjx;rw[show l.facts[j]=l.facts[j] from rfl] at htm;obtain⟨b,off,hA,hb,hc⟩:=Rd.row Dc.cells 4 (fun _=>rfl) (by omega) (HLA.out.f.below hbr.out).rd hjm;simp only at hA;subst hA;generalize l.facts[j]=x at*;obtain⟨nm,⟨tt,tm,td⟩⟩:=x;have HTM:=zH htm;have c0:=hc 0 _ rfl;have c1:=hc 1 _ rfl;have c2:=hc 2 _ rfl;have c3:=hc 3 _ rfl;simp only[Nat.add_zero] at c0;obtain⟨K,hK⟩:=zE (0+j);obtain⟨XS,hXS⟩:∃X,X=sgs (([]:List Sg)++(l.facts.take j).map fSig):=⟨_,rfl⟩
   rw[←hK,←hXS] at hown;have HXS:=zH hXS;have HK:=zH hK;have hKb:K≤5000:=by omega
   have HOA:Hid ((wr.alloc (.cells #[.string nm,.bool tt,.int .i64 tm,.int .i64 td] 53)).ownsRow W.heap.size 83 5 u2 K XS):=hown.out.alloc _;have HBA:Hid (Below W.heap.size W (wr.alloc (.cells #[.string nm,.bool tt,.int .i64 tm,.int .i64 td] 53))):=hbr.out.alloc hbr.out.size _;clear hown hbr hc htm hK hXS;go_wp2_with (at_builtin;go_must (refine wpList_push (wr.alloc (.cells #[.string nm,.bool tt,.int .i64 tm,.int .i64 td] 53)) #[.int .i64 5,.string nm,.bool tt,.int .i64 tm,.int .i64 td] rfl _ _ 32 rfl W.heap.size 83 _ 5 48 1 Tryz.underlying32 info_sig rfl (by decide) u2 K XS rfl HOA.out (by rw[World.size_alloc];rfl) rfl ?_ ?_ ?_ ?_ ?_))
   any_goals first|(unfold maxLen;omega)|omega
   ·exact⟨rfl,rfl,rfl,rfl,rfl⟩
   ·have hz:=HBA.out.size;rw[World.size_alloc] at hz;exact hz
   intro v' w' hown' hb';have HOWN:Hid (w'.ownsRow W.heap.size 83 5 v' (0+(j+1)) (sgs (([]:List Sg)++(l.facts.take (j+1)).map fSig))):=by show World.ownsRow _ _ _ _ _ _ _;rw[HTM.out,←List.append_assoc,sgs_append,←HXS.out,←Nat.add_assoc,←HK.out];exact hown'
   have HB:=zH (HBA.out.trans hb');clear hown' hb' c0;go_wp2
   go_roundg (fn-(j+1))
   case measure=>omega
   case rel=>exact⟨j+1,by omega,by go_num,HOWN,HB⟩
  ·have hjn:j=fn:=by omega
   have HST:Hid (wr.ownsRow W.heap.size 83 5 u2 (0+fn) (sgs (([]:List Sg)++l.facts.map fSig))):=by
    have h:=hown.out;rw[hjn] at h;rw[List.take_of_length_le (Nat.le_of_eq HFN.out.symm)] at h;exact h
   have HBW:=hbr;have hkc:=(HKL.out.below hbr.out HKL.out.lt).cells;clear hown hbr hjn;go_wp2_with fail
   go_loopg [2,28] 3 (fun g ov iv wr=>∃r:Nat,r+g=3∧iv=.int .i64 r∧Hid (wr.ownsRow W.heap.size 83 5 ov (fn+r*pn) (sgs (l.facts.map fSig++opsL l r)))∧Hid (Below W.heap.size W wr))
   case atStart=>exact⟨0,by omega,rfl,(by show World.ownsRow _ _ _ _ _ _ _;rw[Nat.zero_mul,Nat.add_zero,show opsL l 0=[] from rfl,List.append_nil,←Nat.zero_add fn];exact HST.out),HBW⟩
   case round=>
    obtain⟨r,hr,rfl,hown,hbr⟩:=hrel;clear HST HBW;by_cases hlt:r<3
    ·have HST:=hown;have HBW:=hbr;have hkc:=(HKL.out.below hbr.out HKL.out.lt).cells;have hr3:r=0∨r=1∨r=2:=by omega
     clear hown hbr
     go_upto_region 8 with fail
     go_cut [6] from 30 to 30 (fun v wc=>v=.int .i64 (6+(r:Int))∧wc=wr)
     case first=>
      have hix:∀W,(Instr.index 61 (.agg #[.int .i64 6,.int .i64 7,.int .i64 8]) (.int .i64 (r:Int))).run Tryz.prog W=.ok (.int .i64 (6+(r:Int))) W:=fun W=>by rcases hr3 with rfl|rfl|rfl<;>kernel_rfl
      go_wp2
      go_meet
      case rel=>exact⟨rfl,rfl⟩
     case rest=>
      obtain⟨rfl,rfl⟩:=hcut;have hrp:r*pn≤3000:=Nat.mul_le_mul (show r≤3 from by omega) hpn1;clear hr3;have hd3:decide ((r:Int)<3)=true:=decide_eq_true (by omega);simp only[hd3]
      go_wp2_with fail
      go_loopg [2,34] pn (fun g ov iv wr=>∃j:Nat,j+g=pn∧iv=.int .i64 j∧Hid (wr.ownsRow W.heap.size 83 5 ov ((fn+r*pn)+j) (sgs ((l.facts.map fSig++opsL l r)++(l.provs.take j).map (pSig (6+(r:Int))))))∧Hid (Below W.heap.size W wr))
      case atStart=>exact⟨0,by omega,rfl,(by show World.ownsRow _ _ _ _ _ _ _;rw[List.take_zero,List.map_nil,List.append_nil];exact HST.out),HBW⟩
      case round=>
       obtain⟨j,hj,rfl,hown,hbr⟩:=hrel;clear HST HBW;by_cases hlt:j<pn
       ·have hjx:j<l.provs.length:=by rw[←HPN.out];exact hlt
        have hjm:j<ps.length:=by rw[←HLA.out.p.len];exact hlt
        have htm:=take_map (pSig (6+(r:Int))) hjx;rw[show l.provs[j]=ps[j].1 from HPX.out j hjx hjm] at htm;obtain⟨b,off,hA,hb,hc⟩:=Rd.row pvCells 12 (fun _=>rfl) (by omega) (HLA.out.p.below hbr.out).rd hjm;simp only at hA;subst hA;generalize ps[j]=x at*;obtain⟨⟨nm,⟨tt,tm,td⟩,ch,⟨sn1,sn2,sn3⟩,⟨cn1,cn2,cn3⟩,bo⟩,⟨ha,hn,hcc⟩⟩:=x;have HTM:=zH htm;have c0:=hc 0 _ rfl;have c1:=hc 1 _ rfl;have c2:=hc 2 _ rfl;have c3:=hc 3 _ rfl;have c4:=hc 4 _ rfl;have c5:=hc 5 _ rfl;have c6:=hc 6 _ rfl;have c7:=hc 7 _ rfl;have c8:=hc 8 _ rfl;have c9:=hc 9 _ rfl;have c10:=hc 10 _ rfl;have c11:=hc 11 _ rfl;simp only[Nat.add_zero] at c0;obtain⟨K,hK⟩:=zE ((fn+r*pn)+j);obtain⟨XS,hXS⟩:∃X,X=sgs ((l.facts.map fSig++opsL l r)++(l.provs.take j).map (pSig (6+(r:Int)))):=⟨_,rfl⟩
        rw[←hK,←hXS] at hown;have HXS:=zH hXS;have HK:=zH hK;have hKb:K≤5000:=by omega
        have HOA:Hid ((wr.alloc (.cells #[.string nm,.bool tt,.int .i64 tm,.int .i64 td,.slice ha hn hcc,.bool ch,.bool sn1,.string sn2,.string sn3,.bool cn1,.string cn2,.string cn3] 46)).ownsRow W.heap.size 83 5 u2 K XS):=hown.out.alloc _;have HBA:Hid (Below W.heap.size W (wr.alloc (.cells #[.string nm,.bool tt,.int .i64 tm,.int .i64 td,.slice ha hn hcc,.bool ch,.bool sn1,.string sn2,.string sn3,.bool cn1,.string cn2,.string cn3] 46))):=hbr.out.alloc hbr.out.size _;clear hown hbr hc htm hK hXS;go_wp2_with (at_builtin;go_must (refine wpList_push (wr.alloc (.cells #[.string nm,.bool tt,.int .i64 tm,.int .i64 td,.slice ha hn hcc,.bool ch,.bool sn1,.string sn2,.string sn3,.bool cn1,.string cn2,.string cn3] 46)) #[.int .i64 (6+(r:Int)),.string nm,.bool tt,.int .i64 tm,.int .i64 td] rfl _ _ 32 rfl W.heap.size 83 _ 5 48 1 Tryz.underlying32 info_sig rfl (by decide) u2 K XS rfl HOA.out (by rw[World.size_alloc];rfl) rfl ?_ ?_ ?_ ?_ ?_))
        any_goals first|(unfold maxLen;omega)|omega
        ·exact⟨rfl,rfl,rfl,rfl,rfl⟩
        ·have hz:=HBA.out.size;rw[World.size_alloc] at hz;exact hz
        intro v' w' hown' hb';have HOWN:Hid (w'.ownsRow W.heap.size 83 5 v' ((fn+r*pn)+(j+1)) (sgs ((l.facts.map fSig++opsL l r)++(l.provs.take (j+1)).map (pSig (6+(r:Int)))))):=by show World.ownsRow _ _ _ _ _ _ _;rw[HTM.out,←List.append_assoc,sgs_append,←HXS.out,←Nat.add_assoc,←HK.out];exact hown'
        have HB:=zH (HBA.out.trans hb');clear hown' hb' c0;go_wp2
        go_roundg (pn-(j+1))
        case measure=>omega
        case rel=>exact⟨j+1,by omega,by go_num,HOWN,HB⟩
       ·have hjn:j=pn:=by omega
        have HST:Hid (wr.ownsRow W.heap.size 83 5 u2 ((fn+r*pn)+pn) (sgs ((l.facts.map fSig++opsL l r)++l.provs.map (pSig (6+(r:Int)))))):=by
         have h:=hown.out;rw[hjn] at h;rw[List.take_of_length_le (Nat.le_of_eq HPN.out.symm)] at h;exact h
        have HBW:=hbr;have hkc:=(HKL.out.below hbr.out HKL.out.lt).cells;clear hown hbr hjn;go_wp2
        go_roundg (3-(r+1))
        case measure=>omega
        case rel=>exact⟨r+1,by omega,by go_num,(by show World.ownsRow _ _ _ _ _ _ _;rw[opsL_succ,←List.append_assoc,show fn+(r+1)*pn=fn+r*pn+pn from by rw[Nat.succ_mul];omega];exact HST.out),HBW⟩
    ·have hrn:r=3:=by omega
     have HST:Hid (wr.ownsRow W.heap.size 83 5 u2 (fn+3*pn) (sgs (l.facts.map fSig++opsL l 3))):=by have h:=hown.out;rw[hrn] at h;exact h
     have HBW:=hbr;have hkc:=(HKL.out.below hbr.out HKL.out.lt).cells;clear hown hbr hrn;go_wp2_with fail
     go_loopg [2,52] sn (fun g ov iv wr=>∃j:Nat,j+g=sn∧iv=.int .i64 j∧Hid (wr.ownsRow W.heap.size 83 5 ov ((fn+3*pn)+j) (sgs ((l.facts.map fSig++opsL l 3)++(l.schs.take j).map sSig)))∧Hid (Below W.heap.size W wr))
     case atStart=>exact⟨0,by omega,rfl,(by show World.ownsRow _ _ _ _ _ _ _;rw[List.take_zero,List.map_nil,List.append_nil];exact HST.out),HBW⟩
     case round=>
      obtain⟨j,hj,rfl,hown,hbr⟩:=hrel;clear HST HBW;by_cases hlt:j<sn
      ·have hjx:j<l.schs.length:=by rw[←HSN.out];exact hlt
       have hjm:j<ss.length:=by rw[←HLA.out.s.len];exact hlt
       have htm:=take_map sSig hjx;rw[show l.schs[j]=ss[j].1 from HFX.out j hjx hjm] at htm;obtain⟨b,off,hA,hb,hc⟩:=Rd.row scCells 4 (fun _=>rfl) (by omega) (HLA.out.s.below hbr.out).rd hjm;simp only at hA;subst hA;generalize ss[j]=x at*;obtain⟨⟨nm,mo,da,br⟩,⟨ha,hn,hcc⟩⟩:=x;have HTM:=zH htm;have c0:=hc 0 _ rfl;have c1:=hc 1 _ rfl;have c2:=hc 2 _ rfl;have c3:=hc 3 _ rfl;simp only[Nat.add_zero] at c0;obtain⟨K,hK⟩:=zE ((fn+3*pn)+j);obtain⟨XS,hXS⟩:∃X,X=sgs ((l.facts.map fSig++opsL l 3)++(l.schs.take j).map sSig):=⟨_,rfl⟩
       rw[←hK,←hXS] at hown;have HXS:=zH hXS;have HK:=zH hK;have hKb:K≤5000:=by omega
       have HOA:Hid ((wr.alloc (.cells #[.string nm,.int .i64 mo,.int .i64 da,.slice ha hn hcc] 56)).ownsRow W.heap.size 83 5 u2 K XS):=hown.out.alloc _;have HBA:Hid (Below W.heap.size W (wr.alloc (.cells #[.string nm,.int .i64 mo,.int .i64 da,.slice ha hn hcc] 56))):=hbr.out.alloc hbr.out.size _;clear hown hbr hc htm hK hXS;go_wp2_with (at_builtin;go_must (refine wpList_push (wr.alloc (.cells #[.string nm,.int .i64 mo,.int .i64 da,.slice ha hn hcc] 56)) #[.int .i64 24,.string nm,.bool false,.int .i64 mo,.int .i64 da] rfl _ _ 32 rfl W.heap.size 83 _ 5 48 1 Tryz.underlying32 info_sig rfl (by decide) u2 K XS rfl HOA.out (by rw[World.size_alloc];rfl) rfl ?_ ?_ ?_ ?_ ?_))
       any_goals first|(unfold maxLen;omega)|omega
       ·exact⟨rfl,rfl,rfl,rfl,rfl⟩
       ·have hz:=HBA.out.size;rw[World.size_alloc] at hz;exact hz
       intro v' w' hown' hb';have HOWN:Hid (w'.ownsRow W.heap.size 83 5 v' ((fn+3*pn)+(j+1)) (sgs ((l.facts.map fSig++opsL l 3)++(l.schs.take (j+1)).map sSig))):=by show World.ownsRow _ _ _ _ _ _ _;rw[HTM.out,←List.append_assoc,sgs_append,←HXS.out,←Nat.add_assoc,←HK.out];exact hown'
       have HB:=zH (HBA.out.trans hb');clear hown' hb' c0;go_wp2
       go_roundg (sn-(j+1))
       case measure=>omega
       case rel=>exact⟨j+1,by omega,by go_num,HOWN,HB⟩
      ·have hjn:j=sn:=by omega
       have HST:Hid (wr.ownsRow W.heap.size 83 5 u2 ((fn+3*pn)+sn) (sgs ((l.facts.map fSig++opsL l 3)++l.schs.map sSig))):=by
        have h:=hown.out;rw[hjn] at h;rw[List.take_of_length_le (Nat.le_of_eq HSN.out.symm)] at h;exact h
       have HBW:=hbr;have hkc:=(HKL.out.below hbr.out HKL.out.lt).cells;clear hown hbr hjn;go_wp2;obtain⟨h,rfl,hn,hrow⟩:=RowAt.of_own (enc:=Sg.cells) HST.out (by rw[List.length_append,List.length_append,List.length_map,List.length_map,opsL_len,HFN.out,HPN.out,HSN.out]);go_ret;refine⟨h,rfl,?_,bstep HBA2.out HBW.out⟩;rw[sigsL_eq];exact hrow
theorem info_strU:(Tryz.prog.info? 9).map (fun i=>(i.zero,i.size,i.bytes))=some (some (.string ⟨#[]⟩),1,16):=by kernel_rfl
def strC (s:ByteArray):List Value:=[.string s]
def strs (l:List ByteArray):List Value:=l.flatMap strC
theorem strs_append (a b:List ByteArray):strs (a++b)=strs a++strs b:=List.flatMap_append
def RowFr {α:Type} (lo:Nat) (w:World) (enc:α→List Value) (xs:List α) (h:Hd):Prop:=RowAt w enc xs h∧∀ad,h.a=some ad→lo≤ad.block
theorem RowFr.onl {α:Type} {lo G:Nat} {w w':World} {enc:α→List Value} {xs:List α} {h:Hd} (k:RowFr lo w enc xs h) (ho:Onl G w w') (hG:G<lo):RowFr lo w' enc xs h:=by
 refine⟨⟨k.1.len,k.1.cap,k.1.max,?_⟩,k.2⟩;rcases k.1.rd with h0|⟨b,off,hA,hb,hc⟩
 ·exact .inl h0
 ·have hlo:lo≤b:=k.2 ⟨b,off,none⟩ hA;refine .inr ⟨b,off,hA,Nat.lt_of_lt_of_le hb ho.size,fun i hi=>?_⟩;rw[←hc i hi];exact World.cell?_of_block (ho.block b hb (by omega))
theorem RowFr.below {α:Type} {lo:Nat} {w w':World} {enc:α→List Value} {xs:List α} {h:Hd} (k:RowFr lo w enc xs h) (hb:Below w.heap.size w w'):RowFr lo w' enc xs h:=⟨k.1.below hb,k.2⟩
theorem RowFr.of_own {α:Type} {w:World} {enc:α→List Value} {xs:List α} {base m n:Nat} {e:TypeId} {v:Value} (h:w.ownsRow base e m v n (xs.flatMap enc)) (hn:n=xs.length):∃h:Hd,v=.slice h.a h.n h.c∧RowFr base w enc xs h:=by
 obtain⟨A,c,rfl,h1,h2,h3,h4⟩:=own_rd2 h;exact⟨⟨A,n,c⟩,rfl,⟨hn,h1,h2,h3⟩,h4⟩
theorem uLists_any (l:Lw) (ss:List (Sc × Hd)) (ps:List (Pv × Hd)) (f s p:Hd) (w:World) (h:LawAt w l ss ps f s p) (hf:FineL l):
  Calls Tryz.prog 84 #[lawV f s p] w fun e w'=>∃h0 h1 h2:Hd,e=.returned (.agg #[.slice h0.a h0.n h0.c,.slice h1.a h1.n h1.c,.slice h2.a h2.n h2.c])∧RowAt w' strC (l.facts.map Dc.name) h0∧RowAt w' strC (l.schs.map Sc.name) h1∧RowAt w' strC (l.provs.map Pv.name) h2∧Below w.heap.size w w':=by
 have hfn1:=hf.fn;have hsn1:=hf.sn;have hpn1:=hf.pn;obtain⟨fa,fn,fc⟩:=f;obtain⟨sa,sn,sc⟩:=s;obtain⟨pa,pn,pc⟩:=p;unfold lawV;simp only
 obtain⟨W,hW⟩:=zE ((w.alloc (.cells #[.slice fa fn fc,.slice sa sn sc,.slice pa pn pc] 30)).alloc (.cells #[.slice none 0 0,.slice none 0 0,.slice none 0 0] 156));have htwo:=kTwo_new w 30 156 #[.slice fa fn fc,.slice sa sn sc,.slice pa pn pc] #[.slice none 0 0,.slice none 0 0,.slice none 0 0];rw[←hW] at htwo;obtain⟨B,hB⟩:=zE w.heap.size;rw[←hB] at htwo;obtain⟨hk0,hk1,hba,hsz⟩:=htwo;have HKL:=zH hk0;have HKA:=zH hk1;rw[hB] at hba;have HBX:=zH hba;have HBB:=zH hB;have HSZ:Hid (W.heap.size=B+2):=hsz;have HLA:=zH h;have HFN:Hid (fn=l.facts.length):=h.f.len;have HSN:Hid (sn=l.schs.length):=by show _=_;rw[←h.sl,List.length_map];exact h.s.len
 have HPN:Hid (pn=l.provs.length):=by show _=_;rw[←h.pl,List.length_map];exact h.p.len
 rw[←HFN.out] at hfn1;rw[←HSN.out] at hsn1;rw[←HPN.out] at hpn1;have HFX:Hid (∀k (hk:k<l.schs.length) (hk':k<ss.length),l.schs[k]=ss[k].1):=fun k hk hk'=>by have e:=h.sl;simp[←e]
 have HPX:Hid (∀k (hk:k<l.provs.length) (hk':k<ps.length),l.provs[k]=ps[k].1):=fun k hk hk'=>by have e:=h.pl;simp[←e]
 clear h hf hk0 hk1 hba hsz;have hkc:=HKL.out.cells;go_enter Tryz.func84,Tryz.ntmps84
 go_upto_region 1 with fail
 simp only[←hW,←hB]
 clear hW hB;obtain⟨W0,hW0⟩:∃x,x=W:=⟨_,rfl⟩
 have HBW:Hid (Onl (B+1) W W0):=by rw[hW0];exact Onl.refl _ _
 rw[←hW0] at HKA HBX hkc⊢;clear hW0;go_wp2_with fail;have HB0:Hid (B+2≤W0.heap.size):=by have h1:=HSZ.out;have h2:=HBW.out.size;show _≤_;omega
 go_loopg [12] fn (fun g iv wr=>∃(j:Nat) (v:Value),j+g=fn∧iv=.int .i64 j∧Hid (Blk wr (B+1) 156 [v,.slice none 0 0,.slice none 0 0])∧Hid (wr.ownsRow W0.heap.size 9 1 v j (strs ((l.facts.take j).map Dc.name)))∧Hid (Onl (B+1) W0 wr)∧Hid (Below w.heap.size w wr))
 case atStart=>exact⟨0,.slice none 0 0,by omega,rfl,HKA,World.ownsRow_nil _ _ _ _,Onl.refl _ _,HBX⟩
 case round=>
  obtain⟨j,v,hj,rfl,hka,hown,hon,hbr⟩:=hrel;clear HKA HBX;by_cases hlt:j<fn
  ·have hjx:j<l.facts.length:=by rw[←HFN.out];exact hlt
   have hjm:j<l.facts.length:=by rw[←HLA.out.f.len];exact hlt
   have htm:=take_map Dc.name hjx;rw[show l.facts[j]=l.facts[j] from rfl] at htm;obtain⟨b,off,hA,hb,hc⟩:=Rd.row Dc.cells 4 (fun _=>rfl) (by omega) (HLA.out.f.below hbr.out).rd hjm;simp only at hA;subst hA;generalize l.facts[j]=x at*;obtain⟨nm,⟨tt,tm,td⟩⟩:=x;have HTM:=zH htm;have c0:=hc 0 _ rfl;have c1:=hc 1 _ rfl;have c2:=hc 2 _ rfl;have c3:=hc 3 _ rfl;simp only[Nat.add_zero] at c0;obtain⟨XS,hXS⟩:∃X,X=strs ((l.facts.take j).map Dc.name):=⟨_,rfl⟩
   rw[←hXS] at hown;have HXS:=zH hXS;have HOA:Hid ((wr.alloc (.cells #[.string nm,.bool tt,.int .i64 tm,.int .i64 td] 53)).ownsRow W0.heap.size 9 1 v j XS):=hown.out.alloc _;have hba:=(Below.refl wr.heap.size wr).alloc (Nat.le_refl _) (.cells #[.string nm,.bool tt,.int .i64 tm,.int .i64 td] 53);have HBA:Hid (Below w.heap.size w (wr.alloc (.cells #[.string nm,.bool tt,.int .i64 tm,.int .i64 td] 53))):=hbr.out.alloc hbr.out.size _;have HOA2:Hid (Onl (B+1) W0 (wr.alloc (.cells #[.string nm,.bool tt,.int .i64 tm,.int .i64 td] 53))):=hon.out.trans (Onl.of_below hba);have HKX:=zH (hka.out.below hba hka.out.lt);have hkx:∀j,(wr.alloc (.cells #[.string nm,.bool tt,.int .i64 tm,.int .i64 td] 53)).cell? ⟨B+1,j,none⟩=_:=HKX.out.cells;clear hown hbr hc htm hXS hba hon hka;go_wp2_with (at_builtin;go_must (refine wpList_push (wr.alloc (.cells #[.string nm,.bool tt,.int .i64 tm,.int .i64 td] 53)) #[.string nm] rfl _ _ 72 rfl W0.heap.size 9 _ 1 16 1 Tryz.underlying72 info_strU rfl (by decide) v j XS rfl HOA.out (by rw[World.size_alloc];rfl) rfl ?_ ?_ ?_ ?_ ?_))
   any_goals first|rfl|(unfold maxLen;omega)|omega
   ·have hz:=HOA2.out.size;rw[World.size_alloc] at hz;exact hz
   intro v' w' hown' hb';obtain⟨Av',cv',rfl,_⟩:=own_rd hown';have hka':=HKX.out.of_block (hb'.block (B+1) (by have:=HB0.out;omega));have hkc':=hka'.cells;have hkf':=hka'.froz;have HKA':=zH hka';have HOWN':=zH hown';have HBN:=zH hb';clear hown' hb' hka' c0 hkx;go_wp2
   go_roundg (fn-(j+1))
   case measure=>omega
   case rel=>
    refine⟨j+1,.slice Av' (j+1) cv',by omega,by go_num,HKA'.out.set 0 _,?_,(HOA2.out.more HBN.out).set 0 _,?_⟩
    ·show World.ownsRow _ _ _ _ _ _ _;rw[HTM.out,strs_append,←HXS.out];refine HOWN'.out.kept (grown_set w' (B+1) 0 _) (.inr (fun h=>?_));have h1:=(HOWN'.out.lt _ h).1;have:=HB0.out;omega
    ·exact (HBA.out.trans (HBN.out.mono (by have:=HB0.out;have:=HBB.out;omega))).setCell (p:=⟨B+1,0,none⟩) (by show _≤B+1;have:=HBB.out;omega) _
  ·have hjn:j=fn:=by omega
   have hown2:=hown.out;rw[hjn,List.take_of_length_le (Nat.le_of_eq HFN.out.symm)] at hown2;obtain⟨h0,rfl,hr0⟩:=RowFr.of_own (enc:=strC) hown2 (by rw[List.length_map];exact HFN.out);obtain⟨W1,hW⟩:∃x,x=wr:=⟨_,rfl⟩
   have HR0:Hid (RowFr (B+2) W1 strC (l.facts.map Dc.name) h0):=by rw[hW];exact⟨hr0.1,fun ad h=>Nat.le_trans HB0.out (hr0.2 ad h)⟩
   have HKA:Hid (Blk W1 (B+1) 156 [.slice h0.a h0.n h0.c,.slice none 0 0,.slice none 0 0]):=by rw[hW];exact hka
   have HBX:Hid (Below w.heap.size w W1):=by rw[hW];exact hbr
   have HBW:Hid (Onl (B+1) W W1):=by rw[hW];exact HBW.out.trans hon.out
   have hkc:∀j,W1.cell? ⟨B,j,none⟩=_:=(HBW.out.blk HKL.out (by omega)).cells;rw[←hW];clear hown hown2 hbr hka hon hjn hW HB0;go_wp2_with fail;have HB0:Hid (B+2≤W1.heap.size):=by have h1:=HSZ.out;have h2:=HBW.out.size;show _≤_;omega
   go_loopg [27] sn (fun g iv wr=>∃(j:Nat) (v:Value),j+g=sn∧iv=.int .i64 j∧Hid (Blk wr (B+1) 156 [.slice h0.a h0.n h0.c,v,.slice none 0 0])∧Hid (wr.ownsRow W1.heap.size 9 1 v j (strs ((l.schs.take j).map Sc.name)))∧Hid (Onl (B+1) W1 wr)∧Hid (Below w.heap.size w wr))
   case atStart=>exact⟨0,.slice none 0 0,by omega,rfl,HKA,World.ownsRow_nil _ _ _ _,Onl.refl _ _,HBX⟩
   case round=>
    obtain⟨j,v,hj,rfl,hka,hown,hon,hbr⟩:=hrel;clear HKA HBX;by_cases hlt:j<sn
    ·have hjx:j<l.schs.length:=by rw[←HSN.out];exact hlt
     have hjm:j<ss.length:=by rw[←HLA.out.s.len];exact hlt
     have htm:=take_map Sc.name hjx;rw[show l.schs[j]=ss[j].1 from HFX.out j hjx hjm] at htm;obtain⟨b,off,hA,hb,hc⟩:=Rd.row scCells 4 (fun _=>rfl) (by omega) (HLA.out.s.below hbr.out).rd hjm;simp only at hA;subst hA;generalize ss[j]=x at*;obtain⟨⟨nm,mo,da,br⟩,⟨ha,hn,hcc⟩⟩:=x;have HTM:=zH htm;have c0:=hc 0 _ rfl;have c1:=hc 1 _ rfl;have c2:=hc 2 _ rfl;have c3:=hc 3 _ rfl;simp only[Nat.add_zero] at c0;obtain⟨XS,hXS⟩:∃X,X=strs ((l.schs.take j).map Sc.name):=⟨_,rfl⟩
     rw[←hXS] at hown;have HXS:=zH hXS;have HOA:Hid ((wr.alloc (.cells #[.string nm,.int .i64 mo,.int .i64 da,.slice ha hn hcc] 56)).ownsRow W1.heap.size 9 1 v j XS):=hown.out.alloc _;have hba:=(Below.refl wr.heap.size wr).alloc (Nat.le_refl _) (.cells #[.string nm,.int .i64 mo,.int .i64 da,.slice ha hn hcc] 56);have HBA:Hid (Below w.heap.size w (wr.alloc (.cells #[.string nm,.int .i64 mo,.int .i64 da,.slice ha hn hcc] 56))):=hbr.out.alloc hbr.out.size _;have HOA2:Hid (Onl (B+1) W1 (wr.alloc (.cells #[.string nm,.int .i64 mo,.int .i64 da,.slice ha hn hcc] 56))):=hon.out.trans (Onl.of_below hba);have HKX:=zH (hka.out.below hba hka.out.lt);have hkx:∀j,(wr.alloc (.cells #[.string nm,.int .i64 mo,.int .i64 da,.slice ha hn hcc] 56)).cell? ⟨B+1,j,none⟩=_:=HKX.out.cells;clear hown hbr hc htm hXS hba hon hka;go_wp2_with (at_builtin;go_must (refine wpList_push (wr.alloc (.cells #[.string nm,.int .i64 mo,.int .i64 da,.slice ha hn hcc] 56)) #[.string nm] rfl _ _ 72 rfl W1.heap.size 9 _ 1 16 1 Tryz.underlying72 info_strU rfl (by decide) v j XS rfl HOA.out (by rw[World.size_alloc];rfl) rfl ?_ ?_ ?_ ?_ ?_))
     any_goals first|rfl|(unfold maxLen;omega)|omega
     ·have hz:=HOA2.out.size;rw[World.size_alloc] at hz;exact hz
     intro v' w' hown' hb';obtain⟨Av',cv',rfl,_⟩:=own_rd hown';have hka':=HKX.out.of_block (hb'.block (B+1) (by have:=HB0.out;omega));have hkc':=hka'.cells;have hkf':=hka'.froz;have HKA':=zH hka';have HOWN':=zH hown';have HBN:=zH hb';clear hown' hb' hka' c0 hkx;go_wp2
     go_roundg (sn-(j+1))
     case measure=>omega
     case rel=>
      refine⟨j+1,.slice Av' (j+1) cv',by omega,by go_num,HKA'.out.set 1 _,?_,(HOA2.out.more HBN.out).set 1 _,?_⟩
      ·show World.ownsRow _ _ _ _ _ _ _;rw[HTM.out,strs_append,←HXS.out];refine HOWN'.out.kept (grown_set w' (B+1) 1 _) (.inr (fun h=>?_));have h1:=(HOWN'.out.lt _ h).1;have:=HB0.out;omega
      ·exact (HBA.out.trans (HBN.out.mono (by have:=HB0.out;have:=HBB.out;omega))).setCell (p:=⟨B+1,1,none⟩) (by show _≤B+1;have:=HBB.out;omega) _
    ·have hjn:j=sn:=by omega
     have hown2:=hown.out;rw[hjn,List.take_of_length_le (Nat.le_of_eq HSN.out.symm)] at hown2;obtain⟨h1,rfl,hr1⟩:=RowFr.of_own (enc:=strC) hown2 (by rw[List.length_map];exact HSN.out);obtain⟨W2,hW⟩:∃x,x=wr:=⟨_,rfl⟩
     have HR1:Hid (RowFr (B+2) W2 strC (l.schs.map Sc.name) h1):=by rw[hW];exact⟨hr1.1,fun ad h=>Nat.le_trans HB0.out (hr1.2 ad h)⟩
     replace HR0:Hid (RowFr (B+2) W2 strC (l.facts.map Dc.name) h0):=by rw[hW];exact HR0.out.onl hon.out (by omega)
     have HKA:Hid (Blk W2 (B+1) 156 [.slice h0.a h0.n h0.c,.slice h1.a h1.n h1.c,.slice none 0 0]):=by rw[hW];exact hka
     have HBX:Hid (Below w.heap.size w W2):=by rw[hW];exact hbr
     have HBW:Hid (Onl (B+1) W W2):=by rw[hW];exact HBW.out.trans hon.out
     have hkc:∀j,W2.cell? ⟨B,j,none⟩=_:=(HBW.out.blk HKL.out (by omega)).cells;rw[←hW];clear hown hown2 hbr hka hon hjn hW HB0;go_wp2_with fail;have HB0:Hid (B+2≤W2.heap.size):=by have h1:=HSZ.out;have h2:=HBW.out.size;show _≤_;omega
     go_loopg [42] pn (fun g iv wr=>∃(j:Nat) (v:Value),j+g=pn∧iv=.int .i64 j∧Hid (Blk wr (B+1) 156 [.slice h0.a h0.n h0.c,.slice h1.a h1.n h1.c,v])∧Hid (wr.ownsRow W2.heap.size 9 1 v j (strs ((l.provs.take j).map Pv.name)))∧Hid (Onl (B+1) W2 wr)∧Hid (Below w.heap.size w wr))
     case atStart=>exact⟨0,.slice none 0 0,by omega,rfl,HKA,World.ownsRow_nil _ _ _ _,Onl.refl _ _,HBX⟩
     case round=>
      obtain⟨j,v,hj,rfl,hka,hown,hon,hbr⟩:=hrel;clear HKA HBX;by_cases hlt:j<pn
      ·have hjx:j<l.provs.length:=by rw[←HPN.out];exact hlt
       have hjm:j<ps.length:=by rw[←HLA.out.p.len];exact hlt
       have htm:=take_map Pv.name hjx;rw[show l.provs[j]=ps[j].1 from HPX.out j hjx hjm] at htm;obtain⟨b,off,hA,hb,hc⟩:=Rd.row pvCells 12 (fun _=>rfl) (by omega) (HLA.out.p.below hbr.out).rd hjm;simp only at hA;subst hA;generalize ps[j]=x at*;obtain⟨⟨nm,⟨tt,tm,td⟩,ch,⟨sn1,sn2,sn3⟩,⟨cn1,cn2,cn3⟩,bo⟩,⟨ha,hn,hcc⟩⟩:=x;have HTM:=zH htm;have c0:=hc 0 _ rfl;have c1:=hc 1 _ rfl;have c2:=hc 2 _ rfl;have c3:=hc 3 _ rfl;have c4:=hc 4 _ rfl;have c5:=hc 5 _ rfl;have c6:=hc 6 _ rfl;have c7:=hc 7 _ rfl;have c8:=hc 8 _ rfl;have c9:=hc 9 _ rfl;have c10:=hc 10 _ rfl;have c11:=hc 11 _ rfl;simp only[Nat.add_zero] at c0;obtain⟨XS,hXS⟩:∃X,X=strs ((l.provs.take j).map Pv.name):=⟨_,rfl⟩
       rw[←hXS] at hown;have HXS:=zH hXS;have HOA:Hid ((wr.alloc (.cells #[.string nm,.bool tt,.int .i64 tm,.int .i64 td,.slice ha hn hcc,.bool ch,.bool sn1,.string sn2,.string sn3,.bool cn1,.string cn2,.string cn3] 46)).ownsRow W2.heap.size 9 1 v j XS):=hown.out.alloc _;have hba:=(Below.refl wr.heap.size wr).alloc (Nat.le_refl _) (.cells #[.string nm,.bool tt,.int .i64 tm,.int .i64 td,.slice ha hn hcc,.bool ch,.bool sn1,.string sn2,.string sn3,.bool cn1,.string cn2,.string cn3] 46);have HBA:Hid (Below w.heap.size w (wr.alloc (.cells #[.string nm,.bool tt,.int .i64 tm,.int .i64 td,.slice ha hn hcc,.bool ch,.bool sn1,.string sn2,.string sn3,.bool cn1,.string cn2,.string cn3] 46))):=hbr.out.alloc hbr.out.size _;have HOA2:Hid (Onl (B+1) W2 (wr.alloc (.cells #[.string nm,.bool tt,.int .i64 tm,.int .i64 td,.slice ha hn hcc,.bool ch,.bool sn1,.string sn2,.string sn3,.bool cn1,.string cn2,.string cn3] 46))):=hon.out.trans (Onl.of_below hba);have HKX:=zH (hka.out.below hba hka.out.lt);have hkx:∀j,(wr.alloc (.cells #[.string nm,.bool tt,.int .i64 tm,.int .i64 td,.slice ha hn hcc,.bool ch,.bool sn1,.string sn2,.string sn3,.bool cn1,.string cn2,.string cn3] 46)).cell? ⟨B+1,j,none⟩=_:=HKX.out.cells;clear hown hbr hc htm hXS hba hon hka;go_wp2_with (at_builtin;go_must (refine wpList_push (wr.alloc (.cells #[.string nm,.bool tt,.int .i64 tm,.int .i64 td,.slice ha hn hcc,.bool ch,.bool sn1,.string sn2,.string sn3,.bool cn1,.string cn2,.string cn3] 46)) #[.string nm] rfl _ _ 72 rfl W2.heap.size 9 _ 1 16 1 Tryz.underlying72 info_strU rfl (by decide) v j XS rfl HOA.out (by rw[World.size_alloc];rfl) rfl ?_ ?_ ?_ ?_ ?_))
       any_goals first|rfl|(unfold maxLen;omega)|omega
       ·have hz:=HOA2.out.size;rw[World.size_alloc] at hz;exact hz
       intro v' w' hown' hb';obtain⟨Av',cv',rfl,_⟩:=own_rd hown';have hka':=HKX.out.of_block (hb'.block (B+1) (by have:=HB0.out;omega));have hkc':=hka'.cells;have hkf':=hka'.froz;have HKA':=zH hka';have HOWN':=zH hown';have HBN:=zH hb';clear hown' hb' hka' c0 hkx;go_wp2
       go_roundg (pn-(j+1))
       case measure=>omega
       case rel=>
        refine⟨j+1,.slice Av' (j+1) cv',by omega,by go_num,HKA'.out.set 2 _,?_,(HOA2.out.more HBN.out).set 2 _,?_⟩
        ·show World.ownsRow _ _ _ _ _ _ _;rw[HTM.out,strs_append,←HXS.out];refine HOWN'.out.kept (grown_set w' (B+1) 2 _) (.inr (fun h=>?_));have h1:=(HOWN'.out.lt _ h).1;have:=HB0.out;omega
        ·exact (HBA.out.trans (HBN.out.mono (by have:=HB0.out;have:=HBB.out;omega))).setCell (p:=⟨B+1,2,none⟩) (by show _≤B+1;have:=HBB.out;omega) _
      ·have hjn:j=pn:=by omega
       have hown2:=hown.out;rw[hjn,List.take_of_length_le (Nat.le_of_eq HPN.out.symm)] at hown2;obtain⟨h2,rfl,hr2⟩:=RowFr.of_own (enc:=strC) hown2 (by rw[List.length_map];exact HPN.out);obtain⟨W3,hW⟩:∃x,x=wr:=⟨_,rfl⟩
       have HR2:Hid (RowFr (B+2) W3 strC (l.provs.map Pv.name) h2):=by rw[hW];exact⟨hr2.1,fun ad h=>Nat.le_trans HB0.out (hr2.2 ad h)⟩
       replace HR0:Hid (RowFr (B+2) W3 strC (l.facts.map Dc.name) h0):=by rw[hW];exact HR0.out.onl hon.out (by omega)
       replace HR1:Hid (RowFr (B+2) W3 strC (l.schs.map Sc.name) h1):=by rw[hW];exact HR1.out.onl hon.out (by omega)
       have HKA:Hid (Blk W3 (B+1) 156 [.slice h0.a h0.n h0.c,.slice h1.a h1.n h1.c,.slice h2.a h2.n h2.c]):=by rw[hW];exact hka
       have HBX:Hid (Below w.heap.size w W3):=by rw[hW];exact hbr
       have HBW:Hid (Onl (B+1) W W3):=by rw[hW];exact HBW.out.trans hon.out
       have hkc:∀j,W3.cell? ⟨B,j,none⟩=_:=(HBW.out.blk HKL.out (by omega)).cells;rw[←hW];clear hown hown2 hbr hka hon hjn hW HB0;have hka:=HKA.out.cells;have hkf:=HKA.out.froz;have HSS:Hid (∀u0 u1 u2,Onl (B+1) W3 (((W3.setCell ⟨B+1,0,none⟩ u0).setCell ⟨B+1,1,none⟩ u1).setCell ⟨B+1,2,none⟩ u2)):=fun u0 u1 u2=>(((Onl.refl (B+1) W3).set 0 u0).set 1 u1).set 2 u2
       go_wp2;refine bodyPost_ret (v:=.agg #[.slice h0.a h0.n h0.c,.slice h1.a h1.n h1.c,.slice h2.a h2.n h2.c]) (by simp[results,Tryz.results84,go_sem,hka]) rfl ⟨h0,h1,h2,rfl,?_,?_,?_,?_⟩
       ·exact (HR0.out.onl (HSS.out _ _ _) (by omega)).1
       ·exact (HR1.out.onl (HSS.out _ _ _) (by omega)).1
       ·exact (HR2.out.onl (HSS.out _ _ _) (by omega)).1
       ·exact below_st3 (B:=B+1) HBX.out (by have:=HBB.out;omega) _ _ _
theorem zPg {P:Program} {W:World} {news:Array Value} {ops:Array Oper} {rest:List Oper} {o:Oper} {a:Act} {Q:Exit→Act→World→Prop} {s x:Operand} {t e:TypeId} {z v:Value} {base size bytes n:Nat} {xs:List Value} {a':Value→Act}
  (hinfo:(P.info? e).map (fun i=>(i.zero,i.size,i.bytes))=some (some z,size,bytes)) (ht:P.underlying t=some (.slice e)) (hown:W.ownsRow base e size v n xs) (hn:n≤100000) (hbase:base≤W.heap.size)
  (h:∀v' w',w'.ownsRow base e size v' (n+1) (xs++news.toList)→W.grownBy w' v.ownBlock→wpList P ops Q rest (a' v') w')
  (hgd:o.guard=none:=by rfl) (ho:o.op=.call {callee:=.builtin .append,args:=#[s,x],argTypes:=#[t,t]}:=by rfl) (hs:a.eval s=v:=by rfl) (hx:a.eval x=.slice (some ⟨W.heap.size,0,none⟩) 1 1:=by rfl)
  (hl:news.size=1*size:=by rfl) (hzs:z.cells.size=size:=by rfl) (hsz:0<size:=by decide) (hby:bytes≤1000:=by decide) (h1:∀u∈news.toList,u.oneCell'=true:=by (simp<;>(repeat' constructor)))
  (ha:∀v,a.put o.dst v=a' v:=by (intro v;rfl)):wpList P ops Q (o::rest) a (W.alloc (.cells news e)):=
 wpList_push_at W news hgd s x t ho base e z size bytes 1 ht hinfo hzs hsz v n xs hs hown hx hl h1 (by unfold maxLen;omega) (Nat.le_trans (Nat.mul_le_mul (show n+1≤100001 by omega) hby) (by decide)) hbase (fun v' w' h2 h3 _=>by rw[ha];exact h v' w' h2 h3)
section
variable {α:Type} {w:World} {A:Option Addr} {n c j:Nat}
theorem RowAt.at {enc:α→List Value} {xs:List α} (m:Nat) (hm:∀a,(enc a).length=m) (h0:0<m) (k:RowAt w enc xs ⟨A,n,c⟩) (hj:j<n):∃b off,A=some ⟨b,off,none⟩∧b<w.heap.size∧∃hx:j<xs.length,∀X,Below w.heap.size w X→∀i v,(enc xs[j])[i]?=some v→X.cell? ⟨b,off+j*m+i,none⟩=some v:=by
 have hx:j<xs.length:=by rw[←k.len];exact hj
 obtain⟨b,off,hA,hb,hc⟩:=Rd.row enc m hm h0 k.rd hx;exact⟨b,off,hA,hb,hx,fun X hX i v hv=>(hX.cell (p:=⟨b,off+j*m+i,none⟩) hb).trans (hc i v hv)⟩
theorem dc_at {xs:List Dc} (k:RowAt w Dc.cells xs ⟨A,n,c⟩) (hj:j<n):∃b off nm t m d,A=some ⟨b,off,none⟩∧b<w.heap.size∧∃hx:j<xs.length,xs[j]=⟨nm,⟨t,m,d⟩⟩∧∀X,Below w.heap.size w X→X.cell? ⟨b,off+j*4,none⟩=some (.string nm)∧X.cell? ⟨b,off+j*4+1,none⟩=some (.bool t)∧X.cell? ⟨b,off+j*4+2,none⟩=some (.int .i64 m)∧X.cell? ⟨b,off+j*4+3,none⟩=some (.int .i64 d):=by
 obtain⟨b,off,hA,hb,hx,hc⟩:=k.at 4 (fun _=>rfl) (by omega) hj;exact⟨b,off,_,_,_,_,hA,hb,hx,rfl,fun X hX=>⟨hc X hX 0 _ rfl,hc X hX 1 _ rfl,hc X hX 2 _ rfl,hc X hX 3 _ rfl⟩⟩
theorem sc_at {xs:List (Sc × Hd)} (k:RowAt w scCells xs ⟨A,n,c⟩) (hj:j<n):∃b off nm m d bs h,A=some ⟨b,off,none⟩∧b<w.heap.size∧∃hx:j<xs.length,xs[j]=(⟨nm,m,d,bs⟩,h)∧∀X,Below w.heap.size w X→X.cell? ⟨b,off+j*4,none⟩=some (.string nm)∧X.cell? ⟨b,off+j*4+1,none⟩=some (.int .i64 m)∧X.cell? ⟨b,off+j*4+2,none⟩=some (.int .i64 d)∧X.cell? ⟨b,off+j*4+3,none⟩=some (.slice h.a h.n h.c):=by
 obtain⟨b,off,hA,hb,hx,hc⟩:=k.at 4 (fun _=>rfl) (by omega) hj;exact⟨b,off,_,_,_,_,_,hA,hb,hx,rfl,fun X hX=>⟨hc X hX 0 _ rfl,hc X hX 1 _ rfl,hc X hX 2 _ rfl,hc X hX 3 _ rfl⟩⟩
theorem pv_at {xs:List (Pv × Hd)} (k:RowAt w pvCells xs ⟨A,n,c⟩) (hj:j<n):∃b off p,A=some ⟨b,off,none⟩∧b<w.heap.size∧∃hx:j<xs.length,xs[j]=p∧∀X,Below w.heap.size w X→X.cell? ⟨b,off+j*12,none⟩=some (.string p.1.name)∧X.cell? ⟨b,off+j*12+1,none⟩=some (.bool p.1.ty.truth)∧X.cell? ⟨b,off+j*12+2,none⟩=some (.int .i64 p.1.ty.money)∧X.cell? ⟨b,off+j*12+3,none⟩=some (.int .i64 p.1.ty.days)∧X.cell? ⟨b,off+j*12+4,none⟩=some (.slice p.2.a p.2.n p.2.c)∧X.cell? ⟨b,off+j*12+5,none⟩=some (.bool p.1.charge)∧
  X.cell? ⟨b,off+j*12+6,none⟩=some (.bool p.1.step.neg)∧X.cell? ⟨b,off+j*12+7,none⟩=some (.string p.1.step.num)∧X.cell? ⟨b,off+j*12+8,none⟩=some (.string p.1.step.den)∧X.cell? ⟨b,off+j*12+9,none⟩=some (.bool p.1.cap.neg)∧X.cell? ⟨b,off+j*12+10,none⟩=some (.string p.1.cap.num)∧X.cell? ⟨b,off+j*12+11,none⟩=some (.string p.1.cap.den):=by
 obtain⟨b,off,hA,hb,hx,hc⟩:=k.at 12 (fun _=>rfl) (by omega) hj;exact⟨b,off,_,hA,hb,hx,rfl,fun X hX=>⟨hc X hX 0 _ rfl,hc X hX 1 _ rfl,hc X hX 2 _ rfl,hc X hX 3 _ rfl,hc X hX 4 _ rfl,hc X hX 5 _ rfl,hc X hX 6 _ rfl,hc X hX 7 _ rfl,hc X hX 8 _ rfl,hc X hX 9 _ rfl,hc X hX 10 _ rfl,hc X hX 11 _ rfl⟩⟩
end
def nameOk (s:ByteArray):Bool:=nameB s.data.toList
theorem shp5:shp 5=⟨[102,97,99,116,46],0,false,true,false⟩:=rfl
theorem wrong_name (s:ByteArray):wrongN ⟨5,zR,s⟩=if nameOk s then 0 else 12:=by
 have h1:numOk ⟨5,zR,s⟩=true:=by unfold numOk;simp only[shp5];simp
 unfold wrongN;rw[h1];simp only[shp5]
 unfold nameOk;cases nameB s.data.toList<;>simp
theorem check_name (s:ByteArray):checkE [⟨5,zR,s⟩]=if nameOk s then 0 else 12:=by
 unfold checkE;rw[if_neg (by simp),chk,wrong_name];cases nameOk s
 ·rfl
 ·simp only[shp5];simp[chk]
theorem uName_any (s:ByteArray) (w:World) (hL:LaidE w):Calls Tryz.prog 31 #[.string s] w fun e w'=>e=.returned (.bool (nameOk s))∧Below w.heap.size w w':=by
 obtain⟨W,hW⟩:=zE (w.alloc (.cells #[.int .i64 5,.bool false,.string ⟨#[]⟩,.string ⟨#[]⟩,.string s] 59));obtain⟨B,hB⟩:=zE w.heap.size;have hK:Blk W B 59 [.int .i64 5,.bool false,.string ⟨#[]⟩,.string ⟨#[]⟩,.string s]:=by rw[hW,hB];exact Blk.new w _ _
 have HBA:Hid (Below w.heap.size w W):=by show Below _ _ _;rw[hW];exact zB _ _
 have HC:=zH (check_any [⟨5,zR,s⟩] (some ⟨B,0,none⟩) 1 1 W (hL.below HBA.out) rfl (Nat.le_refl _) (by unfold maxLen;omega) hK.rd (fun n hn=>by rw[List.mem_singleton.1 hn];exact⟨Nat.zero_le _,Nat.zero_le _⟩));rw[check_name] at HC;generalize nameOk s=q at*;clear hL hK;cases q
 ·go_enter Tryz.func31,Tryz.ntmps31;go_wp2_with fail;simp only[←hW,←hB]
  refine HC.out.mono ?_;rintro e w5 ⟨rfl,hb5⟩;have HB5:=zH (bstep HBA.out hb5);clear hb5 hW hB;go_wp2;go_ret;exact⟨rfl,HB5.out⟩
 ·go_enter Tryz.func31,Tryz.ntmps31;go_wp2_with fail;simp only[←hW,←hB]
  refine HC.out.mono ?_;rintro e w5 ⟨rfl,hb5⟩;have HB5:=zH (bstep HBA.out hb5);clear hb5 hW hB;go_wp2;go_ret;exact⟨rfl,HB5.out⟩
theorem uTyped1_any (x:Dc) (w:World):Calls Tryz.prog 86 #[.agg (Dc.cells x).toArray] w fun e w'=>e=.returned (.bool (!rightB x.ty))∧Below w.heap.size w w':=by
 have HU:=zH (fun W=>uIsType_any x.ty W);generalize rightB x.ty=q at*;obtain⟨nm,⟨tt,tm,td⟩⟩:=x;unfold Dc.cells;simp only[Ty.v] at HU⊢;obtain⟨W,hW⟩:=zE (w.alloc (.cells #[.string nm,.bool tt,.int .i64 tm,.int .i64 td] 53));have hkc:=(Blk.new w 53 #[.string nm,.bool tt,.int .i64 tm,.int .i64 td]).cells;have HBA:Hid (Below w.heap.size w W):=by show Below _ _ _;rw[hW];exact zB _ _
 rw[←hW] at hkc;obtain⟨B,hB⟩:=zE w.heap.size;rw[←hB] at hkc;go_enter Tryz.func86,Tryz.ntmps86
 go_upto_region 1 with fail
 simp only[←hW,←hB]
 clear hW hB;go_wp2_with fail;refine (HU.out W).mono ?_;rintro e w5 ⟨rfl,hb5⟩;have HBE:=zH (bstep HBA.out hb5);clear hb5;go_wp2;go_ret;exact⟨rfl,HBE.out⟩
theorem uTyped2_any (x:Pv × Hd) (w:World):Calls Tryz.prog 89 #[.agg (pvCells x).toArray] w fun e w'=>e=.returned (.bool (!rightB x.1.ty))∧Below w.heap.size w w':=by
 have HU:=zH (fun W=>uIsType_any x.1.ty W);generalize rightB x.1.ty=q at*;obtain⟨⟨nm,⟨tt,tm,td⟩,ch,⟨sn1,sn2,sn3⟩,⟨cn1,cn2,cn3⟩,bo⟩,⟨ha,hn,hcc⟩⟩:=x;unfold pvCells;simp only[Ty.v] at HU⊢;obtain⟨W,hW⟩:=zE (w.alloc (.cells #[.string nm,.bool tt,.int .i64 tm,.int .i64 td,.slice ha hn hcc,.bool ch,.bool sn1,.string sn2,.string sn3,.bool cn1,.string cn2,.string cn3] 46));have hkc:=(Blk.new w 46 #[.string nm,.bool tt,.int .i64 tm,.int .i64 td,.slice ha hn hcc,.bool ch,.bool sn1,.string sn2,.string sn3,.bool cn1,.string cn2,.string cn3]).cells;have HBA:Hid (Below w.heap.size w W):=by show Below _ _ _;rw[hW];exact zB _ _
 rw[←hW] at hkc;obtain⟨B,hB⟩:=zE w.heap.size;rw[←hB] at hkc;go_enter Tryz.func89,Tryz.ntmps89
 go_upto_region 1 with fail
 simp only[←hW,←hB]
 clear hW hB;go_wp2_with fail;refine (HU.out W).mono ?_;rintro e w5 ⟨rfl,hb5⟩;have HBE:=zH (bstep HBA.out hb5);clear hb5;go_wp2;go_ret;exact⟨rfl,HBE.out⟩
theorem uTyped3_any (x:Sc × Hd) (w:World):Calls Tryz.prog 91 #[.agg (scCells x).toArray] w fun e w'=>e=.returned (.bool (!unitB x.1.money x.1.days))∧Below w.heap.size w w':=by
 have HU:=zH (fun W=>kUnit_any x.1.money x.1.days W);generalize unitB x.1.money x.1.days=q at*;obtain⟨⟨nm,mo,da,br⟩,⟨ha,hn,hcc⟩⟩:=x;unfold scCells;simp only at HU⊢;obtain⟨W,hW⟩:=zE (w.alloc (.cells #[.string nm,.int .i64 mo,.int .i64 da,.slice ha hn hcc] 56));have hkc:=(Blk.new w 56 #[.string nm,.int .i64 mo,.int .i64 da,.slice ha hn hcc]).cells;have HBA:Hid (Below w.heap.size w W):=by show Below _ _ _;rw[hW];exact zB _ _
 rw[←hW] at hkc;obtain⟨B,hB⟩:=zE w.heap.size;rw[←hB] at hkc;go_enter Tryz.func91,Tryz.ntmps91
 go_upto_region 1 with fail
 simp only[←hW,←hB]
 clear hW hB;go_wp2_with fail;refine (HU.out W).mono ?_;rintro e w5 ⟨rfl,hb5⟩;have HBE:=zH (bstep HBA.out hb5);clear hb5;go_wp2;go_ret;exact⟨rfl,HBE.out⟩
theorem conDc_nil (A:Option Addr) (c:Nat) (fv:Value) (w:World):Calls Tryz.prog 85 #[.slice A 0 c,fv] w fun e w'=>e=.returned (.bool false)∧Below w.heap.size w w':=by
 have HBA:Hid (Below w.heap.size w w):=Below.refl _ _;go_enter Tryz.func85,Tryz.ntmps85;go_wp2
 go_loopg [8] 0 (fun g iv wr=>iv=.int .i64 0∧wr=w)
 case atStart=>exact⟨rfl,rfl⟩
 case round=>
  obtain⟨rfl,rfl⟩:=hrel;go_wp2;go_ret;exact⟨rfl,HBA.out⟩
theorem conDc_at (xs:List (Dc)) (h:Hd) (w:World) (hr:RowAt w Dc.cells xs h):
  Calls Tryz.prog 85 #[.slice h.a h.n h.c,.func (.func 86) #[] #[]] w fun e w'=>e=.returned (.bool (xs.any fun x=> !rightB x.ty))∧Below w.heap.size w w':=by
 by_cases h0:h.n=0
 ·have hx:xs=[]:=List.eq_nil_of_length_eq_zero (by rw[←hr.len];exact h0);subst hx;rw[h0];exact conDc_nil _ _ _ w
 ·have hlen:=hr.len;have hmx:=hr.max;have hcp:=hr.cap;obtain⟨b,off,hA,hb,_⟩:=Rd.row Dc.cells 4 (fun _=>rfl) (by omega) hr.rd (j:=0) (by omega);have eg:∀args w,(callFunc 86 args).run Tryz.prog w=.ok (.enter 86 args) w:=enters_of Tryz.func86 (by kernel_rfl) rfl;have hrd:=hr.rd;rw[hA] at hrd⊢
  letI:Inhabited (Dc):=⟨xs[0]'(by omega)⟩
  have hh:=AnyQ.slices_ContainsFunc Tryz.conD 4 Tryz.isAgg53 Tryz.sizeOf53 Dc.cells (fun _=>rfl) (fun x=> !rightB x.ty) 86 #[] eg b off h.n h.c xs w
   (fun W x hW=>(uTyped1_any x W).mono (fun e w' ⟨h1,h2⟩=>⟨h1,bstep hW h2⟩)) (by omega) (by unfold maxLen at hmx;omega) hb (fun j hj i v hv=>by
     obtain⟨b',off',hA',hb',hc'⟩:=Rd.row Dc.cells 4 (fun _=>rfl) (by omega) hrd hj;injection hA' with hA';injection hA' with h1 h2;subst h1 h2;refine hc' i v ?_;have e:=getElem!_pos xs j hj;rw[e] at hv;exact hv)
  rw[List.take_of_length_le (by omega)] at hh;exact hh
theorem conPv_nil (A:Option Addr) (c:Nat) (fv:Value) (w:World):Calls Tryz.prog 88 #[.slice A 0 c,fv] w fun e w'=>e=.returned (.bool false)∧Below w.heap.size w w':=by
 have HBA:Hid (Below w.heap.size w w):=Below.refl _ _;go_enter Tryz.func88,Tryz.ntmps88;go_wp2
 go_loopg [8] 0 (fun g iv wr=>iv=.int .i64 0∧wr=w)
 case atStart=>exact⟨rfl,rfl⟩
 case round=>
  obtain⟨rfl,rfl⟩:=hrel;go_wp2;go_ret;exact⟨rfl,HBA.out⟩
theorem conPv_at (xs:List (Pv × Hd)) (h:Hd) (w:World) (hr:RowAt w pvCells xs h):
  Calls Tryz.prog 88 #[.slice h.a h.n h.c,.func (.func 89) #[] #[]] w fun e w'=>e=.returned (.bool (xs.any fun x=> !rightB x.1.ty))∧Below w.heap.size w w':=by
 by_cases h0:h.n=0
 ·have hx:xs=[]:=List.eq_nil_of_length_eq_zero (by rw[←hr.len];exact h0);subst hx;rw[h0];exact conPv_nil _ _ _ w
 ·have hlen:=hr.len;have hmx:=hr.max;have hcp:=hr.cap;obtain⟨b,off,hA,hb,_⟩:=Rd.row pvCells 12 (fun _=>rfl) (by omega) hr.rd (j:=0) (by omega);have eg:∀args w,(callFunc 89 args).run Tryz.prog w=.ok (.enter 89 args) w:=enters_of Tryz.func89 (by kernel_rfl) rfl;have hrd:=hr.rd;rw[hA] at hrd⊢
  letI:Inhabited (Pv × Hd):=⟨xs[0]'(by omega)⟩
  have hh:=AnyQ.slices_ContainsFunc Tryz.conP 12 Tryz.isAgg46 Tryz.sizeOf46 pvCells (fun _=>rfl) (fun x=> !rightB x.1.ty) 89 #[] eg b off h.n h.c xs w
   (fun W x hW=>(uTyped2_any x W).mono (fun e w' ⟨h1,h2⟩=>⟨h1,bstep hW h2⟩)) (by omega) (by unfold maxLen at hmx;omega) hb (fun j hj i v hv=>by
     obtain⟨b',off',hA',hb',hc'⟩:=Rd.row pvCells 12 (fun _=>rfl) (by omega) hrd hj;injection hA' with hA';injection hA' with h1 h2;subst h1 h2;refine hc' i v ?_;have e:=getElem!_pos xs j hj;rw[e] at hv;exact hv)
  rw[List.take_of_length_le (by omega)] at hh;exact hh
theorem conSc_nil (A:Option Addr) (c:Nat) (fv:Value) (w:World):Calls Tryz.prog 90 #[.slice A 0 c,fv] w fun e w'=>e=.returned (.bool false)∧Below w.heap.size w w':=by
 have HBA:Hid (Below w.heap.size w w):=Below.refl _ _;go_enter Tryz.func90,Tryz.ntmps90;go_wp2
 go_loopg [8] 0 (fun g iv wr=>iv=.int .i64 0∧wr=w)
 case atStart=>exact⟨rfl,rfl⟩
 case round=>
  obtain⟨rfl,rfl⟩:=hrel;go_wp2;go_ret;exact⟨rfl,HBA.out⟩
theorem conSc_at (xs:List (Sc × Hd)) (h:Hd) (w:World) (hr:RowAt w scCells xs h):
  Calls Tryz.prog 90 #[.slice h.a h.n h.c,.func (.func 91) #[] #[]] w fun e w'=>e=.returned (.bool (xs.any fun x=> !unitB x.1.money x.1.days))∧Below w.heap.size w w':=by
 by_cases h0:h.n=0
 ·have hx:xs=[]:=List.eq_nil_of_length_eq_zero (by rw[←hr.len];exact h0);subst hx;rw[h0];exact conSc_nil _ _ _ w
 ·have hlen:=hr.len;have hmx:=hr.max;have hcp:=hr.cap;obtain⟨b,off,hA,hb,_⟩:=Rd.row scCells 4 (fun _=>rfl) (by omega) hr.rd (j:=0) (by omega);have eg:∀args w,(callFunc 91 args).run Tryz.prog w=.ok (.enter 91 args) w:=enters_of Tryz.func91 (by kernel_rfl) rfl;have hrd:=hr.rd;rw[hA] at hrd⊢
  letI:Inhabited (Sc × Hd):=⟨xs[0]'(by omega)⟩
  have hh:=AnyQ.slices_ContainsFunc Tryz.conS 4 Tryz.isAgg56 Tryz.sizeOf56 scCells (fun _=>rfl) (fun x=> !unitB x.1.money x.1.days) 91 #[] eg b off h.n h.c xs w
   (fun W x hW=>(uTyped3_any x W).mono (fun e w' ⟨h1,h2⟩=>⟨h1,bstep hW h2⟩)) (by omega) (by unfold maxLen at hmx;omega) hb (fun j hj i v hv=>by
     obtain⟨b',off',hA',hb',hc'⟩:=Rd.row scCells 4 (fun _=>rfl) (by omega) hrd hj;injection hA' with hA';injection hA' with h1 h2;subst h1 h2;refine hc' i v ?_;have e:=getElem!_pos xs j hj;rw[e] at hv;exact hv)
  rw[List.take_of_length_le (by omega)] at hh;exact hh
theorem any_not {α:Type} (p:α→Bool) (l:List α):(l.any fun x=> !p x)= !l.all p:=by
 induction l with
 |nil=>rfl
 |cons a l ih=>rw[List.any_cons,List.all_cons,ih,Bool.not_and]
theorem any_fst {α β:Type} (p:α→Bool) {l:List (α × β)} {l':List α} (h:l.map Prod.fst=l'):(l.any fun x=> !p x.1)= !l'.all p:=by
 subst h;rw[any_not (fun x:α × β=>p x.1),List.all_map];rfl
theorem uTyped_any (l:Lw) (ss:List (Sc × Hd)) (ps:List (Pv × Hd)) (f s p:Hd) (w:World) (h:LawAt w l ss ps f s p):
  Calls Tryz.prog 39 #[lawV f s p] w fun e w'=>e=.returned (.bool (typedL l))∧Below w.heap.size w w':=by
 have HA:=zH (fun W hb=>conDc_at l.facts f W (h.below (w':=W) hb).f);have HP:=zH (fun W hb=>conPv_at ps p W (h.below (w':=W) hb).p);have HS:=zH (fun W hb=>conSc_at ss s W (h.below (w':=W) hb).s)
 have HT:Hid (typedL l=(!(l.facts.any fun x=> !rightB x.ty)&&(!(ps.any fun x=> !rightB x.1.ty)&& !(ss.any fun x=> !unitB x.1.money x.1.days)))):=by
  show _=_;rw[any_not (fun x:Dc=>rightB x.ty),any_fst (fun x:Pv=>rightB x.ty) h.pl,any_fst (fun x:Sc=>unitB x.money x.days) h.sl,Bool.not_not,Bool.not_not,Bool.not_not];rfl
 rw[HT.out];generalize (l.facts.any fun x=> !rightB x.ty)=a at*;generalize (ps.any fun x=> !rightB x.1.ty)=b at*;generalize (ss.any fun x=> !unitB x.1.money x.1.days)=c at*;clear HT h;obtain⟨fa,fn,fc⟩:=f;obtain⟨sa,sn,sc⟩:=s;obtain⟨pa,pn,pc⟩:=p;unfold lawV;simp only at HA HP HS⊢;obtain⟨W,hW⟩:=zE (w.alloc (.cells #[.slice fa fn fc,.slice sa sn sc,.slice pa pn pc] 30));obtain⟨B,hB⟩:=zE w.heap.size;have HK:Hid (Blk W B 30 [.slice fa fn fc,.slice sa sn sc,.slice pa pn pc]):=by show Blk _ _ _ _;rw[hW,hB];exact Blk.new w _ _
 have HBA:Hid (Below w.heap.size w W):=by show Below _ _ _;rw[hW];exact zB _ _
 have hkc:=HK.out.cells;cases a
 ·cases b
  ·go_enter Tryz.func39,Tryz.ntmps39
   go_upto_region 1 with fail
   simp only[←hW,←hB]
   clear hW hB;go_wp2_with fail;refine (HA.out W HBA.out).mono ?_;rintro e w5 ⟨rfl,hb5⟩;have HB5:=zH (bstep HBA.out hb5);have HK5:=zH (HK.out.below hb5 HK.out.lt);have hk5:=HK5.out.cells;clear hb5;go_wp2_with fail;refine (HP.out w5 HB5.out).mono ?_;rintro e w6 ⟨rfl,hb6⟩;have HB6:=zH (bstep HB5.out hb6);have hk6:=(HK5.out.below hb6 HK5.out.lt).cells;clear hb6;go_wp2_with fail;refine (HS.out w6 HB6.out).mono ?_;rintro e w7 ⟨rfl,hb7⟩;have HB7:=zH (bstep HB6.out hb7);clear hb7;go_wp2;go_ret;exact⟨by simp,HB7.out⟩
  ·go_enter Tryz.func39,Tryz.ntmps39
   go_upto_region 1 with fail
   simp only[←hW,←hB]
   clear hW hB;go_wp2_with fail;refine (HA.out W HBA.out).mono ?_;rintro e w5 ⟨rfl,hb5⟩;have HB5:=zH (bstep HBA.out hb5);have HK5:=zH (HK.out.below hb5 HK.out.lt);have hk5:=HK5.out.cells;clear hb5;go_wp2_with fail;refine (HP.out w5 HB5.out).mono ?_;rintro e w6 ⟨rfl,hb6⟩;have HB6:=zH (bstep HB5.out hb6);clear hb6;go_wp2;go_ret;exact⟨by simp,HB6.out⟩
 ·go_enter Tryz.func39,Tryz.ntmps39
  go_upto_region 1 with fail
  simp only[←hW,←hB]
  clear hW hB;go_wp2_with fail;refine (HA.out W HBA.out).mono ?_;rintro e w5 ⟨rfl,hb5⟩;have HB5:=zH (bstep HBA.out hb5);clear hb5;go_wp2;go_ret;exact⟨by simp,HB5.out⟩
theorem tOf_any (n:Int) (w:World) (h0:0≤n) (h1:n≤9223372036854775807):Calls Tryz.prog 28 #[.int .i64 n] w fun e w'=>e=.returned (.agg #[.bool false,.string (nbs n.toNat),.string (nbs 1)])∧Below w.heap.size w w':=by
 obtain⟨W,hW⟩:=zE (w.alloc (.cells #[.bool false,.string ⟨#[]⟩,.string ⟨#[]⟩] 44));obtain⟨B,hB⟩:=zE w.heap.size;have HK:Hid (Blk W B 44 [.bool false,.string ⟨#[]⟩,.string ⟨#[]⟩]):=by show Blk _ _ _ _;rw[hW,hB];exact Blk.new w _ _
 have HBA:Hid (Below w.heap.size w W):=by show Below _ _ _;rw[hW];exact zB _ _
 have HBB:=zH (Nat.le_of_eq hB.symm);have HO:=zH (fun W=>rOf_any n W (by omega) h1);have HO1:=zH (fun W=>rOf_any 1 W (by omega) (by omega));rw[show (1:Int).toNat=1 from rfl] at HO1;have hn:¬n<0:=by omega
 go_enter Tryz.func28,Tryz.ntmps28
 go_upto_region 1 with fail
 simp only[←hW,←hB]
 clear hW hB;go_wp2_with fail;refine (HO.out W).mono ?_;rintro e w1 ⟨rfl,hb1⟩;go_wp2_with fail;refine (HO1.out w1).mono ?_;rintro e w2 ⟨rfl,hb2⟩;have hb12:=bstep hb1 hb2;have HK2:=zH (HK.out.below hb12 HK.out.lt);have HB2:=zH (bstep HBA.out hb12);have hkc:=HK2.out.cells;have hkf:=HK2.out.froz;clear hb1 hb2 hb12;go_wp2;have HKF:=((HK2.out.set 0 (.bool false)).set 1 (.string (nbs n.toNat))).set 2 (.string (nbs 1));have hc:=HKF.cells;refine bodyPost_ret (v:=.agg #[.bool false,.string (nbs n.toNat),.string (nbs 1)]) (by simp[results,Tryz.results28,go_sem,hc]) rfl ⟨rfl,?_⟩;exact ((HB2.out.setCell (p:=⟨B,0,none⟩) HBB.out _).setCell (p:=⟨B,1,none⟩) HBB.out _).setCell (p:=⟨B,2,none⟩) HBB.out _
def isName (q:ByteArray) (x:Pv × Hd):Bool:=decide (x.1.name=q)
theorem uFind1_any (x:Pv × Hd) (q:ByteArray) (b:Nat) (t:TypeId) (w:World) (hb:Blk w b t [.string q]):Calls Tryz.prog 68 #[.agg (pvCells x).toArray,.pointer (some ⟨b,0,none⟩)] w fun e w'=>e=.returned (.bool (isName q x))∧Below w.heap.size w w':=by
 obtain⟨⟨nm,⟨tt,tm,td⟩,ch,⟨s1,s2,s3⟩,⟨p1,p2,p3⟩,body⟩,⟨ha,hn,hcc⟩⟩:=x;unfold pvCells isName;simp only
 obtain⟨W,hW⟩:=zE (w.alloc (.cells #[.string nm,.bool tt,.int .i64 tm,.int .i64 td,.slice ha hn hcc,.bool ch,.bool s1,.string s2,.string s3,.bool p1,.string p2,.string p3] 46));obtain⟨B,hB⟩:=zE w.heap.size;have HK:Hid (Blk W B 46 [.string nm,.bool tt,.int .i64 tm,.int .i64 td,.slice ha hn hcc,.bool ch,.bool s1,.string s2,.string s3,.bool p1,.string p2,.string p3]):=by show Blk _ _ _ _;rw[hW,hB];exact Blk.new w _ _
 have HBA:Hid (Below w.heap.size w W):=by show Below _ _ _;rw[hW];exact zB _ _
 have hkc:=HK.out.cells;have hqc:W.cell? ⟨b,0,none⟩=some (.string q):=(hb.below HBA.out hb.lt).cells 0
 have HEQ:Hid ((nm.toList==q.toList)=decide (nm=q)):=by
  show _=_;rw[ByteArray.toList_eq,ByteArray.toList_eq]
  cases nm with|mk d=>cases q with|mk d'=>cases d with|mk l=>cases d' with|mk l'=>
   by_cases h:l=l'
   ·subst h;simp
   ·have h2:¬((⟨⟨l⟩⟩:ByteArray)=⟨⟨l'⟩⟩):=fun e=>h (by injection e with e;injection e)
    rw[decide_eq_false h2];simp[h]
 go_enter Tryz.func68,Tryz.ntmps68
 go_upto_region 1 with fail
 simp only[←hW,←hB]
 clear hW hB;go_wp2;go_ret;exact⟨by simp[HEQ.out],HBA.out⟩
def findL (q:ByteArray) (xs:List (Pv × Hd)) [Inhabited (Pv × Hd)]:Int:=Lib.idxBy (fun _ y=>isName q y) xs default
theorem idxPv_at (xs:List (Pv × Hd)) (h:Hd) (q:ByteArray) (b:Nat) (t:TypeId) (w:World) (hb:Blk w b t [.string q]) (hr:RowAt w pvCells xs h) (h0:0<xs.length) [hinh:Inhabited (Pv × Hd)]:
  Calls Tryz.prog 67 #[.slice h.a h.n h.c,.func (.func 68) #[] #[.pointer (some ⟨b,0,none⟩)]] w fun e w'=>e=.returned (.int .i64 (findL q xs))∧Below w.heap.size w w':=by
 have hlen:=hr.len;have hmx:=hr.max;have hcp:=hr.cap;obtain⟨g,off,hA,hg,_⟩:=Rd.row pvCells 12 (fun _=>rfl) (by omega) hr.rd (j:=0) (by omega);have eg:∀args w,(callFunc 68 args).run Tryz.prog w=.ok (.enter 68 args) w:=enters_of Tryz.func68 (by kernel_rfl) rfl;have hrd:=hr.rd;rw[hA] at hrd⊢
 have hh:=AnyQ.slices_IndexFunc Tryz.idxP 12 Tryz.isAgg46 Tryz.sizeOf46 pvCells (fun _=>rfl) (isName q) 68 #[.pointer (some ⟨b,0,none⟩)] eg g off h.n h.c xs w
  (fun W x hW=>(uFind1_any x q b t W (hb.below hW hb.lt)).mono (fun e w' ⟨h1,h2⟩=>⟨h1,bstep hW h2⟩)) (by omega) (by unfold maxLen at hmx;omega) hg (fun j hj i v hv=>by
    obtain⟨b',off',hA',hb',hc'⟩:=Rd.row pvCells 12 (fun _=>rfl) (by omega) hrd hj;injection hA' with hA';injection hA' with h1 h2;subst h1 h2;refine hc' i v ?_;have e:=getElem!_pos xs j hj;rw[e] at hv;exact hv)
 rw[List.take_of_length_le (by omega)] at hh;exact hh
theorem uFind_any (q:ByteArray) (xs:List (Pv × Hd)) (f s p:Hd) (w:World) (hr:RowAt w pvCells xs p) (h0:0<xs.length) [hinh:Inhabited (Pv × Hd)] (z:Int) (hz:findL q xs=z) (hz0:0≤z):
  Calls Tryz.prog 30 #[lawV f s p,.string q] w fun e w'=>e=.returned (.tuple #[.int .i64 z,.bool true])∧Below w.heap.size w w':=by
 obtain⟨fa,fn,fc⟩:=f;obtain⟨sa,sn,sc⟩:=s;obtain⟨pa,pn,pc⟩:=p;unfold lawV;simp only
 obtain⟨W,hW⟩:=zE ((w.alloc (.cells #[.slice fa fn fc,.slice sa sn sc,.slice pa pn pc] 30)).alloc (.cells #[.string q] 9));obtain⟨B,hB⟩:=zE w.heap.size;have HK:Hid (Blk W B 30 [.slice fa fn fc,.slice sa sn sc,.slice pa pn pc]):=by show Blk _ _ _ _;rw[hW,hB];exact (Blk.new w _ _).alloc _
 have HQ:Hid (Blk W (B+1) 9 [.string q]):=by
  show Blk _ _ _ _;rw[hW,hB];have h:=Blk.new (w.alloc (.cells #[.slice fa fn fc,.slice sa sn sc,.slice pa pn pc] 30)) 9 #[.string q];rw[World.size_alloc] at h;exact h
 have HBA:Hid (Below w.heap.size w W):=by show Below _ _ _;rw[hW];exact (zB _ _).alloc (by simp) _
 have HF:=zH (idxPv_at xs ⟨pa,pn,pc⟩ q (B+1) 9 W HQ.out (hr.below HBA.out) h0);rw[hz] at HF;simp only at HF;have hmf:∀(fn:Fn) (first cap:Array Value) (w:World),(Instr.makeFunc fn first cap).run Tryz.prog w=.ok (.func fn first cap) w:=fun _ _ _ _=>rfl
 have hkc:=HK.out.cells;have hmx:max z 0=z:=by omega
 clear hz hr;go_enter Tryz.func30,Tryz.ntmps30
 go_upto_region 1 with fail
 simp only[←hW,←hB]
 clear hW hB;go_wp2_with fail;refine HF.out.mono ?_;rintro e w2 ⟨rfl,hb2⟩;have HB2:=zH (bstep HBA.out hb2);clear hb2;go_wp2;go_ret2;exact⟨rfl,HB2.out⟩
end Go.Proofs.YtkgiaegmkncljaaGreatDoor
