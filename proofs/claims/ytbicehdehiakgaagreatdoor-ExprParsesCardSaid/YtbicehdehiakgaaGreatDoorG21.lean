/- A part of the proof: G7. -/
import Derived.Test.YtbicehdehiakgaaGreatDoorG20
set_option linter.unusedVariables false
set_option linter.unusedSimpArgs false
namespace Go.Proofs.YtbicehdehiakgaaGreatDoor
open Go.RowKit
theorem own_form {w:World} {base:Nat} {e:TypeId} {size:Nat} {v:Value} {n:Nat} {xs:List Value} (h:w.ownsRow base e size v n xs) (hn:0<n):∃g cap,v=.slice (some ⟨g,0,none⟩) n cap∧base≤g:=by
 rcases h.2 with⟨_,h0⟩|⟨g,cap,cur,hv,hb,_⟩
 ·omega
 ·exact⟨g,cap,hv,hb⟩
def swL (es:List Nd) (k:Nat) (x:Ra):List Nd:=es.modify k fun n=>⟨n.op,x,n.name⟩
def swapE (es:List Nd) (i:Int) (x:Ra):List Nd × Int:=
 if checkE es≠0 then ([],checkE es) else if i<0∨(es.length:Int)≤i then ([],1)
 else if (shp (es.getD i.toNat ⟨0,zR,⟨#[]⟩⟩).op).lit=true∨(shp (es.getD i.toNat ⟨0,zR,⟨#[]⟩⟩).op).stp=true then
  (if checkE (swL es i.toNat x)≠0 then ([],checkE (swL es i.toNat x)) else (swL es i.toNat x,0))
 else ([],1)
theorem swapE_ways (es:List Nd) (i:Int) (x:Ra):(checkE es≠0→swapE es i x=([],checkE es))∧(checkE es=0→(i<0∨(es.length:Int)≤i)→swapE es i x=([],1))∧
  (checkE es=0→∀(k:Nat) (n:Nd),es[k]?=some n→i=(k:Int)→(¬((shp n.op).lit=true∨(shp n.op).stp=true)→swapE es i x=([],1))∧
    ((shp n.op).lit=true∨(shp n.op).stp=true→swapE es i x=if checkE (swL es k x)≠0 then ([],checkE (swL es k x)) else (swL es k x,0))):=by
 refine⟨fun h=>by unfold swapE;rw[if_pos h],fun h h2=>by unfold swapE;rw[if_neg (by simp[h]),if_pos h2],?_⟩;rintro h k n hn rfl;have hk:k<es.length:=(List.getElem?_eq_some_iff.1 hn).1
 have e:es.getD (k:Int).toNat ⟨0,zR,⟨#[]⟩⟩=n:=by
  rw[Int.toNat_natCast,List.getD_eq_getElem?_getD,hn];rfl
 unfold swapE;rw[if_neg (by simp[h]),if_neg (by omega),e,Int.toNat_natCast];exact⟨fun hh=>by rw[if_neg hh],fun hh=>by rw[if_pos hh]⟩
theorem swL_length (es:List Nd) (k:Nat) (x:Ra):(swL es k x).length=es.length:=List.length_modify _ _ _
theorem swL_fine {es:List Nd} {k:Nat} {x:Ra} (h:∀n∈es,Fine n) (hx:x.num.size≤1048576∧x.den.size≤1048576):∀n∈swL es k x,Fine n:=by
 induction es generalizing k with
 |nil=>intro n hn;simp[swL] at hn
 |cons m es ih=>
  cases k with
  |zero=>
   intro n hn;rcases List.mem_cons.1 (show n∈(⟨m.op,x,m.name⟩:Nd)::es from hn) with rfl|hn
   ·exact hx
   ·exact h n (List.mem_cons_of_mem _ hn)
  |succ k=>
   intro n hn;rcases List.mem_cons.1 (show n∈m::swL es k x from hn) with rfl|hn
   ·exact h n (List.mem_cons_self ..)
   ·exact ih (fun n hn=>h n (List.mem_cons_of_mem _ hn)) n hn
theorem chk_op (e:List Nd):∀d,chk e d=0→∀n∈e,wrongN n=0:=by
 induction e with
 |nil=>intro d _ n hn;cases hn
 |cons m r ih=>
  intro d h n hn;rw[chk] at h;split at h
  ·next h1=>exact absurd h h1
  ·next h1=>
   split at h
   ·cases h
   ·rcases List.mem_cons.1 hn with rfl|hn
    ·simpa using h1
    ·exact ih _ h n hn
theorem checkE_wr {es:List Nd} (h:checkE es=0):∀n∈es,wrongN n=0:=by
 unfold checkE at h;split at h
 ·cases h
 ·exact chk_op es 0 h
theorem checkE_op {es:List Nd} (h:checkE es=0) (k:Nat) (hk:k<es.length):1≤es[k].op∧es[k].op≤24:=wrongN_op (checkE_wr h _ (List.getElem_mem hk))
theorem nds_swL (es:List Nd) (k:Nat) (x:Ra) (hk:k<es.length):
  (((nds es).set (k*5+1) (.bool x.neg)).set (k*5+2) (.string x.num)).set (k*5+3) (.string x.den)=nds (swL es k x):=by
 induction es generalizing k with
 |nil=>simp at hk
 |cons n es ih=>
  cases k with
  |zero=>rfl
  |succ k=>
   have:=ih k (by simpa using hk);show (((n.cells++nds es).set _ _).set _ _).set _ _=n.cells++nds (swL es k x);rw[←this];have hl:n.cells.length=5:=rfl;rw[List.set_append_right _ _ (by rw[hl];omega),List.set_append_right _ _ (by rw[hl];omega),List.set_append_right _ _ (by rw[hl];omega),hl];congr 1;rw[show (k+1)*5+1-5=k*5+1 from by omega,show (k+1)*5+2-5=k*5+2 from by omega,show (k+1)*5+3-5=k*5+3 from by omega]
theorem clone_any {es:List Nd} {b off l c:Nat} {W:World} (h:Es W es (some ⟨b,off,none⟩) l c) (h0:0<l) (h60:l≤60):
  Calls Tryz.prog 71 #[.slice (some ⟨b,off,none⟩) l c] W fun e w'=>∃v',e=.returned v'∧w'.ownsRow W.heap.size 33 5 v' l (nds es)∧Below W.heap.size W w':=by
 obtain⟨i,hi,hzz⟩:=Option.map_eq_some_iff.1 info_node;simp only[Prod.mk.injEq] at hzz;obtain⟨hz,hs1,hb⟩:=hzz;have hl:(nds es).length=l*5:=by rw[nds_length,h.len]
 obtain⟨b',off',e,_,hc⟩:=h.rd.at_ (k:=0) (by omega);injection e with e;injection e with e1 e2;subst e1 e2;refine (AnyE.slices_Clone Tryz.cloneN i _ 5 64 hi hz hs1 hb rfl (by decide) Tryz.sizeOf33 b off l c (nds es) W hl (by unfold maxLen;omega) (by omega) ?_ (nds_one _)).mono ?_
 ·intro j u hu;obtain⟨hj,hu⟩:=List.getElem?_eq_some_iff.1 hu;rw[hc j hj,hu]
 ·rintro e w' ⟨v',rfl,h1,_,h2⟩;exact⟨v',rfl,h1,h2⟩
set_option maxRecDepth 100000 in
set_option maxHeartbeats 3200000 in
theorem eSwap_any (es:List Nd) (i:Int) (x:Ra) (A1:Option Addr) (l1 c1:Nat) (w:World) (hL:LaidE w) (h1:Es w es A1 l1 c1) (hf1:∀n∈es,Fine n) (hx:x.num.size≤1048576∧x.den.size≤1048576):
  Calls Tryz.prog 33 #[.slice A1 l1 c1,.int .i64 i,x.v] w (RetEs (swapE es i x) w):=by
 have HV:=Lib.hid (swapE_ways es i x);have HC1:Hid (∀W,Below w.heap.size w W→Calls Tryz.prog 18 #[.slice A1 l1 c1] W fun e w'=>e=.returned (.int .i64 (checkE es))∧Below W.heap.size W w'):=fun W hb=>check_any es A1 l1 c1 W (hL.below hb) h1.len h1.cap h1.max (h1.rd.below hb) hf1
 have HC2:Hid (∀k A c W,k<es.length→Below w.heap.size w W→Es W (swL es k x) A l1 c→Calls Tryz.prog 18 #[.slice A l1 c] W fun e w'=>e=.returned (.int .i64 (checkE (swL es k x)))∧Below W.heap.size W w'):=fun k A c W _ hb h=>check_any (swL es k x) A l1 c W (hL.below hb) h.len h.cap h.max h.rd (swL_fine hf1 hx)
 have hk1:checkE es=0→l1≤60:=fun h=>by rw[h1.len];exact ((checkE_iff es).1 h).1
 have H1:=Lib.hid h1;have HOP:Hid (checkE es=0→∀k (h:k<es.length),1≤es[k].op∧es[k].op≤24):=fun h k hk=>checkE_op h k hk
 generalize swapE es i x=r at*;have HL:=Lib.hid hL;clear h1 hf1 hx hL;obtain⟨xn,xu,xd⟩:=x;unfold Ra.v;simp only
 obtain⟨W,hW⟩:∃W,W=w.alloc (.cells #[.bool xn,.string xu,.string xd] 31):=⟨_,rfl⟩
 have hba:Below w.heap.size w W:=by rw[hW];exact (Below.refl _ _).alloc (Nat.le_refl _) _
 have hk0:Blk W w.heap.size 31 [.bool xn,.string xu,.string xd]:=by rw[hW];exact Blk.new w _ _
 have hsz:W.heap.size=w.heap.size+1:=by rw[hW];exact Array.size_push _
 obtain⟨B,hB⟩:∃B,B=w.heap.size:=⟨_,rfl⟩
 have HB:=Lib.hid hB;rw[←hB] at hba hsz hk0;have hx0:=hk0.cells;rw[HB.out] at hba;by_cases hz1:checkE es=0
 ·have hk1:=hk1 hz1;have HOP:=Lib.hid (HOP.out hz1);have HZ:=Lib.hid hz1;by_cases hi:i<0∨(l1:Int)≤i
  ·have HR:Hid (r=([],1)):=HV.out.2.1 hz1 (by rw[←H1.out.len];exact hi);clear HV hz1;have hi2:(i<0)∨(0≤i∧(l1:Int)≤i):=by omega
   clear hi;rcases hi2 with hi|⟨hi,hi2⟩
   all_goals
    go_enter Tryz.func33,Tryz.ntmps33;go_wp2_with fail;simp only[←hW,←hB]
    clear hW hB;refine (HC1.out _ hba).mono ?_;rintro e w1 ⟨rfl,hb1⟩;rw[HZ.out];go_wp2;go_ret2;exact RetEs.bad HR.out (bstep hba hb1)
  ·obtain⟨k,rfl⟩:∃k:Nat,i=k:=⟨i.toNat,by omega⟩
   have hkl:k<l1:=by omega
   have hke:k<es.length:=by rw[←H1.out.len];exact hkl
   have hki:0≤(k:Int):=by omega
   have hki2:¬l1≤k:=by omega
   have hki3:decide (l1≤k)=false:=decide_eq_false hki2;obtain⟨b,off,hA,_,_⟩:=H1.out.rd.nd hke;subst hA;obtain⟨n,hn0⟩:∃n,es[k]?=some n:=⟨_,List.getElem?_eq_getElem hke⟩
   have hn1:es[k]=n:=(List.getElem?_eq_some_iff.1 hn0).2
   have HND:Hid (∀W,Below w.heap.size w W→NdAt W b (off+k*5) n):=fun W hb=>by
    obtain⟨b',off',e,_,h⟩:=(H1.out.rd.below hb).nd hke;injection e with e;injection e with e1 e2;subst e1 e2;rw[←hn1];exact h
   have hway:=HV.out.2.2 hz1 k n hn0 rfl;obtain⟨o1,o2⟩:=HOP.out k hke;rw[hn1] at o1 o2;clear hn0 hn1;have HK:=Lib.hid hke;clear HV hz1 hi HOP;obtain⟨op,hop⟩:∃op,n.op=op:=⟨_,rfl⟩
   rw[hop] at hway o1 o2;obtain⟨p,rfl⟩:∃p:Nat,op=p:=⟨op.toNat,by omega⟩
   have HCL:Hid (∀W,Below w.heap.size w W→Calls Tryz.prog 71 #[.slice (some ⟨b,off,none⟩) l1 c1] W fun e w'=>∃v',e=.returned v'∧w'.ownsRow W.heap.size 33 5 v' l1 (nds es)∧Below W.heap.size W w'):=fun W hb=>clone_any (H1.out.below hb) (by omega) (by omega)
   have HTB:Hid (∀W,Below w.heap.size w W→W.cell? ⟨0,p*5+2,none⟩=some (.bool (shp (p:Int)).lit)∧W.cell? ⟨0,p*5+4,none⟩=some (.bool (shp (p:Int)).stp)):=fun W hb=>
    ⟨(HL.out.below hb).cell p 2 (by omega) (by omega),(HL.out.below hb).cell p 4 (by omega) (by omega)⟩
   generalize (shp (p:Int)).lit=li at*;generalize (shp (p:Int)).stp=st at*
   have HNC:Hid (∀W,Below w.heap.size w W→W.cell? ⟨b,off+k*5,none⟩=some (.int .i64 (p:Int))):=fun W hb=>by
    have:=(HND.out W hb).1;rwa[hop] at this
   clear hop;by_cases hls:li=true∨st=true
   ·have HW:=Lib.hid (hway.2 hls)
    have hls2:li=true∨(li=false∧st=true):=by
     cases li
     ·exact .inr ⟨rfl,by simpa using hls⟩
     ·exact .inl rfl
    clear hway hls;rcases hls2 with rfl|⟨rfl,rfl⟩
    all_goals
     go_enter Tryz.func33,Tryz.ntmps33;go_wp2_with fail;simp only[←hW,←hB]
     clear hW hB;refine (HC1.out _ hba).mono ?_;rintro e w1 ⟨rfl,hb1⟩;rw[HZ.out];have hk2:=hk0.below hb1 hk0.lt;have hx1:=hk2.cells;have hB1:=bstep hba hb1;have hn:=HNC.out _ hB1;obtain⟨t2,t4⟩:=HTB.out _ hB1;have HLT:Hid (B<w1.heap.size):=hk2.lt;have HW1:Hid (w.heap.size≤w1.heap.size):=hB1.size;go_wp2_with fail;clear t2 t4 hn hx1 hx0;refine (HCL.out _ hB1).mono ?_;rintro e w2 ⟨v',rfl,hown,hb2⟩;have hkx:=hk2.below hb2 hk2.lt;have hB2:=bstep hB1 hb2;clear hk2 hb2 hB1 hb1;obtain⟨g,cp,rfl,hge⟩:=own_form hown (by omega);have hgB:B≠g:=by have:=HLT.out;omega
     have hgw:w.heap.size≤g:=Nat.le_trans HW1.out hge;have hcx:=hkx.cells;obtain⟨y,hy⟩:∃y,es[k]?=some y:=⟨_,List.getElem?_eq_getElem HK.out⟩
     have hy2:es[k]'HK.out=y:=(List.getElem?_eq_some_iff.1 hy).2;have s1:=(hown.cellAt (k*5+1) (by omega)).trans (nds_get es k 1 HK.out (by omega));have s2:=(hown.cellAt (k*5+2) (by omega)).trans (nds_get es k 2 HK.out (by omega));have s3:=(hown.cellAt (k*5+3) (by omega)).trans (nds_get es k 3 HK.out (by omega));rw[hy2] at s1 s2 s3;simp only[Nd.cells,List.getElem?_cons_succ,List.getElem?_cons_zero] at s1 s2 s3;have q1:=hown.frozenAt (k*5+1);have q2:=hown.frozenAt (k*5+2);have q3:=hown.frozenAt (k*5+3);have ho3:=(((hown.stored (k*5+1) (.bool xn)).1.stored (k*5+2) (.string xu)).1.stored (k*5+3) (.string xd)).1;rw[nds_swL es k ⟨xn,xu,xd⟩ HK.out] at ho3;have hB3:=((hB2.setCell (p:=⟨g,k*5+1,none⟩) hgw (.bool xn)).setCell (p:=⟨g,k*5+2,none⟩) hgw (.string xu)).setCell (p:=⟨g,k*5+3,none⟩) hgw (.string xd);obtain⟨w3,hw3⟩:∃x,x=(((w2.setCell ⟨g,k*5+1,none⟩ (.bool xn)).setCell ⟨g,k*5+2,none⟩ (.string xu)).setCell ⟨g,k*5+3,none⟩ (.string xd)):=⟨_,rfl⟩
     rw[←hw3] at ho3 hB3;obtain⟨A3,c3,hv3,g1,g2,g3,g4⟩:=own_rd ho3;injection hv3 with e1 e2 e3;subst e1 e3;have hE3:Es w3 (swL es k ⟨xn,xu,xd⟩) (some ⟨g,0,none⟩) l1 cp:=⟨by rw[swL_length];exact H1.out.len,g1,g2,g3⟩
     have HE3:=Lib.hid hE3;have HB3:=Lib.hid hB3;clear hown hkx hB2 hy hy2 ho3 hB3 hE3 g1 g2 g3 g4 hge;go_wp2_with fail;simp only[←hw3]
     clear hcx s1 s2 s3 q1 q2 q3 hw3;refine (HC2.out k _ _ _ HK.out HB3.out HE3.out).mono ?_;rintro e w4 ⟨rfl,hb4⟩;have HE4:=Lib.hid (HE3.out.below hb4);have HB4:=Lib.hid (bstep HB3.out hb4);clear hb4;by_cases hz:checkE (swL es k ⟨xn,xu,xd⟩)=0
     ·have HR:Hid (r=(swL es k ⟨xn,xu,xd⟩,0)):=by
       have:=HW.out;rwa[if_neg (by simp[hz])] at this
      rw[hz];clear hz;go_wp2;go_ret2;exact⟨some ⟨g,0,none⟩,l1,cp,by rw[HR.out];rfl,by rw[HR.out];exact HE4.out,HB4.out⟩
     ·have HR:Hid (r=([],checkE (swL es k ⟨xn,xu,xd⟩))):=by
       have:=HW.out;rwa[if_pos hz] at this
      obtain⟨zz,hzz⟩:∃zz,checkE (swL es k ⟨xn,xu,xd⟩)=zz:=⟨_,rfl⟩
      rw[hzz] at hz HR⊢;have e1:(zz !=0)=true:=by simp[hz]
      clear hz hzz;go_wp2;go_ret2;exact RetEs.bad HR.out HB4.out
   ·have HR:Hid (r=([],1)):=hway.1 hls
    obtain⟨rfl,rfl⟩:li=false∧st=false:=by
     cases li<;>cases st<;>simp_all
    clear hway hls;go_enter Tryz.func33,Tryz.ntmps33;go_wp2_with fail;simp only[←hW,←hB]
    clear hW hB;refine (HC1.out _ hba).mono ?_;rintro e w1 ⟨rfl,hb1⟩;rw[HZ.out];have hB1:=bstep hba hb1;have hn:=HNC.out _ hB1;obtain⟨t2,t4⟩:=HTB.out _ hB1;go_wp2;go_ret2;exact RetEs.bad HR.out hB1
 ·have HR:Hid (r=([],checkE es)):=HV.out.1 hz1;obtain⟨zz,hzz⟩:∃zz,checkE es=zz:=⟨_,rfl⟩
  rw[hzz] at hz1 HR HC1;have e1:(zz !=0)=true:=by simp[hz1]
  clear HV hz1 hzz hk1 HOP;go_enter Tryz.func33,Tryz.ntmps33;go_wp2_with fail;simp only[←hW,←hB]
  clear hW hB;refine (HC1.out _ hba).mono ?_;rintro e w1 ⟨rfl,hb1⟩;go_wp2;go_ret2;exact RetEs.bad HR.out (bstep hba hb1)
end Go.Proofs.YtbicehdehiakgaaGreatDoor
