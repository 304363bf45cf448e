/- A part of the proof: L2 Gf. -/
import Derived.Test.YtbicehdehiakgaaGreatDoorG00
import Derived.Test.YtbicehdehiakgaaGreatDoorG25
import Derived.Test.YtbicehdehiakgaaGreatDoorG26
import Derived.Test.YtbicehdehiakgaaGreatDoorG27
import Derived.Test.YtbicehdehiakgaaGreatDoorG33
set_option linter.unusedVariables false
set_option linter.unusedSimpArgs false
namespace Go.Proofs.YtbicehdehiakgaaGreatDoor
open Go.RowKit
def sE1:List Nd:=[nmN 5 (⟨#[119,97,103,101]⟩:ByteArray),⟨3,halfR,⟨#[]⟩⟩,plN 11]
def sE2:List Nd:=[nmN 5 (⟨#[97,103,101]⟩:ByteArray),nuN 3 18,plN 16,nuN 1 0,nmN 6 (⟨#[98,97,115,101]⟩:ByteArray),nuN 21 100,plN 15]
def sE3:List Nd:=[nmN 6 (⟨#[98]⟩:ByteArray),nmN 5 (⟨#[98]⟩:ByteArray),nmN 6 (⟨#[98]⟩:ByteArray),plN 9,plN 9]
def sE4:List Nd:=[nuN 1 1]
def sE5:List Nd:=[nuN 3 7,nuN 21 5]
def sE6:List Nd:=[nuN 1 1,nmN 5 (⟨#[98]⟩:ByteArray),nuN 1 1,plN 9,plN 9]
def sE7:List Nd:=[nuN 3 8,nuN 21 5]
def sE8:List Nd:=[nmN 5 (⟨#[98]⟩:ByteArray),nmN 6 (⟨#[98]⟩:ByteArray)]
theorem f_c1:checkE sE1=0:=by decide+kernel
theorem f_t1:textE sE1=[109,117,108,40,102,97,99,116,46,119,97,103,101,44,32,49,47,50,41]:=by decide+kernel
theorem f_c2:checkE sE2=0:=by decide+kernel
theorem f_t2:textE sE2=[105,102,40,108,101,115,115,40,102,97,99,116,46,97,103,101,44,32,49,56,41,44,32,36,48,44,32,100,111,119,110,91,49,48,48,93,40,111,119,110,46,98,97,115,101,41,41]:=by decide+kernel
theorem f_p2:parseE [105,102,40,108,101,115,115,40,102,97,99,116,46,97,103,101,44,32,49,56,41,44,32,36,48,44,32,100,111,119,110,91,49,48,48,93,40,111,119,110,46,98,97,115,101,41,41]=(sE2,0):=by
 have h:=(parseA_iff [105,102,40,108,101,115,115,40,102,97,99,116,46,97,103,101,44,32,49,56,41,44,32,36,48,44,32,100,111,119,110,91,49,48,48,93,40,111,119,110,46,98,97,115,101,41,41] sE2).2 ⟨f_c2,f_t2⟩;unfold parseE;rw[h]
theorem f_a2:argsE sE2=[[],[],[0,1],[],[],[4],[2,3,5]]:=by decide+kernel
theorem f_r3:refsE sE3=sE8:=by decide+kernel
theorem f_s3:substE sE3 (⟨#[98]⟩:ByteArray) sE4=(sE6,0):=by decide+kernel
theorem f_c6:checkE sE6=0:=by decide+kernel
theorem f_t6:textE sE6=[97,100,100,40,36,49,44,32,97,100,100,40,102,97,99,116,46,98,44,32,36,49,41,41]:=by decide+kernel
theorem f_w0:swapE sE5 1 (ofI 0)=([],11):=by decide+kernel
theorem f_w1:swapE sE5 0 (ofI 8)=(sE7,0):=by decide+kernel
theorem f_c7:checkE sE7=0:=by decide+kernel
theorem f_t7:textE sE7=[100,111,119,110,91,53,93,40,56,41]:=by decide+kernel
theorem f_n0:checkE []=11:=by decide+kernel
theorem f_n1:checkE [plN 9]=11:=by decide+kernel
theorem f_n2:checkE [plN 6]=12:=by decide+kernel
theorem f_d:sE3≠sE5:=by decide+kernel
theorem f_b0:parseE [97,100,100,40,49,44,50,41]=([],11):=by decide+kernel
theorem f_b1:parseE [48,49]=([],11):=by decide+kernel
theorem f_b2:parseE [50,47,52]=([],11):=by decide+kernel
theorem f_b3:parseE [111,119,110,46]=([],11):=by decide+kernel
theorem f_b4:parseE [110,101,97,114,91,48,93,40,49,41]=([],11):=by decide+kernel
theorem f_fine:∀n∈sE1++sE2++sE3++sE4++sE5++sE6++sE7++[plN 9,plN 6],Fine n:=by unfold Fine;decide+kernel
theorem place_eq {os:List Nd} {n:Nd} {m:Nat} (h1:m≤os.length) (h2:∀x∈os.take m,befN x n=true) (h3:∀h:m<os.length,befN os[m] n=false):place os n=m:=by
 unfold place
 have e:os.takeWhile (befN · n)=os.take m:=by
  conv=>lhs;rw[←List.take_append_drop m os]
  rw[List.takeWhile_append_of_pos h2]
  have:(os.drop m).takeWhile (befN · n)=[]:=by
   by_cases hm:m<os.length
   ·rw[List.drop_eq_getElem_cons hm,List.takeWhile_cons_of_neg (by rw[h3 hm];simp)]
   ·rw[List.drop_eq_nil_of_le (by omega)];rfl
  rw[this,List.append_nil]
 rw[e,List.length_take,Nat.min_eq_left h1]
theorem ins_at {os:List Nd} {n:Nd} {m:Nat} (h1:m≤os.length) (h2:∀x∈os.take m,befN x n=true) (h3:∀h:m<os.length,befN os[m] n=false):ins os n=if os[m]?=some n then os else os.take m++[n]++os.drop m:=by
 unfold ins;rw[place_eq h1 h2 h3]
theorem eqNd_if {α:Type} (f:Bool→α) (a b:Nd):
  (if a.op=b.op then if a.num.neg=b.num.neg then if a.num.num.toList=b.num.num.toList then if a.num.den.toList=b.num.den.toList then if a.name.toList=b.name.toList then f true else f false else f false else f false else f false else f false)=f (decide (a=b)):=by
 by_cases h:a=b
 ·subst h;simp
 ·rw[decide_eq_false h];split
  ·split
   ·split
    ·split
     ·split
      ·next h1 h2 h3 h4 h5=>
       exfalso;apply h;obtain⟨x,⟨y,z,u⟩,v⟩:=a;obtain⟨x',⟨y',z',u'⟩,v'⟩:=b;simp only at h1 h2 h3 h4 h5;rw[h1,h2,toList_inj h3,toList_inj h4,toList_inj h5]
      ·rfl
     ·rfl
    ·rfl
   ·rfl
  ·rfl
theorem nds_take (os:List Nd) (m:Nat):nds (os.take m)=(nds os).take (m*5):=by
 have h:nds os=nds (os.take m)++nds (os.drop m):=by rw[←nds_append,List.take_append_drop]
 by_cases hm:m≤os.length
 ·rw[h,List.take_left' (by rw[nds_length,List.length_take,Nat.min_eq_left hm])]
 ·rw[List.take_of_length_le (by omega),List.take_of_length_le (by rw[nds_length];omega)]
theorem nds_drop (os:List Nd) (m:Nat):nds (os.drop m)=(nds os).drop (m*5):=by
 have h:nds os=nds (os.take m)++nds (os.drop m):=by rw[←nds_append,List.take_append_drop]
 by_cases hm:m≤os.length
 ·rw[h,List.drop_left' (by rw[nds_length,List.length_take,Nat.min_eq_left hm])]
 ·rw[List.drop_eq_nil_of_le (by omega),List.drop_eq_nil_of_le (by rw[nds_length];omega)];rfl
theorem Rd.drop {w:World} {A:Option Addr} {cs:List Value} (h:Rd w A cs) (m:Nat):Rd w (A.map (·.add m)) (cs.drop m):=by
 rcases h with rfl|⟨b,off,rfl,hb,hc⟩
 ·exact .inl (by simp)
 ·refine .inr ⟨b,off+m,?_,hb,fun i hi=>?_⟩
  ·simp only[Option.map_some,Option.some.injEq]
   unfold Addr.add;split<;>simp_all
  ·rw[List.length_drop] at hi;rw[List.getElem_drop,Nat.add_assoc];exact hc (m+i) (by omega)
theorem Rd.drop_some {w:World} {b off:Nat} {cs:List Value} (h:Rd w (some ⟨b,off,none⟩) cs) (m:Nat):Rd w (some ⟨b,off+m,none⟩) (cs.drop m):=by
 have:=h.drop m;rwa[Option.map_some,show (⟨b,off,none⟩:Addr).add m=⟨b,off+m,none⟩ from by unfold Addr.add;split<;>simp_all] at this
set_option maxRecDepth 100000 in
set_option maxHeartbeats 3200000 in
theorem gRefs_any (es:List Nd) (A1:Option Addr) (l1 c1:Nat) (w:World) (h1:Es w es A1 l1 c1) (hf1:∀n∈es,Fine n):
  Calls Tryz.prog 43 #[.slice A1 l1 c1] w fun e w'=>∃A n c,e=.returned (.slice A n c)∧Es w' (refsE es) A n c∧Below w.heap.size w w':=by
 have HC:=Lib.hid (gCheck_any es A1 l1 c1 w h1.len h1.cap h1.max h1.rd hf1);have H1:=Lib.hid h1;by_cases hz:checkE es=0
 ·have hk:=((checkE_iff es).1 hz).1;rw[←h1.len] at hk;have HRE:Hid (refsE es=insL es []):=by show _=_;unfold refsE;rw[if_pos hz]
  generalize refsE es=re at*;rw[hz] at HC;clear hz h1 hf1;go_enter Tryz.func43,Tryz.ntmps43;go_wp2_with fail;refine HC.out.mono ?_;rintro e w1 ⟨rfl,hb1⟩;go_wp2
  go_loopg [4,5] l1 (fun g ov iv wr=>∃(k:Nat) (os:List Nd) (A:Option Addr) (c:Nat),k+g=l1∧iv=.int .i64 k∧ov=.slice A os.length c∧Hid (Es wr os A os.length c)∧Hid (os=insL (es.take k) [])∧os.length≤k∧Below w.heap.size w wr)
  case atStart=>exact⟨0,[],none,0,by omega,rfl,rfl,Es.nil _,rfl,Nat.le_refl _,hb1⟩
  case round=>
   obtain⟨k,os,A,c,hk',rfl,rfl,hes,hos,hol,hbr⟩:=hrel;clear hb1;have HES:Hid (Es wr os A os.length c):=hes.out;by_cases hlt:k<l1
   ·have hke:k<es.length:=by rw[←H1.out.len];exact hlt
    obtain⟨W0,rfl⟩:∃W0:World,W0=wr:=⟨_,rfl⟩
    obtain⟨b,off,hA,hb,hc0,hc1,hc2,hc3,hc4⟩:=(H1.out.rd.below hbr).nd hke;subst hA
    have HT:Hid (insL (es.take (k+1)) []=if (shp es[k].op).nam then ins os es[k] else os):=by
     show _=_;rw[List.take_succ_eq_append_getElem hke,insL_snoc,←hos.out]
    have HBF:=Lib.hid (fun (x:Nd) W=>gBefore_any x es[k] W);generalize es[k]=n at*;obtain⟨op,⟨neg,num,den⟩,nm⟩:=n;simp only at hc0 hc1 hc2 hc3 hc4 HT;have HBK:Hid (b<W0.heap.size):=hb;have HNM:=Lib.hid (fun W=>gNamed_any op W);generalize (shp op).nam=nd at*;have HCK:Hid (∀W',Below W0.heap.size W0 W'→W'.cell? ⟨b,off+k*5,none⟩=some (.int .i64 op)∧W'.cell? ⟨b,off+k*5+1,none⟩=some (.bool neg)∧W'.cell? ⟨b,off+k*5+2,none⟩=some (.string num)∧W'.cell? ⟨b,off+k*5+3,none⟩=some (.string den)∧W'.cell? ⟨b,off+k*5+4,none⟩=some (.string nm)):=fun W' hW=>⟨(hW.cell hb).trans hc0,(hW.cell hb).trans hc1,(hW.cell hb).trans hc2,(hW.cell hb).trans hc3,(hW.cell hb).trans hc4⟩
    clear hos hes hb hc1 hc2 hc3 hc4;go_wp2_with fail;refine (HNM.out _).mono ?_;rintro e w' ⟨rfl,rfl⟩;clear hc0;cases nd
    ·have HIN:Hid (insL (es.take (k+1)) []=os):=by show _=_;rw[HT.out];rfl
     clear HT;go_wp2
     go_roundg (l1-(k+1))
     case measure=>omega
     case rel=>exact⟨k+1,os,A,c,by omega,by go_num,rfl,HES,HIN.out.symm,by omega,hbr⟩
    ·have HIN:Hid (insL (es.take (k+1)) []=ins os ⟨op,⟨neg,num,den⟩,nm⟩):=by show _=_;rw[HT.out];rfl
     clear HT;go_wp2
     go_loopg [7] os.length (fun g iv wq=>∃at0:Nat,at0+g=os.length∧iv=.int .i64 at0∧Hid (∀x∈os.take at0,befN x ⟨op,⟨neg,num,den⟩,nm⟩=true)∧Below W0.heap.size W0 wq)
     case atStart=>exact⟨0,by omega,rfl,fun x hx=>by simp at hx,Below.refl _ _⟩
     case round=>
      obtain⟨at0,hag,rfl,hall,hbq⟩:=hrel;have hat:at0≤os.length:=by omega
      obtain⟨wq,rfl⟩:∃wq:World,wq=wr:=⟨_,rfl⟩
      by_cases hao:at0<os.length
      ·have hao2:(at0:Int)<os.length:=by omega
       obtain⟨b2,off2,hA,hb2,y0,y1,y2,y3,y4⟩:=(HES.out.below hbq).rd.nd hao;subst hA;have HTS:Hid (os.take (at0+1)=os.take at0++[os[at0]]):=List.take_succ_eq_append_getElem hao;obtain⟨m,hm⟩:∃m,os[at0]=m:=⟨_,rfl⟩
       rw[hm] at y0 y1 y2 y3 y4 HTS;have HMG:Hid (os[at0]?=some m):=by show _=_;rw[List.getElem?_eq_getElem hao,hm]
       have HMB:Hid (∀h:at0<os.length,os[at0]=m):=fun _=>hm
       have HBF1:=Lib.hid (HBF.out m);obtain⟨bb,hbb⟩:∃bb,befN m ⟨op,⟨neg,num,den⟩,nm⟩=bb:=⟨_,rfl⟩
       rw[hbb] at HBF1;have HBB:=Lib.hid hbb;obtain⟨dq,hdq⟩:∃dq,decide (m=⟨op,⟨neg,num,den⟩,nm⟩)=dq:=⟨_,rfl⟩
       have HEQ:=Lib.hid (fun W=>eql_nd m ⟨op,⟨neg,num,den⟩,nm⟩ W);rw[hdq] at HEQ;have HDQ:=Lib.hid hdq;clear hbb hdq hm;obtain⟨op2,⟨neg2,num2,den2⟩,nm2⟩:=m;unfold Nd.v at HEQ HBF1;simp only at y0 y1 y2 y3 y4 HEQ HBF1
       have HB2:Hid (b2<W0.heap.size):=by
        rcases HES.out.rd with h|⟨b',off',h,hb',_⟩
        ·have:=congrArg List.length h;rw[nds_length] at this;simp at this;omega
        ·injection h with h;injection h with h;subst h;exact hb'
       have HK:Hid (∀w' w1:World,(w'.cell? ⟨b,off+k*5,none⟩=some (.int .i64 op)∧w'.cell? ⟨b,off+k*5+1,none⟩=some (.bool neg)∧w'.cell? ⟨b,off+k*5+2,none⟩=some (.string num)∧w'.cell? ⟨b,off+k*5+3,none⟩=some (.string den)∧w'.cell? ⟨b,off+k*5+4,none⟩=some (.string nm)∧w'.cell? ⟨b2,off2+at0*5,none⟩=some (.int .i64 op2)∧w'.cell? ⟨b2,off2+at0*5+1,none⟩=some (.bool neg2)∧w'.cell? ⟨b2,off2+at0*5+2,none⟩=some (.string num2)∧w'.cell? ⟨b2,off2+at0*5+3,none⟩=some (.string den2)∧w'.cell? ⟨b2,off2+at0*5+4,none⟩=some (.string nm2)∧Below W0.heap.size W0 w')→Below w'.heap.size w' w1→(w1.cell? ⟨b,off+k*5,none⟩=some (.int .i64 op)∧w1.cell? ⟨b,off+k*5+1,none⟩=some (.bool neg)∧w1.cell? ⟨b,off+k*5+2,none⟩=some (.string num)∧w1.cell? ⟨b,off+k*5+3,none⟩=some (.string den)∧w1.cell? ⟨b,off+k*5+4,none⟩=some (.string nm)∧w1.cell? ⟨b2,off2+at0*5,none⟩=some (.int .i64 op2)∧w1.cell? ⟨b2,off2+at0*5+1,none⟩=some (.bool neg2)∧w1.cell? ⟨b2,off2+at0*5+2,none⟩=some (.string num2)∧w1.cell? ⟨b2,off2+at0*5+3,none⟩=some (.string den2)∧w1.cell? ⟨b2,off2+at0*5+4,none⟩=some (.string nm2)∧Below W0.heap.size W0 w1)):=by
        rintro w' w1 ⟨h0,h1,h2,h3,h4,i0,i1,i2,i3,i4,h5⟩ hb1;have hx:=Nat.lt_of_lt_of_le HBK.out h5.size;have hy:=Nat.lt_of_lt_of_le HB2.out h5.size;exact⟨(hb1.cell hx).trans h0,(hb1.cell hx).trans h1,(hb1.cell hx).trans h2,(hb1.cell hx).trans h3,(hb1.cell hx).trans h4,(hb1.cell hy).trans i0,(hb1.cell hy).trans i1,(hb1.cell hy).trans i2,(hb1.cell hy).trans i3,(hb1.cell hy).trans i4,bstep h5 hb1⟩
       have HS:Hid (wq.drew.cell? ⟨b,off+k*5,none⟩=some (.int .i64 op)∧wq.drew.cell? ⟨b,off+k*5+1,none⟩=some (.bool neg)∧wq.drew.cell? ⟨b,off+k*5+2,none⟩=some (.string num)∧wq.drew.cell? ⟨b,off+k*5+3,none⟩=some (.string den)∧wq.drew.cell? ⟨b,off+k*5+4,none⟩=some (.string nm)∧wq.drew.cell? ⟨b2,off2+at0*5,none⟩=some (.int .i64 op2)∧wq.drew.cell? ⟨b2,off2+at0*5+1,none⟩=some (.bool neg2)∧wq.drew.cell? ⟨b2,off2+at0*5+2,none⟩=some (.string num2)∧wq.drew.cell? ⟨b2,off2+at0*5+3,none⟩=some (.string den2)∧wq.drew.cell? ⟨b2,off2+at0*5+4,none⟩=some (.string nm2)∧Below W0.heap.size W0 wq.drew):=by
        obtain⟨h0,h1,h2,h3,h4⟩:=HCK.out _ hbq;exact⟨h0,h1,h2,h3,h4,y0,y1,y2,y3,y4,below_drewN hbq 1⟩
       clear y0 y1 y2 y3 y4 hb2 hbq;go_wp2_with fail;refine wp_region_noPanic ?_;refine wp_region_held_drew (S:=fun w'=>w'.cell? ⟨b,off+k*5,none⟩=some (.int .i64 op)∧w'.cell? ⟨b,off+k*5+1,none⟩=some (.bool neg)∧w'.cell? ⟨b,off+k*5+2,none⟩=some (.string num)∧w'.cell? ⟨b,off+k*5+3,none⟩=some (.string den)∧w'.cell? ⟨b,off+k*5+4,none⟩=some (.string nm)∧w'.cell? ⟨b2,off2+at0*5,none⟩=some (.int .i64 op2)∧w'.cell? ⟨b2,off2+at0*5+1,none⟩=some (.bool neg2)∧w'.cell? ⟨b2,off2+at0*5+2,none⟩=some (.string num2)∧w'.cell? ⟨b2,off2+at0*5+3,none⟩=some (.string den2)∧w'.cell? ⟨b2,off2+at0*5+4,none⟩=some (.string nm2)∧Below W0.heap.size W0 w') (by kernel_rfl) HS.out (fun hHeld=>?_);refine tkY 0 ?_ rfl ?_ ?_;rotate_left
       ·intro w hSw;(try dsimp only at hSw);go_simp
        all_goals with_reducible rfl
       try simp only[Act.put,tk1,tk2,tk3,tk4,tk5,tk6]
       refine tkY 1 ?_ rfl ?_ ?_;rotate_left
       ·intro w hSw;(try dsimp only at hSw);go_simp
        all_goals with_reducible rfl
       try simp only[Act.put,tk1,tk2,tk3,tk4,tk5,tk6]
       refine tkY 2 ?_ rfl ?_ ?_;rotate_left
       ·intro w hSw;(try dsimp only at hSw);go_simp
        all_goals with_reducible rfl
       try simp only[Act.put,tk1,tk2,tk3,tk4,tk5,tk6]
       refine tkY 3 ?_ rfl ?_ ?_;rotate_left
       ·intro w hSw;(try dsimp only at hSw);go_simp
        all_goals with_reducible rfl
       try simp only[Act.put,tk1,tk2,tk3,tk4,tk5,tk6]
       refine tkY 4 ?_ rfl ?_ ?_;rotate_left
       ·intro w hSw;(try dsimp only at hSw);go_simp
        all_goals with_reducible rfl
       try simp only[Act.put,tk1,tk2,tk3,tk4,tk5,tk6]
       refine tkY 5 ?_ rfl ?_ ?_;rotate_left
       ·intro w hSw;(try dsimp only at hSw);go_simp
        all_goals with_reducible rfl
       try simp only[Act.put,tk1,tk2,tk3,tk4,tk5,tk6]
       refine tkY 6 ?_ rfl ?_ ?_;rotate_left
       ·intro w hSw;(try dsimp only at hSw);go_simp
        all_goals with_reducible rfl
       try simp only[Act.put,tk1,tk2,tk3,tk4,tk5,tk6]
       refine tkY 7 ?_ rfl ?_ ?_;rotate_left
       ·intro w hSw;(try dsimp only at hSw);go_simp
        all_goals with_reducible rfl
       try simp only[Act.put,tk1,tk2,tk3,tk4,tk5,tk6]
       refine tkY 8 ?_ rfl ?_ ?_;rotate_left
       ·intro w hSw;(try dsimp only at hSw);go_simp
        all_goals with_reducible rfl
       try simp only[Act.put,tk1,tk2,tk3,tk4,tk5,tk6]
       refine tkY 9 ?_ rfl ?_ ?_;rotate_left
       ·intro w hSw;(try dsimp only at hSw);go_simp
        all_goals with_reducible rfl
       try simp only[Act.put,tk1,tk2,tk3,tk4,tk5,tk6]
       refine tkY 10 ?_ rfl ?_ ?_;rotate_left
       ·intro w hSw;(try dsimp only at hSw);go_simp
        all_goals with_reducible rfl
       try simp only[Act.put,tk1,tk2,tk3,tk4,tk5,tk6]
       refine tkY 11 ?_ rfl ?_ ?_;rotate_left
       ·intro w hSw;(try dsimp only at hSw);go_simp
        all_goals with_reducible rfl
       try simp only[Act.put,tk1,tk2,tk3,tk4,tk5,tk6]
       refine tkY 12 ?_ rfl ?_ ?_;rotate_left
       ·intro w hSw;(try dsimp only at hSw);go_simp
        all_goals with_reducible rfl
       try simp only[Act.put,tk1,tk2,tk3,tk4,tk5,tk6]
       refine wpAnyH_ready (rs:=[13]) (by kernel_rfl) (by simp) ?_;refine AllReadyH.cons rfl (fun K hK=>?_) AllReadyH.nil;go_simp;refine (HBF1.out _).mono ?_;rintro e w1 ⟨rfl,hb1⟩;go_wp2_with fail;refine hK.out _ _ ?_ (fun hHeld=>?_)
       ·exact HK.out _ _ (by assumption) hb1
       clear hK K
       try simp only[Act.put,tk1,tk2,tk3,tk4,tk5,tk6]
       refine tkY 14 ?_ rfl ?_ ?_;rotate_left
       ·intro w hSw;(try dsimp only at hSw);go_simp
        all_goals with_reducible rfl
       try simp only[Act.put,tk1,tk2,tk3,tk4,tk5,tk6]
       refine wpAnyH_done (by kernel_rfl) ?_ _;refine NoPanic.normal ?_;cases bb
       ·have HX:Hid (w1.drew.cell? ⟨b,off+k*5,none⟩=some (.int .i64 op)∧w1.drew.cell? ⟨b,off+k*5+1,none⟩=some (.bool neg)∧w1.drew.cell? ⟨b,off+k*5+2,none⟩=some (.string num)∧w1.drew.cell? ⟨b,off+k*5+3,none⟩=some (.string den)∧w1.drew.cell? ⟨b,off+k*5+4,none⟩=some (.string nm)∧w1.drew.cell? ⟨b2,off2+at0*5,none⟩=some (.int .i64 op2)∧w1.drew.cell? ⟨b2,off2+at0*5+1,none⟩=some (.bool neg2)∧w1.drew.cell? ⟨b2,off2+at0*5+2,none⟩=some (.string num2)∧w1.drew.cell? ⟨b2,off2+at0*5+3,none⟩=some (.string den2)∧w1.drew.cell? ⟨b2,off2+at0*5+4,none⟩=some (.string nm2)∧Below W0.heap.size W0 w1.drew):=by
         obtain⟨h0,h1,h2,h3,h4,i0,i1,i2,i3,i4,h5⟩:=hHeld;exact⟨h0,h1,h2,h3,h4,i0,i1,i2,i3,i4,below_drewN h5 1⟩
        clear hHeld hb1 HS HK;go_wp2_with fail;refine wp_region_noPanic ?_;refine wp_region_held_drew (S:=fun w'=>w'.cell? ⟨b,off+k*5,none⟩=some (.int .i64 op)∧w'.cell? ⟨b,off+k*5+1,none⟩=some (.bool neg)∧w'.cell? ⟨b,off+k*5+2,none⟩=some (.string num)∧w'.cell? ⟨b,off+k*5+3,none⟩=some (.string den)∧w'.cell? ⟨b,off+k*5+4,none⟩=some (.string nm)∧w'.cell? ⟨b2,off2+at0*5,none⟩=some (.int .i64 op2)∧w'.cell? ⟨b2,off2+at0*5+1,none⟩=some (.bool neg2)∧w'.cell? ⟨b2,off2+at0*5+2,none⟩=some (.string num2)∧w'.cell? ⟨b2,off2+at0*5+3,none⟩=some (.string den2)∧w'.cell? ⟨b2,off2+at0*5+4,none⟩=some (.string nm2)∧Below W0.heap.size W0 w') (by kernel_rfl) HX.out (fun hHeld=>?_);refine tkY 0 ?_ rfl ?_ ?_;rotate_left
        ·intro w hSw;(try dsimp only at hSw);go_simp
         all_goals with_reducible rfl
        try simp only[Act.put,tk1,tk2,tk3,tk4,tk5,tk6]
        refine tkY 1 ?_ rfl ?_ ?_;rotate_left
        ·intro w hSw;(try dsimp only at hSw);go_simp
         all_goals with_reducible rfl
        try simp only[Act.put,tk1,tk2,tk3,tk4,tk5,tk6]
        refine tkY 2 ?_ rfl ?_ ?_;rotate_left
        ·intro w hSw;(try dsimp only at hSw);go_simp
         all_goals with_reducible rfl
        try simp only[Act.put,tk1,tk2,tk3,tk4,tk5,tk6]
        refine tkY 3 ?_ rfl ?_ ?_;rotate_left
        ·intro w hSw;(try dsimp only at hSw);go_simp
         all_goals with_reducible rfl
        try simp only[Act.put,tk1,tk2,tk3,tk4,tk5,tk6]
        refine tkY 4 ?_ rfl ?_ ?_;rotate_left
        ·intro w hSw;(try dsimp only at hSw);go_simp
         all_goals with_reducible rfl
        try simp only[Act.put,tk1,tk2,tk3,tk4,tk5,tk6]
        refine tkY 5 ?_ rfl ?_ ?_;rotate_left
        ·intro w hSw;(try dsimp only at hSw);go_simp
         all_goals with_reducible rfl
        try simp only[Act.put,tk1,tk2,tk3,tk4,tk5,tk6]
        refine tkY 6 ?_ rfl ?_ ?_;rotate_left
        ·intro w hSw;(try dsimp only at hSw);go_simp
         all_goals with_reducible rfl
        try simp only[Act.put,tk1,tk2,tk3,tk4,tk5,tk6]
        refine tkY 7 ?_ rfl ?_ ?_;rotate_left
        ·intro w hSw;(try dsimp only at hSw);go_simp
         all_goals with_reducible rfl
        try simp only[Act.put,tk1,tk2,tk3,tk4,tk5,tk6]
        refine tkY 8 ?_ rfl ?_ ?_;rotate_left
        ·intro w hSw;(try dsimp only at hSw);go_simp
         all_goals with_reducible rfl
        try simp only[Act.put,tk1,tk2,tk3,tk4,tk5,tk6]
        refine tkY 9 ?_ rfl ?_ ?_;rotate_left
        ·intro w hSw;(try dsimp only at hSw);go_simp
         all_goals with_reducible rfl
        try simp only[Act.put,tk1,tk2,tk3,tk4,tk5,tk6]
        refine tkY 10 ?_ rfl ?_ ?_;rotate_left
        ·intro w hSw;(try dsimp only at hSw);go_simp
         all_goals with_reducible rfl
        try simp only[Act.put,tk1,tk2,tk3,tk4,tk5,tk6]
        refine tkY 11 ?_ rfl ?_ ?_;rotate_left
        ·intro w hSw;(try dsimp only at hSw);go_simp
         all_goals with_reducible rfl
        try simp only[Act.put,tk1,tk2,tk3,tk4,tk5,tk6]
        refine tkY 12 ?_ rfl ?_ ?_;rotate_left
        ·intro w hSw;(try dsimp only at hSw);go_simp
         all_goals with_reducible rfl
        try simp only[Act.put,tk1,tk2,tk3,tk4,tk5,tk6]
        refine tkY 13 (.bool dq) rfl ?_ ?_
        ·intro w hSw;(try dsimp only at hSw);go_simp;rw[←HDQ.out];exact eqNd_if (fun t=>Result.ok (Next.value (Value.bool t)) w) ⟨op2,⟨neg2,num2,den2⟩,nm2⟩ ⟨op,⟨neg,num,den⟩,nm⟩
        try simp only[Act.put,tk1,tk2,tk3,tk4,tk5,tk6]
        refine tkY 14 ?_ rfl ?_ ?_;rotate_left
        ·intro w hSw;(try dsimp only at hSw);go_simp
         all_goals with_reducible rfl
        try simp only[Act.put,tk1,tk2,tk3,tk4,tk5,tk6]
        refine wpAnyH_done (by kernel_rfl) ?_ _;refine NoPanic.normal ?_;have hbq:=HX.out.2.2.2.2.2.2.2.2.2.2;obtain⟨wz,hwz⟩:∃x,x=w1.drew:=⟨_,rfl⟩
        simp only[←hwz] at hbq⊢;clear HX hwz hHeld;cases dq
        ·have HINS:Hid (ins os ⟨op,⟨neg,num,den⟩,nm⟩=os.take at0++[(⟨op,⟨neg,num,den⟩,nm⟩:Nd)]++os.drop at0):=by
          show _=_;rw[ins_at hat hall.out (fun h=>by rw[HMB.out h];exact HBB.out),if_neg];rw[HMG.out];intro h;injection h with h;exact of_decide_eq_false HDQ.out h
         clear hall HBF1 HEQ HMB HTS HBB
         have HTK:Hid (Rd wz (some ⟨b2,off2,none⟩) (nds (os.take at0))):=by
          show Rd _ _ _;rw[nds_take];exact (HES.out.below hbq).rd.take _
         have hca:¬c=at0:=by have:=HES.out.cap;omega
         have HDR:Hid (Rd wz (some ⟨b2,off2+at0*5,none⟩) (nds (os.drop at0))):=by
          show Rd _ _ _;rw[nds_drop];exact Rd.drop_some (HES.out.below hbq).rd (at0*5)
         have hcap:=HES.out.cap;have hmx:=HES.out.max;unfold maxLen at hmx;have HBQ:=Lib.hid hbq;have HCQ:=Lib.hid (HCK.out _ hbq);have HBK2:Hid (b<wz.heap.size):=Nat.lt_of_lt_of_le HBK.out hbq.size;clear hbq;go_wp2_with (at_builtin;go_must (refine wpList_append_rd _ rfl _ _ 22 rfl wz.heap.size 33 _ 5 64 Tryz.underlying22 info_node rfl (by decide) (.slice none 0 0) 0 [] rfl (World.ownsRow_nil _ _ _ _) _ at0 c (nds (os.take at0)) rfl HTK.out (by rw[nds_length,List.length_take,Nat.min_eq_left (by omega)]) (nds_one _) ?_ ?_ ?_ ?_))
         any_goals first|(unfold maxLen;omega)|omega
         intro v1 w1 hown1 hb1
         have HO1:Hid (w1.ownsRow wz.heap.size 33 5 v1 at0 (nds (os.take at0))):=by
          first|exact hown1|(have:=hown1;rwa[Nat.zero_add,List.nil_append] at this)
         have HB1:=Lib.hid hb1;have HZ1:Hid (wz.heap.size≤w1.heap.size):=hb1.size;obtain⟨k0,k1,k2,k3,k4⟩:=HCQ.out;replace k0:=(hb1.cell HBK2.out).trans k0;replace k1:=(hb1.cell HBK2.out).trans k1;replace k2:=(hb1.cell HBK2.out).trans k2;replace k3:=(hb1.cell HBK2.out).trans k3;replace k4:=(hb1.cell HBK2.out).trans k4;clear hown1 hb1;go_wp2_with (at_builtin;go_must (refine wpList_push w1 #[.int .i64 op,.bool neg,.string num,.string den,.string nm] rfl _ _ 22 rfl wz.heap.size 33 _ 5 64 1 Tryz.underlying22 info_node rfl (by decide) v1 at0 _ rfl HO1.out rfl rfl ?_ ?_ ?_ ?_ ?_))
         any_goals first|(unfold maxLen;omega)|omega
         ·exact⟨rfl,rfl,rfl,rfl,rfl⟩
         ·exact HZ1.out
         intro v2 w2 hown2 hb2;have HO2:=Lib.hid hown2;have HB2:=Lib.hid (HB1.out.trans hb2);have HR2:=Lib.hid (HDR.out.below HB2.out);have HZ2:Hid (wz.heap.size≤w2.heap.size):=HB2.out.size;clear hown2 hb2 k0 k1 k2 k3 k4;go_wp2_with (at_builtin;go_must (refine wpList_append_rd w2 rfl _ _ 22 rfl wz.heap.size 33 _ 5 64 Tryz.underlying22 info_node rfl (by decide) v2 (at0+1) _ rfl HO2.out _ (os.length-at0) (c-at0) (nds (os.drop at0)) rfl HR2.out (by rw[nds_length,List.length_drop]) (nds_one _) ?_ ?_ ?_ ?_))
         any_goals first|(unfold maxLen;omega)|omega
         ·exact HZ2.out
         intro v3 w3 hown3 hb3
         have hown4:w3.ownsRow wz.heap.size 33 5 v3 (at0+1+(os.length-at0)) (nds (os.take at0++[(⟨op,⟨neg,num,den⟩,nm⟩:Nd)]++os.drop at0)):=by
          rw[nds_append,nds_append,List.append_assoc];exact hown3
         obtain⟨A9,c9,rfl,g1,g2,g3,_⟩:=own_rd hown4
         have hlen:at0+1+(os.length-at0)=(os.take at0++[(⟨op,⟨neg,num,den⟩,nm⟩:Nd)]++os.drop at0).length:=by
          simp only[List.length_append,List.length_take,List.length_drop,List.length_singleton];omega
         have HE9:Hid (Es w3 (os.take at0++[(⟨op,⟨neg,num,den⟩,nm⟩:Nd)]++os.drop at0) A9 (os.take at0++[(⟨op,⟨neg,num,den⟩,nm⟩:Nd)]++os.drop at0).length c9):=⟨rfl,by rw[←hlen];exact g1,g2,g3⟩
         have HB9:Hid (Below w.heap.size w w3):=hbr.trans ((HBQ.out.trans ((HB2.out.trans hb3).mono HBQ.out.size)).mono hbr.size);have HLE:Hid ((os.take at0++[(⟨op,⟨neg,num,den⟩,nm⟩:Nd)]++os.drop at0).length≤k+1):=by show _≤_;rw[←hlen];omega
         have HIE:Hid (os.take at0++[(⟨op,⟨neg,num,den⟩,nm⟩:Nd)]++os.drop at0=insL (es.take (k+1)) []):=by show _=_;rw[HIN.out];exact HINS.out.symm
         generalize os.take at0++[(⟨op,⟨neg,num,den⟩,nm⟩:Nd)]++os.drop at0=o9 at*;rw[hlen];clear hown3 hown4 hb3 g1 g2 g3 hlen hbr;go_wp2
         go_roundg (l1-(k+1))
         case measure=>omega
         case rel=>exact⟨k+1,o9,A9,c9,by omega,by go_num,rfl,HE9,HIE,HLE.out,HB9.out⟩
        ·have HINS:Hid (os=insL (es.take (k+1)) []):=by
          show _=_;rw[HIN.out,ins_at hat hall.out (fun h=>by rw[HMB.out h];exact HBB.out),if_pos];rw[HMG.out,of_decide_eq_true HDQ.out]
         have HB9:Hid (Below w.heap.size w wz):=hbr.trans (hbq.mono hbr.size);have HE9:=Lib.hid (HES.out.below hbq);clear hall HBF1 HEQ HMB HTS HBB hbq hbr HES;go_wp2
         go_roundg (l1-(k+1))
         case measure=>omega
         case rel=>exact⟨k+1,os,some ⟨b2,off2,none⟩,c,by omega,by go_num,rfl,HE9,HINS,by omega,HB9.out⟩
       ·obtain⟨_,_,_,_,_,_,_,_,_,_,hb5⟩:=hHeld;have HB5:=Lib.hid hb5;clear hb1 hb5 HS HK HBF1 HEQ;go_wp2
        go_roundg (os.length-(at0+1))
        case measure=>omega
        case rel=>
         refine⟨at0+1,by omega,by go_num,?_,HB5.out⟩;intro x hx;rw[HTS.out] at hx;rcases List.mem_append.1 hx with hx|hx
         ·exact hall.out x hx
         ·obtain rfl:x=⟨op2,⟨neg2,num2,den2⟩,nm2⟩:=by simpa using hx
          exact HBB.out
      ·have hx1:decide ((at0:Int)<os.length)=false:=by rw[decide_eq_false_iff_not];omega
       have HINS:Hid (ins os ⟨op,⟨neg,num,den⟩,nm⟩=os.take at0++[(⟨op,⟨neg,num,den⟩,nm⟩:Nd)]++os.drop at0):=by
        show _=_;rw[ins_at hat hall.out (fun h=>absurd h hao),if_neg];rw[List.getElem?_eq_none (by omega)];simp
       clear hall;have HQD:Hid (Below W0.heap.size W0 wq.drew):=below_drewN hbq 1;clear hbq;go_wp2_with fail;refine wp_region_noPanic ?_;refine wp_region_held_drew (S:=fun w'=>Below W0.heap.size W0 w') (by kernel_rfl) HQD.out (fun hHeld=>?_);refine tkY 0 ?_ rfl ?_ ?_;rotate_left
       ·intro w hSw;(try dsimp only at hSw);go_simp
        all_goals with_reducible rfl
       try simp only[Act.put,tk1,tk2,tk3,tk4,tk5,tk6]
       refine tkY 1 ?_ rfl ?_ ?_;rotate_left
       ·intro w hSw;(try dsimp only at hSw);go_simp
        all_goals with_reducible rfl
       try simp only[Act.put,tk1,tk2,tk3,tk4,tk5,tk6]
       refine tkY 2 ?_ rfl ?_ ?_;rotate_left
       ·intro w hSw;(try dsimp only at hSw);go_simp
        all_goals with_reducible rfl
       try simp only[Act.put,tk1,tk2,tk3,tk4,tk5,tk6]
       refine tkY 3 ?_ rfl ?_ ?_;rotate_left
       ·intro w hSw;(try dsimp only at hSw);go_simp
        all_goals with_reducible rfl
       try simp only[Act.put,tk1,tk2,tk3,tk4,tk5,tk6]
       refine tkY 4 ?_ rfl ?_ ?_;rotate_left
       ·intro w hSw;(try dsimp only at hSw);go_simp
        all_goals with_reducible rfl
       try simp only[Act.put,tk1,tk2,tk3,tk4,tk5,tk6]
       refine tkN 5 rfl ?_
       try simp only[Act.put,tk1,tk2,tk3,tk4,tk5,tk6]
       refine tkN 6 rfl ?_
       try simp only[Act.put,tk1,tk2,tk3,tk4,tk5,tk6]
       refine tkN 7 rfl ?_
       try simp only[Act.put,tk1,tk2,tk3,tk4,tk5,tk6]
       refine tkN 8 rfl ?_
       try simp only[Act.put,tk1,tk2,tk3,tk4,tk5,tk6]
       refine tkN 9 rfl ?_
       try simp only[Act.put,tk1,tk2,tk3,tk4,tk5,tk6]
       refine tkN 10 rfl ?_
       try simp only[Act.put,tk1,tk2,tk3,tk4,tk5,tk6]
       refine tkN 11 rfl ?_
       try simp only[Act.put,tk1,tk2,tk3,tk4,tk5,tk6]
       refine tkN 12 rfl ?_
       try simp only[Act.put,tk1,tk2,tk3,tk4,tk5,tk6]
       refine tkN 13 rfl ?_
       try simp only[Act.put,tk1,tk2,tk3,tk4,tk5,tk6]
       refine tkY 14 ?_ rfl ?_ ?_;rotate_left
       ·intro w hSw;(try dsimp only at hSw);go_simp
        all_goals with_reducible rfl
       try simp only[Act.put,tk1,tk2,tk3,tk4,tk5,tk6]
       refine wpAnyH_done (by kernel_rfl) ?_ _;refine NoPanic.normal ?_;have HQE:Hid (Below W0.heap.size W0 wq.drew.drew):=below_drewN HQD.out 1;go_wp2_with fail;refine wp_region_noPanic ?_;refine wp_region_held_drew (S:=fun w'=>Below W0.heap.size W0 w') (by kernel_rfl) HQE.out (fun hHeld=>?_);refine tkY 0 ?_ rfl ?_ ?_;rotate_left
       ·intro w hSw;(try dsimp only at hSw);go_simp
        all_goals with_reducible rfl
       try simp only[Act.put,tk1,tk2,tk3,tk4,tk5,tk6]
       refine tkY 1 ?_ rfl ?_ ?_;rotate_left
       ·intro w hSw;(try dsimp only at hSw);go_simp
        all_goals with_reducible rfl
       try simp only[Act.put,tk1,tk2,tk3,tk4,tk5,tk6]
       refine tkY 2 ?_ rfl ?_ ?_;rotate_left
       ·intro w hSw;(try dsimp only at hSw);go_simp
        all_goals with_reducible rfl
       try simp only[Act.put,tk1,tk2,tk3,tk4,tk5,tk6]
       refine tkY 3 ?_ rfl ?_ ?_;rotate_left
       ·intro w hSw;(try dsimp only at hSw);go_simp
        all_goals with_reducible rfl
       try simp only[Act.put,tk1,tk2,tk3,tk4,tk5,tk6]
       refine tkY 4 ?_ rfl ?_ ?_;rotate_left
       ·intro w hSw;(try dsimp only at hSw);go_simp
        all_goals with_reducible rfl
       try simp only[Act.put,tk1,tk2,tk3,tk4,tk5,tk6]
       refine tkN 5 rfl ?_
       try simp only[Act.put,tk1,tk2,tk3,tk4,tk5,tk6]
       refine tkN 6 rfl ?_
       try simp only[Act.put,tk1,tk2,tk3,tk4,tk5,tk6]
       refine tkN 7 rfl ?_
       try simp only[Act.put,tk1,tk2,tk3,tk4,tk5,tk6]
       refine tkN 8 rfl ?_
       try simp only[Act.put,tk1,tk2,tk3,tk4,tk5,tk6]
       refine tkN 9 rfl ?_
       try simp only[Act.put,tk1,tk2,tk3,tk4,tk5,tk6]
       refine tkN 10 rfl ?_
       try simp only[Act.put,tk1,tk2,tk3,tk4,tk5,tk6]
       refine tkN 11 rfl ?_
       try simp only[Act.put,tk1,tk2,tk3,tk4,tk5,tk6]
       refine tkN 12 rfl ?_
       try simp only[Act.put,tk1,tk2,tk3,tk4,tk5,tk6]
       refine tkN 13 rfl ?_
       try simp only[Act.put,tk1,tk2,tk3,tk4,tk5,tk6]
       refine tkY 14 ?_ rfl ?_ ?_;rotate_left
       ·intro w hSw;(try dsimp only at hSw);go_simp
        all_goals with_reducible rfl
       try simp only[Act.put,tk1,tk2,tk3,tk4,tk5,tk6]
       refine wpAnyH_done (by kernel_rfl) ?_ _;refine NoPanic.normal ?_;have hbq:=HQE.out;obtain⟨wz,hwz⟩:∃x,x=wq.drew.drew:=⟨_,rfl⟩
       simp only[←hwz] at hbq⊢;clear HQD HQE hwz hHeld
       have HTK:Hid (Rd wz A (nds (os.take at0))):=by
        show Rd _ _ _;rw[nds_take];exact (HES.out.below hbq).rd.take _
       obtain⟨A8,hA8⟩:∃A8,(if c=at0 then A else Option.map (fun x=>x.add (at0*5)) A)=A8:=⟨_,rfl⟩
       have HDR:Hid (Rd wz A8 (nds (os.drop at0))):=by
        show Rd _ _ _;rw[nds_drop,List.drop_eq_nil_of_le (by rw[nds_length];omega)];exact .inl rfl
       have hcap:=HES.out.cap;have hmx:=HES.out.max;unfold maxLen at hmx;have HBQ:=Lib.hid hbq;have HCQ:=Lib.hid (HCK.out _ hbq);have HBK2:Hid (b<wz.heap.size):=Nat.lt_of_lt_of_le HBK.out hbq.size;clear hbq;go_wp2_with (at_builtin;go_must (refine wpList_append_rd _ rfl _ _ 22 rfl wz.heap.size 33 _ 5 64 Tryz.underlying22 info_node rfl (by decide) (.slice none 0 0) 0 [] rfl (World.ownsRow_nil _ _ _ _) _ at0 c (nds (os.take at0)) rfl HTK.out (by rw[nds_length,List.length_take,Nat.min_eq_left (by omega)]) (nds_one _) ?_ ?_ ?_ ?_))
       any_goals first|(unfold maxLen;omega)|omega
       intro v1 w1 hown1 hb1
       have HO1:Hid (w1.ownsRow wz.heap.size 33 5 v1 at0 (nds (os.take at0))):=by
        first|exact hown1|(have:=hown1;rwa[Nat.zero_add,List.nil_append] at this)
       have HB1:=Lib.hid hb1;have HZ1:Hid (wz.heap.size≤w1.heap.size):=hb1.size;obtain⟨k0,k1,k2,k3,k4⟩:=HCQ.out;replace k0:=(hb1.cell HBK2.out).trans k0;replace k1:=(hb1.cell HBK2.out).trans k1;replace k2:=(hb1.cell HBK2.out).trans k2;replace k3:=(hb1.cell HBK2.out).trans k3;replace k4:=(hb1.cell HBK2.out).trans k4;clear hown1 hb1;go_wp2_with (at_builtin;go_must (refine wpList_push w1 #[.int .i64 op,.bool neg,.string num,.string den,.string nm] rfl _ _ 22 rfl wz.heap.size 33 _ 5 64 1 Tryz.underlying22 info_node rfl (by decide) v1 at0 _ rfl HO1.out rfl rfl ?_ ?_ ?_ ?_ ?_))
       any_goals first|(unfold maxLen;omega)|omega
       ·exact⟨rfl,rfl,rfl,rfl,rfl⟩
       ·exact HZ1.out
       intro v2 w2 hown2 hb2;have HO2:=Lib.hid hown2;have HB2:=Lib.hid (HB1.out.trans hb2);have HR2:=Lib.hid (HDR.out.below HB2.out);have HZ2:Hid (wz.heap.size≤w2.heap.size):=HB2.out.size;clear hown2 hb2 k0 k1 k2 k3 k4;go_wp2_with (at_builtin;go_must (refine wpList_append_rd w2 rfl _ _ 22 rfl wz.heap.size 33 _ 5 64 Tryz.underlying22 info_node rfl (by decide) v2 (at0+1) _ rfl HO2.out _ (os.length-at0) (c-at0) (nds (os.drop at0)) rfl HR2.out (by rw[nds_length,List.length_drop]) (nds_one _) ?_ ?_ ?_ ?_))
       any_goals first|(unfold maxLen;omega)|omega
       ·exact HZ2.out
       intro v3 w3 hown3 hb3
       have hown4:w3.ownsRow wz.heap.size 33 5 v3 (at0+1+(os.length-at0)) (nds (os.take at0++[(⟨op,⟨neg,num,den⟩,nm⟩:Nd)]++os.drop at0)):=by
        rw[nds_append,nds_append,List.append_assoc];exact hown3
       obtain⟨A9,c9,rfl,g1,g2,g3,_⟩:=own_rd hown4
       have hlen:at0+1+(os.length-at0)=(os.take at0++[(⟨op,⟨neg,num,den⟩,nm⟩:Nd)]++os.drop at0).length:=by
        simp only[List.length_append,List.length_take,List.length_drop,List.length_singleton];omega
       have HE9:Hid (Es w3 (os.take at0++[(⟨op,⟨neg,num,den⟩,nm⟩:Nd)]++os.drop at0) A9 (os.take at0++[(⟨op,⟨neg,num,den⟩,nm⟩:Nd)]++os.drop at0).length c9):=⟨rfl,by rw[←hlen];exact g1,g2,g3⟩
       have HB9:Hid (Below w.heap.size w w3):=hbr.trans ((HBQ.out.trans ((HB2.out.trans hb3).mono HBQ.out.size)).mono hbr.size);have HLE:Hid ((os.take at0++[(⟨op,⟨neg,num,den⟩,nm⟩:Nd)]++os.drop at0).length≤k+1):=by show _≤_;rw[←hlen];omega
       have HIE:Hid (os.take at0++[(⟨op,⟨neg,num,den⟩,nm⟩:Nd)]++os.drop at0=insL (es.take (k+1)) []):=by show _=_;rw[HIN.out];exact HINS.out.symm
       generalize os.take at0++[(⟨op,⟨neg,num,den⟩,nm⟩:Nd)]++os.drop at0=o9 at*;rw[hlen];clear hown3 hown4 hb3 g1 g2 g3 hlen hbr;go_wp2
       go_roundg (l1-(k+1))
       case measure=>omega
       case rel=>exact⟨k+1,o9,A9,c9,by omega,by go_num,rfl,HE9,HIE,HLE.out,HB9.out⟩
   ·have hkl:k=l1:=by omega
    have hT:Hid (os=re):=by
     show _=_;rw[HRE.out,hos.out,hkl,H1.out.len,List.take_length]
    have HBR:=Lib.hid hbr;have hx1:decide (k<l1)=false:=decide_eq_false hlt;clear hbr hos hes HC;go_wp2;go_ret;exact⟨A,os.length,c,rfl,by rw[←hT.out];exact HES.out,HBR.out⟩
 ·obtain⟨zz,hzz⟩:∃zz,checkE es=zz:=⟨_,rfl⟩
  have HRE:Hid (refsE es=[]):=by show _=_;unfold refsE;rw[if_neg hz]
  rw[hzz] at hz HC;generalize refsE es=re at*;have e1:(zz !=0)=true:=by simp[hz]
  clear hz h1 hf1 hzz;go_enter Tryz.func43,Tryz.ntmps43;go_wp2_with fail;refine HC.out.mono ?_;rintro e w1 ⟨rfl,hb1⟩;go_wp2;go_ret;exact⟨none,0,0,rfl,by rw[HRE.out];exact Es.nil _,hb1⟩
end Go.Proofs.YtbicehdehiakgaaGreatDoor
