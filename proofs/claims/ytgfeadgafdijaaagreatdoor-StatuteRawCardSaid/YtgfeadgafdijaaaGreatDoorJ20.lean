/- A part of the proof: G3 G4 G5 G6 E8 G7. -/
import Derived.Test.YtgfeadgafdijaaaGreatDoorJ01
import Derived.Test.YtgfeadgafdijaaaGreatDoorJ19
set_option linter.unusedVariables false
set_option linter.unusedSimpArgs false
set_option maxRecDepth 100000
set_option maxHeartbeats 40000000
namespace Go.Proofs.YtgfeadgafdijaaaGreatDoor
open Go.RowKit
theorem MC (n:Nd) (w:World) (hf:Fine n):Calls Tryz.prog 218 #[n.v] w fun e w'=>e=.returned (.bool (iW n))∧Below w.heap.size w w':=by
 obtain⟨hn,hd⟩:=hf;have HU:Hid (iW n=if n.op=4 then decide (n.num=aW 0)||decide (n.num=aW 1) else if (aC n.op).lit then dJ n.num else if (aC n.op).dS then dJ n.num&&decide (0<dV n.num) else decide (n.num=zR)):=rfl;have HF:=zH (fun W=>vF n.num W (by omega) (by omega));have HS:=zH (fun W=>yN n.num W (by omega) (by omega));have ql:=fun W=>nO n.num (aW 0) W
 have ji:=fun W=>nO n.num (aW 1) W
 have zW:=fun W=>nO n.num zR W
 have HL:=zH (fun W=>Dq n.op W);have HT:=zH (fun W=>Dp n.op W);generalize dJ n.num=ft at*;generalize dV n.num=sg at*;generalize decide (n.num=aW 0)=d0 at*;generalize decide (n.num=aW 1)=d1 at*;generalize decide (n.num=zR)=dz at*;generalize (aC n.op).lit=li at*;generalize (aC n.op).dS=st at*;generalize iW n=r at*;clear hn hd;obtain⟨op,⟨neg,num,den⟩,nm⟩:=n;unfold Ra.v at HF HS ql ji zW;unfold Nd.v;simp only at HU HF HS ql ji zW HL HT⊢;obtain⟨W,hW⟩:=zE (w.alloc (.cells #[.int .i64 op,.bool neg,.string num,.string den,.string nm] 48));have hba:Below w.heap.size w W:=by rw[hW];exact zB _ _
 have hk0:aj W w.heap.size 48 [.int .i64 op,.bool neg,.string num,.string den,.string nm]:=by rw[hW];exact aj.new w _ _
 have hsz:W.heap.size=w.heap.size+1:=by rw[hW];exact Array.size_push _
 obtain⟨B,hB⟩:=zE w.heap.size;have HB:=zH hB;rw[←hB] at hba hsz hk0;have hc:=hk0.cells;by_cases h4:op=4
 ·have h4':(op==4)=true:=by rw[h4];rfl
  have HW:Hid (r=(d0||d1)):=by show _=_;rw[HU.out,if_pos h4]
  clear h4 HU HF HS zW HL HT;cases d0
  ·cases d1
   all_goals
    go_enter Tryz.func218,Tryz.ntmps218;go_wp2_with fail;simp only[←hW,←hB]
    clear hW hB
    have HK:Hid (∀w' w1:World,((∀i,w'.cell? ⟨B,i,none⟩=([.int .i64 op,.bool neg,.string num,.string den,.string nm]:List Value)[i]?)∧B<w'.heap.size∧Below B w w')→Below w'.heap.size w' w1→
      ((∀i,w1.cell? ⟨B,i,none⟩=([.int .i64 op,.bool neg,.string num,.string den,.string nm]:List Value)[i]?)∧B<w1.heap.size∧Below B w w1)):=by
     rintro w' w1 ⟨h0,h2,h3⟩ hb1;exact⟨fun i=>(hb1.cell h2).trans (h0 i),Nat.lt_of_lt_of_le h2 hb1.size,h3.trans (hb1.mono (Nat.le_of_lt h2))⟩
    have HS:Hid ((∀i,W.drew.cell? ⟨B,i,none⟩=([.int .i64 op,.bool neg,.string num,.string den,.string nm]:List Value)[i]?)∧B<W.drew.heap.size∧Below B w W.drew):=
     ⟨hk0.cells,hk0.lt,below_drewN hba 1⟩
    clear hba;refine wp_region_noPanic ?_;refine wp_region_held_drew (S:=fun w'=>(∀i,w'.cell? ⟨B,i,none⟩=([.int .i64 op,.bool neg,.string num,.string den,.string nm]:List Value)[i]?)∧B<w'.heap.size∧Below B w w') (by kernel_rfl) HS.out (fun hHeld=>?_);refine ay 0 ?_;refine ay 1 ?_;refine bJ 2 fun K hK=>?_
    go_simp;refine (xC 0 _ (by omega) (by omega)).mono ?_;rintro e w1 ⟨rfl,hb1⟩;simp only[Ra.v]
    go_wp2_with fail;refine aT hK (HK.out _ _ (by assumption) hb1) fun hHeld=>?_
    clear hK K;refine ay 3 ?_;refine ay 4 ?_;refine ay 5 ?_;refine ay 6 ?_;refine bJ 7 fun K hK=>?_
    go_simp;refine (xC 1 _ (by omega) (by omega)).mono ?_;rintro e w1 ⟨rfl,hb1⟩;simp only[Ra.v]
    go_wp2_with fail;refine aT hK (HK.out _ _ (by assumption) hb1) fun hHeld=>?_
    clear hK K;refine ay 8 ?_;refine ay 9 ?_;refine ay 10 ?_;refine wpAnyH_done (by kernel_rfl) ?_ _;refine NoPanic.normal ?_;obtain⟨_,_,hb3⟩:=hHeld;have HH:=zH hb3;clear hb3;go_wp2;go_ret;exact⟨by rw[HW.out];rfl,by rw[←HB.out];exact HH.out⟩
  ·go_enter Tryz.func218,Tryz.ntmps218;go_wp2_with fail;simp only[←hW,←hB]
   clear hW hB
   have HK:Hid (∀w' w1:World,((∀i,w'.cell? ⟨B,i,none⟩=([.int .i64 op,.bool neg,.string num,.string den,.string nm]:List Value)[i]?)∧B<w'.heap.size∧Below B w w')→Below w'.heap.size w' w1→
     ((∀i,w1.cell? ⟨B,i,none⟩=([.int .i64 op,.bool neg,.string num,.string den,.string nm]:List Value)[i]?)∧B<w1.heap.size∧Below B w w1)):=by
    rintro w' w1 ⟨h0,h2,h3⟩ hb1;exact⟨fun i=>(hb1.cell h2).trans (h0 i),Nat.lt_of_lt_of_le h2 hb1.size,h3.trans (hb1.mono (Nat.le_of_lt h2))⟩
   have HS:Hid ((∀i,W.drew.cell? ⟨B,i,none⟩=([.int .i64 op,.bool neg,.string num,.string den,.string nm]:List Value)[i]?)∧B<W.drew.heap.size∧Below B w W.drew):=
    ⟨hk0.cells,hk0.lt,below_drewN hba 1⟩
   clear hba;refine wp_region_noPanic ?_;refine wp_region_held_drew (S:=fun w'=>(∀i,w'.cell? ⟨B,i,none⟩=([.int .i64 op,.bool neg,.string num,.string den,.string nm]:List Value)[i]?)∧B<w'.heap.size∧Below B w w') (by kernel_rfl) HS.out (fun hHeld=>?_);refine ay 0 ?_;refine ay 1 ?_;refine bJ 2 fun K hK=>?_
   go_simp;refine (xC 0 _ (by omega) (by omega)).mono ?_;rintro e w1 ⟨rfl,hb1⟩;simp only[Ra.v]
   go_wp2_with fail;refine aT hK (HK.out _ _ (by assumption) hb1) fun hHeld=>?_
   clear hK K;refine ay 3 ?_;refine ay 4 ?_;refine bK 5 rfl ?_
   try simp only[Act.put,tk1,tk2,tk3,tk4,aQ,aS]
   refine bK 6 rfl ?_
   try simp only[Act.put,tk1,tk2,tk3,tk4,aQ,aS]
   refine bK 7 rfl ?_
   try simp only[Act.put,tk1,tk2,tk3,tk4,aQ,aS]
   refine bK 8 rfl ?_
   try simp only[Act.put,tk1,tk2,tk3,tk4,aQ,aS]
   refine ay 9 ?_;refine ay 10 ?_;refine wpAnyH_done (by kernel_rfl) ?_ _;refine NoPanic.normal ?_;obtain⟨_,_,hb3⟩:=hHeld;have HH:=zH hb3;clear hb3;go_wp2;go_ret;exact⟨by rw[HW.out];rfl,by rw[←HB.out];exact HH.out⟩
 ·have h4':(op==4)=false:=by rw[beq_eq_false_iff_ne];exact h4
  have HW:Hid (r=if li then ft else if st then ft&&decide (0<sg) else dz):=by show _=_;rw[HU.out,if_neg h4]
  clear h4 HU ql ji;cases li
  ·cases st
   ·clear HF HS;go_enter Tryz.func218,Tryz.ntmps218;go_wp2_with fail;simp only[←hW,←hB]
    clear hW hB;refine (HL.out _).mono ?_;rintro e w1 ⟨rfl,rfl⟩;go_wp2_with fail;refine (HT.out _).mono ?_;rintro e w1 ⟨rfl,rfl⟩;simp only[zR] at zW;go_wp2;go_ret;exact⟨by rw[HW.out];rfl,by rw[←HB.out];exact hba⟩
   ·clear zW;obtain⟨b,hb⟩:=zF (decide (0<sg));rw[hb] at HW;cases ft
    all_goals
     go_enter Tryz.func218,Tryz.ntmps218;go_wp2_with fail;simp only[←hW,←hB]
     clear hW hB;refine (HL.out _).mono ?_;rintro e w1 ⟨rfl,rfl⟩;go_wp2_with fail;refine (HT.out _).mono ?_;rintro e w1 ⟨rfl,rfl⟩;go_wp2_with fail;refine (HF.out _).mono ?_;rintro e w1 ⟨rfl,hb1⟩;have hk1:=hk0.below hb1 hk0.lt;have hc1:=hk1.cells;have hB1:=hba.trans (hb1.mono (Nat.le_of_lt hk0.lt));clear hb1 hba
    ·go_wp2;go_ret;exact⟨by rw[HW.out];rfl,by rw[←HB.out];exact hB1⟩
    ·go_wp2_with fail;refine (HS.out _).mono ?_;rintro e w2 ⟨rfl,hb2⟩;have hB2:=hB1.trans (hb2.mono (Nat.le_of_lt hk1.lt));clear hb2 hB1;go_wp2;go_ret;exact⟨by rw[HW.out];rfl,by rw[←HB.out];exact hB2⟩
  ·clear HS zW;go_enter Tryz.func218,Tryz.ntmps218;go_wp2_with fail;simp only[←hW,←hB]
   clear hW hB;refine (HL.out _).mono ?_;rintro e w1 ⟨rfl,rfl⟩;go_wp2_with fail;refine (HF.out _).mono ?_;rintro e w1 ⟨rfl,hb1⟩;go_wp2;go_ret;exact⟨by rw[HW.out];rfl,by rw[←HB.out];exact hba.trans (hb1.mono (Nat.le_of_lt hk0.lt))⟩
theorem uS (n:Nd):(n.op<1∧bP n=11)∨(1≤n.op∧24<n.op∧bP n=11)∨(1≤n.op∧n.op≤24∧iW n=false∧bP n=11)∨
  (1≤n.op∧n.op≤24∧iW n=true∧(aC n.op).dR=false∧n.name.toList.isEmpty=false∧bP n=11)∨
  (1≤n.op∧n.op≤24∧iW n=true∧(aC n.op).dR=false∧n.name.toList.isEmpty=true∧bP n=0)∨
  (1≤n.op∧n.op≤24∧iW n=true∧(aC n.op).dR=true∧nameB n.name.data.toList=false∧bP n=12)∨
  (1≤n.op∧n.op≤24∧iW n=true∧(aC n.op).dR=true∧nameB n.name.data.toList=true∧bP n=0):=by
 by_cases h1:n.op<1
 ·exact .inl ⟨h1,by unfold bP;rw[if_pos (.inl h1)]⟩
 by_cases h2:24<n.op
 ·exact .inr (.inl ⟨by omega,h2,by unfold bP;rw[if_pos (.inr (.inl h2))]⟩)
 refine .inr (.inr ?_);have a1:1≤n.op:=by omega
 have a2:n.op≤24:=by omega
 cases h3:iW n
 ·exact .inl ⟨a1,a2,rfl,by unfold bP;rw[if_pos (.inr (.inr (.inr h3)))]⟩
 refine .inr ?_;cases h4:(aC n.op).dR
 ·cases h5:n.name.toList.isEmpty
  ·exact .inl ⟨a1,a2,rfl,rfl,rfl,by unfold bP;rw[if_pos (.inr (.inr (.inl ⟨h4,fun h=>by rw[(uo _).2 h] at h5;cases h5⟩)))]⟩
  ·refine .inr (.inl ⟨a1,a2,rfl,rfl,rfl,?_⟩);unfold bP;rw[if_neg (by rintro (h|h|h|h);exact h1 h;exact h2 h;exact h.2 ((uo _).1 h5);rw[h3] at h;cases h),h4];rfl
 ·have hw:bP n=if !nameB n.name.data.toList then 12 else 0:=by
   unfold bP;rw[if_neg (by rintro (h|h|h|h);exact h1 h;exact h2 h;rw[h4] at h;cases h.1;rw[h3] at h;cases h),h4,Bool.true_and]
  refine .inr (.inr ?_);cases h5:nameB n.name.data.toList
  ·exact .inl ⟨a1,a2,rfl,rfl,rfl,by rw[hw,h5];rfl⟩
  ·exact .inr ⟨a1,a2,rfl,rfl,rfl,by rw[hw,h5];rfl⟩
theorem AV (es:List Nd) (A:Option Addr) (len cap:Nat) (w:World) (hlen:len=es.length) (hcap:len≤cap) (hm:cap≤maxLen) (hr:Rd w A (oV es)) (hf:∀n∈es,Fine n):
  Calls Tryz.prog 162 #[.slice A len cap] w fun e w'=>e=.returned (.int .i64 (bC es))∧Below w.heap.size w w':=by
 unfold maxLen at hm;by_cases h60:60<len
 ·have HV:Hid (bC es=2):=by show _=_;unfold bC;rw[if_pos (by omega)]
  have YU:(60:Int)<len:=by omega
  clear hlen hr hf;go_enter Tryz.func162,Tryz.ntmps162;go_wp2;go_ret;exact⟨by rw[HV.out];rfl,Below.refl _ _⟩
 ·have HV:Hid (bC es=chk es 0):=by show _=_;unfold bC;rw[if_neg (by omega)]
  have YU:¬(60:Int)<len:=by omega
  have HR:=zH hr;have HF:=zH hf;have HLEN:=zH hlen;have hle:len≤60:=by omega
  clear hlen hr hf h60;go_enter Tryz.func162,Tryz.ntmps162;go_wp2
  go_loopg [3,4] len (fun g dv iv wr=>∃k d:Nat,k+g=len∧d≤k∧dv=.int .i64 d∧iv=.int .i64 k∧Hid (chk es 0=chk (es.drop k) d)∧Below w.heap.size w wr)
  case atStart=>exact⟨0,0,by omega,by omega,rfl,rfl,rfl,Below.refl _ _⟩
  case round=>
   obtain⟨k,d,hk,hd,rfl,rfl,hch,hbw⟩:=hrel;by_cases hlt:k<len
   ·have hke:k<es.length:=by rw[←HLEN.out];exact hlt
    obtain⟨b,off,rfl,hb,hc0,hc1,hc2,hc3,hc4⟩:=(HR.out.below hbw).nd hke;have hfin:=HF.out _ (List.getElem_mem hke);have acV:Hid (chk es 0=chk (es[k]::es.drop (k+1)) d):=by show _=_;rw[hch.out,List.drop_eq_getElem_cons hke]
    have jc:=zH (fun W=>MC es[k] W hfin);generalize es[k]=n at*;have mD:=uS n
    have YV:Hid (∀z,bP n=z→chk es 0=if z≠0 then z else if d<(aC n.op).ops then 11 else chk (es.drop (k+1)) (d-(aC n.op).ops+1)):=by
     rintro z rfl;rw[acV.out,chk]
    have Q5:=zH (fun W=>TM n.op W);have mY:=zH (fun W=>KL n.name W);have Du:=zH (fun W=>AU n.op W);have hol:=wP n.op;clear hfin acV hch;generalize bP n=z at*;generalize iW n=ok at*;obtain⟨op,⟨neg,num,den⟩,nm⟩:=n;unfold Nd.v at jc;simp only at hc0 hc1 hc2 hc3 hc4 mD YV Q5 mY Du hol jc;generalize nameB nm.data.toList=nb at*;generalize (aC op).dR=dR at*;generalize (aC op).ops=o at*;have hba:Below w.heap.size w (wr.alloc (.cells #[.int .i64 op,.bool neg,.string num,.string den,.string nm] 48)):=hbw.alloc hbw.size _;have hka:=aj.new wr 48 #[.int .i64 op,.bool neg,.string num,.string den,.string nm];have wE:=zH (YV.out z rfl);clear YV hbw;by_cases hz0:z=0
    ·subst hz0
     have HC:Hid (chk es 0=if d<o then 11 else chk (es.drop (k+1)) (d-o+1)):=by
      have:=wE.out;rwa[if_neg (by simp)] at this
     have hw2:(1≤op∧op≤24∧ok=true∧dR=false∧nm.toList.isEmpty=true)∨(1≤op∧op≤24∧ok=true∧dR=true∧nb=true):=by
      rcases mD with h|h|h|h|h|h|h
      ·exact absurd h.2 (by decide)
      ·exact absurd h.2.2 (by decide)
      ·exact absurd h.2.2.2 (by decide)
      ·exact absurd h.2.2.2.2.2 (by decide)
      ·exact .inl ⟨h.1,h.2.1,h.2.2.1,h.2.2.2.1,h.2.2.2.2.1⟩
      ·exact absurd h.2.2.2.2.2 (by decide)
      ·exact .inr ⟨h.1,h.2.1,h.2.2.1,h.2.2.2.1,h.2.2.2.2.1⟩
     clear wE mD;obtain⟨q,hq⟩:=zF (decide (d<o));have hq':decide ((d:Int)<o)=q:=by rw[←hq,decide_eq_decide];omega
     rcases hw2 with⟨o1,o2,rfl,rfl,he⟩|⟨o1,o2,rfl,rfl,rfl⟩
     all_goals
      go_wp2_with fail;refine (Q5.out _).mono ?_;rintro e w2 ⟨rfl,rfl⟩;go_wp2_with fail;refine (jc.out _).mono ?_;rintro e w2 ⟨rfl,hb2⟩;have hk2:=hka.below hb2 hka.lt;have hcB:=hk2.cells;have HB:=zH (ah hba hb2);clear hk2 hb2 hba hka;go_wp2_with fail;refine (mY.out _).mono ?_;rintro e w3 ⟨rfl,rfl⟩;go_wp2_with fail;refine (Du.out _).mono ?_;rintro e w3 ⟨rfl,rfl⟩;cases q
      ·have hdo:¬d<o:=of_decide_eq_false hq;have e1:0≤(d:Int)-o:=by omega
       have hq2:¬((d:Int)<o):=by omega
       go_wp2
       go_roundg (len-(k+1))
       case measure=>omega
       case rel=>
        refine⟨k+1,d-o+1,by omega,by omega,by go_num,by go_num,?_,HB.out⟩;show _=_;rw[HC.out,if_neg hdo]
      ·have hdo:d<o:=of_decide_eq_true hq;go_wp2;go_ret;exact⟨by rw[HV.out,HC.out,if_pos hdo];rfl,HB.out⟩
    ·have hw2:(op<1∧z=11)∨(1≤op∧24<op∧z=11)∨(1≤op∧op≤24∧ok=false∧z=11)∨(1≤op∧op≤24∧ok=true∧dR=false∧nm.toList.isEmpty=false∧z=11)∨(1≤op∧op≤24∧ok=true∧dR=true∧nb=false∧z=12):=by
      rcases mD with h|h|h|h|h|h|h
      ·exact .inl h
      ·exact .inr (.inl h)
      ·exact .inr (.inr (.inl h))
      ·exact .inr (.inr (.inr (.inl h)))
      ·exact absurd h.2.2.2.2.2 hz0
      ·exact .inr (.inr (.inr (.inr h)))
      ·exact absurd h.2.2.2.2.2 hz0
     have HC:Hid (chk es 0=z):=by
      have:=wE.out;rwa[if_pos hz0] at this
     clear wE mD hz0;rcases hw2 with⟨o1,rfl⟩|⟨o1,o2,rfl⟩|⟨o1,o2,rfl,rfl⟩|⟨o1,o2,rfl,rfl,he,rfl⟩|⟨o1,o2,rfl,rfl,rfl,rfl⟩
     case' inr.inr.inr.inl=>have he2:(!nm.toList.isEmpty)=true:=by rw[he];rfl
     all_goals
      go_wp2_with fail;refine (Q5.out _).mono ?_;rintro e w2 ⟨rfl,rfl⟩;go_wp2_with fail;refine (jc.out _).mono ?_;rintro e w2 ⟨rfl,hb2⟩;have hk2:=hka.below hb2 hka.lt;have hcB:=hk2.cells;have HB:=zH (ah hba hb2);clear hk2 hb2 hba hka;go_wp2_with fail
      try
       refine (mY.out _).mono ?_;rintro e w3 ⟨rfl,rfl⟩;go_wp2_with fail
      go_ret;exact⟨by rw[HV.out,HC.out];rfl,HB.out⟩
   ·have hkl:k=len:=by omega
    have hg0:gk=0:=by omega
    have HD:Hid (es.drop k=[]):=by show _=_;rw[hkl,HLEN.out,List.drop_length]
    by_cases h1:d=1
    ·have e1:((d:Int) !=1)=false:=by rw[h1];rfl
     go_wp2;go_ret;refine⟨?_,hbw⟩;rw[HV.out,hch.out,HD.out,h1];rfl
    ·have e1:((d:Int) !=1)=true:=by rw[bne_iff_ne];omega
     go_wp2;go_ret;refine⟨?_,hbw⟩;rw[HV.out,hch.out,HD.out,chk,if_neg h1];rfl
structure Es (w:World) (es:List Nd) (A:Option Addr) (n c:Nat):Prop where
 len:n=es.length
 cap:n≤c
 max:c≤maxLen
 rd:Rd w A (oV es)
theorem Es.below {w w':World} {es:List Nd} {A:Option Addr} {n c:Nat} (h:Es w es A n c) (hb:Below w.heap.size w w'):Es w' es A n c:=⟨h.len,h.cap,h.max,h.rd.below hb⟩
theorem Es.nil (w:World):Es w [] none 0 0:=⟨rfl,Nat.le_refl _,by unfold maxLen;omega,.inl rfl⟩
theorem vH:(Tryz.prog.info? 48).map (fun i=>(i.zero,i.size,i.bytes))=some (some (.agg #[.int .i64 0,.bool false,.string ⟨#[]⟩,.string ⟨#[]⟩,.string ⟨#[]⟩]),5,64):=by kernel_rfl
theorem TP (a b:List Nd):oV (a++b)=oV a++oV b:=List.flatMap_append
def aaB (r:List Nd × Int) (w:World) (e:Ending) (w':World):Prop:=∃A n c,e=.returned (.tuple #[.slice A n c,.int .i64 r.2])∧Es w' r.1 A n c∧Below w.heap.size w w'
theorem aaB.bad {r:List Nd × Int} {z:Int} {w w':World} (h:r=([],z)) (hb:Below w.heap.size w w'):aaB r w (.returned (.tuple #[.slice none 0 0,.int .i64 z])) w':=
 ⟨none,0,0,by rw[h],by rw[h];exact Es.nil _,hb⟩
theorem qP {w:World} {base:Nat} {e:TypeId} {size:Nat} {v:Value} {n:Nat} {xs:List Value} (h:w.ownsRow base e size v n xs) (hn:0<n):∃g cap,v=.slice (some ⟨g,0,none⟩) n cap∧base≤g:=by
 rcases h.2 with⟨_,h0⟩|⟨g,cap,cur,hv,hb,_⟩
 ·omega
 ·exact⟨g,cap,hv,hb⟩
theorem acW (e:List Nd):∀d,chk e d=0→∀n∈e,bP n=0:=by
 induction e with
 |nil=>intro d _ n hn;cases hn
 |cons m r ih=>
  intro d h n hn;rw[chk] at h;split at h
  ·next h1=>exact absurd h h1
  ·next h1=>
   split at h
   ·cases h
   ·rcases List.mem_cons.1 hn with rfl|hn
    ·simpa using h1
    ·exact ih _ h n hn
theorem WE {es:List Nd} (h:bC es=0):∀n∈es,bP n=0:=by
 unfold bC at h;split at h
 ·cases h
 ·exact acW es 0 h
end Go.Proofs.YtgfeadgafdijaaaGreatDoor
