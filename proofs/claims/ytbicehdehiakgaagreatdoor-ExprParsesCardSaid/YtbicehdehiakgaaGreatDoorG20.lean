/- A part of the proof: G1 G2 G3 G4 G5 G6 E8. -/
import Derived.Test.YtbicehdehiakgaaGreatDoorG00
import Derived.Test.YtbicehdehiakgaaGreatDoorG17
import Derived.Test.YtbicehdehiakgaaGreatDoorG19
set_option linter.unusedVariables false
set_option linter.unusedSimpArgs false
namespace Go.Proofs.YtbicehdehiakgaaGreatDoor
open Go.RowKit
theorem shp_out (n:Int) (h:n<1∨24<n):shp n=sh0:=by
 unfold shp;rcases h with h|h
 ·rw[show n.toNat=0 from by omega];rfl
 ·rw[List.getD_eq_getElem?_getD,List.getElem?_eq_none (by show 25≤_;omega)];rfl
theorem shp_all (P:Int→Sh→Prop) (h:∀k∈List.range 25,P (k:Int) (shp (k:Int))) (ho:∀n:Int,(n<1∨24<n)→P n sh0) (n:Int):P n (shp n):=by
 by_cases hh:n<1∨24<n
 ·rw[shp_out n hh];exact ho n hh
 ·have:=h n.toNat (List.mem_range.2 (by omega));rwa[show ((n.toNat:Nat):Int)=n from by omega] at this
theorem shp_ops (n:Int):((shp n).ops:Int)=if n=15 then 3 else if (9≤n∧n≤14)∨(16≤n∧n≤19) then 2 else if 20≤n∧n≤24 then 1 else 0:=by
 refine shp_all (fun n s=>(s.ops:Int)=if n=15 then 3 else if (9≤n∧n≤14)∨(16≤n∧n≤19) then 2 else if 20≤n∧n≤24 then 1 else 0) (by decide) ?_ n;intro n h;rw[if_neg (by omega),if_neg (by omega),if_neg (by omega)];rfl
theorem shp_nam (n:Int):(shp n).nam=decide ((5≤n∧n≤8)∨n=24):=by
 refine shp_all (fun n s=>s.nam=decide ((5≤n∧n≤8)∨n=24)) (by decide) ?_ n;intro n h;rw[decide_eq_false (by omega)];rfl
theorem shp_stp (n:Int):(shp n).stp=decide (21≤n∧n≤23):=by
 refine shp_all (fun n s=>s.stp=decide (21≤n∧n≤23)) (by decide) ?_ n;intro n h;rw[decide_eq_false (by omega)];rfl
theorem shp_lit (n:Int):(shp n).lit=decide (1≤n∧n≤4):=by
 refine shp_all (fun n s=>s.lit=decide (1≤n∧n≤4)) (by decide) ?_ n;intro n h;rw[decide_eq_false (by omega)];rfl
set_option maxHeartbeats 800000 in
theorem gArity_any (n:Int) (w:World):Calls Tryz.prog 24 #[.int .i64 n] w fun e w'=>e=.returned (.int .i64 ((shp n).ops:Int))∧w=w':=by
 have HV:=Lib.hid (shp_ops n);by_cases h1:n=15
 ·subst h1;go_enter Tryz.func24,Tryz.ntmps24;go_wp2;go_ret;exact⟨by rw[HV.out];rfl,rfl⟩
 ·have e1:(n==15)=false:=by rw[beq_eq_false_iff_ne];exact h1
  have hc:(n<9)∨(9≤n∧n≤14)∨(9≤n∧14<n∧16≤n∧n≤19)∨(9≤n∧14<n∧16≤n∧19<n∧20≤n∧n≤24)∨(9≤n∧14<n∧16≤n∧19<n∧20≤n∧24<n):=by omega
  rcases hc with h|⟨h,h2⟩|⟨h,h2,h3,h4⟩|⟨h,h2,h3,h4,h5,h6⟩|⟨h,h2,h3,h4,h5,h6⟩
  case' inl=>
   have g1:n<16:=by omega
   have g2:n<20:=by omega
   have HW:Hid (((shp n).ops:Int)=0):=by show _=_;rw[HV.out,if_neg h1,if_neg (by omega),if_neg (by omega)]
  case' inr.inl=>have HW:Hid (((shp n).ops:Int)=2):=by show _=_;rw[HV.out,if_neg h1,if_pos (by omega)]
  case' inr.inr.inl=>have HW:Hid (((shp n).ops:Int)=2):=by show _=_;rw[HV.out,if_neg h1,if_pos (by omega)]
  case' inr.inr.inr.inl=>have HW:Hid (((shp n).ops:Int)=1):=by show _=_;rw[HV.out,if_neg h1,if_neg (by omega),if_pos (by omega)]
  case' inr.inr.inr.inr=>have HW:Hid (((shp n).ops:Int)=0):=by show _=_;rw[HV.out,if_neg h1,if_neg (by omega),if_neg (by omega)]
  all_goals
   clear h1 HV;go_enter Tryz.func24,Tryz.ntmps24;go_wp2;go_ret;exact⟨by rw[HW.out];rfl,rfl⟩
set_option maxHeartbeats 800000 in
theorem gNamed_any (n:Int) (w:World):Calls Tryz.prog 46 #[.int .i64 n] w fun e w'=>e=.returned (.bool (shp n).nam)∧w=w':=by
 have HV:=Lib.hid (shp_nam n);have hc:(5≤n∧n≤8)∨(n<5)∨(5≤n∧8<n):=by omega
 rcases hc with⟨h,h2⟩|h|⟨h,h2⟩
 case' inl=>have HW:Hid ((shp n).nam=true):=by show _=_;rw[HV.out];exact decide_eq_true (by omega)
 case' inr.inl=>
  have e1:(n==24)=false:=by rw[beq_eq_false_iff_ne];omega
  have HW:Hid ((shp n).nam=false):=by show _=_;rw[HV.out];exact decide_eq_false (by omega)
 case' inr.inr=>
  have e2:decide (n≤8)=false:=decide_eq_false (by omega)
  have HW:Hid ((shp n).nam=(n==24)):=by
   show _=_;rw[HV.out];by_cases h24:n=24
   ·subst h24;rfl
   ·rw[decide_eq_false (by omega)];simp[h24]
 all_goals
  clear HV;go_enter Tryz.func46,Tryz.ntmps46;go_wp2;go_ret;exact⟨by rw[HW.out];rfl,rfl⟩
theorem gStepped_any (n:Int) (w:World):Calls Tryz.prog 47 #[.int .i64 n] w fun e w'=>e=.returned (.bool (shp n).stp)∧w=w':=by
 have HV:=Lib.hid (shp_stp n);have hc:(21≤n∧n≤23)∨(n<21)∨(21≤n∧23<n):=by omega
 rcases hc with⟨h,h2⟩|h|⟨h,h2⟩
 case' inl=>have HW:Hid ((shp n).stp=true):=by show _=_;rw[HV.out];exact decide_eq_true (by omega)
 case' inr.inl=>have HW:Hid ((shp n).stp=false):=by show _=_;rw[HV.out];exact decide_eq_false (by omega)
 case' inr.inr=>
  have e2:decide (n≤23)=false:=decide_eq_false (by omega);have HW:Hid ((shp n).stp=false):=by show _=_;rw[HV.out];exact decide_eq_false (by omega)
 all_goals
  clear HV;go_enter Tryz.func47,Tryz.ntmps47;go_wp2;go_ret;exact⟨by rw[HW.out];rfl,rfl⟩
theorem gLiteral_any (n:Int) (w:World):Calls Tryz.prog 50 #[.int .i64 n] w fun e w'=>e=.returned (.bool (shp n).lit)∧w=w':=by
 have HV:=Lib.hid (shp_lit n);have hc:(1≤n∧n≤4)∨(n<1)∨(1≤n∧4<n):=by omega
 rcases hc with⟨h,h2⟩|h|⟨h,h2⟩
 case' inl=>have HW:Hid ((shp n).lit=true):=by show _=_;rw[HV.out];exact decide_eq_true (by omega)
 case' inr.inl=>have HW:Hid ((shp n).lit=false):=by show _=_;rw[HV.out];exact decide_eq_false (by omega)
 case' inr.inr=>
  have e2:decide (n≤4)=false:=decide_eq_false (by omega);have HW:Hid ((shp n).lit=false):=by show _=_;rw[HV.out];exact decide_eq_false (by omega)
 all_goals
  clear HV;go_enter Tryz.func50,Tryz.ntmps50;go_wp2;go_ret;exact⟨by rw[HW.out];rfl,rfl⟩
def wordsC:List Value:=shs.map fun s=>.string ⟨s.word.toArray⟩
set_option maxRecDepth 100000 in
set_option maxHeartbeats 800000 in
theorem gWords_any (n:Int) (w:World):Calls Tryz.prog 49 #[.int .i64 n] w fun e w'=>e=.returned (.string ⟨(shp n).word.toArray⟩)∧Below w.heap.size w w':=by
 by_cases h0:n<0
 ·have HW:Hid ((shp n).word=[]):=by show _=_;rw[shp_out n (by omega)];rfl
  go_enter Tryz.func49,Tryz.ntmps49;go_wp2;go_ret;exact⟨by rw[HW.out];rfl,(Below.refl _ _).alloc (Nat.le_refl _) _⟩
 ·obtain⟨k,rfl⟩:∃k:Nat,n=k:=⟨n.toNat,by omega⟩
  clear h0;by_cases h1:25≤k
  ·have HW:Hid ((shp (k:Int)).word=[]):=by show _=_;rw[shp_out _ (by omega)];rfl
   have h2:(25:Int)≤k:=by omega
   clear h1;go_enter Tryz.func49,Tryz.ntmps49;go_wp2;go_ret;exact⟨by rw[HW.out];rfl,(Below.refl _ _).alloc (Nat.le_refl _) _⟩
  ·have h2:(k:Int)<25:=by omega
   have h3:k<25:=by omega
   have hk:wordsC[k]?=some (.string ⟨(shp (k:Int)).word.toArray⟩):=by
    unfold wordsC;rw[List.getElem?_map,shp_get k h3];rfl
   have hcell:∀W:World,(W.alloc (.cells wordsC.toArray 9)).cell? ⟨W.heap.size,k,none⟩=some (.string ⟨(shp (k:Int)).word.toArray⟩):=fun W=>by
    have:=(Blk.new W 9 wordsC.toArray).cells k;rw[this];simpa using hk
   generalize (shp (k:Int)).word=wd at*;unfold wordsC at hcell;simp only[shs,sh0,List.map_cons,List.map_nil] at hcell;clear hk h1 h3;go_enter Tryz.func49,Tryz.ntmps49;go_wp2;go_ret;exact⟨rfl,(Below.refl _ _).alloc (Nat.le_refl _) _⟩
set_option maxHeartbeats 1600000 in
theorem gName_any (s:ByteArray) (w:World):
  Calls Tryz.prog 75 #[.string s] w fun e w'=>e=.returned (.bool (nameB s.data.toList))∧w=w':=by
 have HN:Hid (nameB s.data.toList=((match s.data.toList with|[]=>false|c::_=>letterC c)&&decide (s.data.toList.length≤20)&&s.data.toList.all nameC)):=rfl;rcases Nat.eq_zero_or_pos s.size with h0|h0
 ·have hs:s=⟨#[]⟩:=by
   obtain⟨⟨l⟩⟩:=s;have h:l.length=0:=h0;rw[List.eq_nil_of_length_eq_zero h]
  subst hs;clear h0;go_enter Tryz.func75,Tryz.ntmps75;go_wp2;go_ret;exact⟨rfl,rfl⟩
 ·have hlen:s.data.toList.length=s.size:=by simp
  have h0':((s.size:Int)<1)=False:=by rw[eq_iff_iff,iff_false];omega
  have hh:∃t,s.data.toList=s[0]::t:=by
   obtain⟨⟨l⟩⟩:=s;cases l with
   |nil=>exact absurd h0 (by show ¬0<0;omega)
   |cons c l=>exact⟨l,rfl⟩
  obtain⟨t,ht⟩:=hh;rw[hlen] at HN;by_cases h1:s.size≤20
  ·have h1':decide (20<(s.size:Int))=false:=by rw[decide_eq_false_iff_not];omega
   have hc:(letterC s[0]=true∧97≤(s[0].toNat:Int)∧(s[0].toNat:Int)≤122)∨(letterC s[0]=false∧(s[0].toNat:Int)<97)∨(letterC s[0]=false∧97≤(s[0].toNat:Int)∧122<(s[0].toNat:Int)):=by
    unfold letterC;by_cases a:97≤s[0].toNat
    ·by_cases b:s[0].toNat≤122
     ·exact .inl ⟨by simp[a,b],by omega,by omega⟩
     ·exact .inr (.inr ⟨by simp[b],by omega,by omega⟩)
    ·exact .inr (.inl ⟨by simp[a],by omega⟩)
   rcases hc with⟨hc,ha,hb⟩|⟨hc,ha⟩|⟨hc,ha,hb⟩
   ·have HR:Hid (nameB s.data.toList=s.data.toList.all nameC):=by
     show _=_;rw[HN.out,ht];simp only[hc,Bool.true_and,decide_eq_true h1]
    clear HN ht hc;go_enter Tryz.func75,Tryz.ntmps75;go_wp2
    go_loopg [3] s.size (fun g iv wr=>∃k:Nat,k+g=s.size∧iv=.int .i64 k∧Hid (nameB s.data.toList=(s.data.toList.drop k).all nameC)∧w=wr)
    case atStart=>exact⟨0,by omega,rfl,by show _=_;rw[HR.out];rfl,rfl⟩
    case round=>
     obtain⟨k,hk,rfl,hR,rfl⟩:=hrel;clear ha hb;by_cases hlt:k<s.size
     ·have hd:Hid (s.data.toList.drop k=s[k]::s.data.toList.drop (k+1)):=by
       show _=_;rw[List.drop_eq_getElem_cons (by rw[hlen];exact hlt)];rfl
      have hR2:Hid (nameB s.data.toList=(nameC s[k]&&(s.data.toList.drop (k+1)).all nameC)):=by
       show _=_;rw[hR.out,hd.out,List.all_cons]
      clear hd hR;by_cases hn:nameC s[k]=true
      ·have hR3:Hid (nameB s.data.toList=(s.data.toList.drop (k+1)).all nameC):=by show _=_;rw[hR2.out,hn,Bool.true_and]
       have hc3:(97≤(s[k].toNat:Int)∧(s[k].toNat:Int)≤122)∨((s[k].toNat:Int)<97∧48≤(s[k].toNat:Int)∧(s[k].toNat:Int)≤57)∨((s[k].toNat:Int)<97∧48≤(s[k].toNat:Int)∧57<(s[k].toNat:Int)∧(((s[k].toNat:Nat):Int) !=95)=false):=by
        simp only[nameC,letterC,digitC,Bool.or_eq_true,Bool.and_eq_true,decide_eq_true_eq] at hn;rcases hn with (h|h)|h
        ·exact .inl (by omega)
        ·exact .inr (.inl (by omega))
        ·exact .inr (.inr ⟨by omega,by omega,by omega,by rw[h];rfl⟩)
       clear hR2 hn;rcases hc3 with⟨g1,g2⟩|⟨g1,g2,g3⟩|⟨g1,g2,g3,g4⟩
       all_goals
        go_wp2
        go_roundg (s.size-(k+1))
        case measure=>omega
        case rel=>exact⟨k+1,by omega,by go_num,hR3,rfl⟩
      ·have hn':nameC s[k]=false:=by simpa using hn
       have hR3:Hid (nameB s.data.toList=false):=by show _=_;rw[hR2.out,hn',Bool.false_and]
       have hc3:((s[k].toNat:Int)<97∧(s[k].toNat:Int)<48∧(((s[k].toNat:Nat):Int) !=95)=true)∨((s[k].toNat:Int)<97∧48≤(s[k].toNat:Int)∧57<(s[k].toNat:Int)∧(((s[k].toNat:Nat):Int) !=95)=true)∨(97≤(s[k].toNat:Int)∧122<(s[k].toNat:Int)∧48≤(s[k].toNat:Int)∧57<(s[k].toNat:Int)∧(((s[k].toNat:Nat):Int) !=95)=true):=by
        simp only[nameC,letterC,digitC,Bool.or_eq_true,Bool.and_eq_true,decide_eq_true_eq] at hn;simp only[bne_iff_ne,ne_eq]
        omega
       clear hR2 hn hn';rcases hc3 with⟨g1,g2,g3⟩|⟨g1,g2,g3,g4⟩|⟨g1,g2,g3,g4,g5⟩
       all_goals
        go_wp2;go_ret;exact⟨by rw[hR3.out];rfl,rfl⟩
     ·have hg0:gk=0:=by omega
      have hR3:Hid (nameB s.data.toList=true):=by show _=_;rw[hR.out,List.drop_eq_nil_of_le (by omega)];rfl
      clear hR;go_wp2;go_ret;exact⟨by rw[hR3.out];rfl,rfl⟩
   all_goals
    have HR:Hid (nameB s.data.toList=false):=by
     show _=_;rw[HN.out,ht];simp[hc]
    clear HN hlen ht hc;go_enter Tryz.func75,Tryz.ntmps75;go_wp2;go_ret;exact⟨by rw[HR.out];rfl,rfl⟩
  ·have HR:Hid (nameB s.data.toList=false):=by
    show _=_;rw[HN.out];simp[h1]
   have h1':decide (20<(s.size:Int))=true:=by rw[decide_eq_true_eq];omega
   clear HN hlen ht;go_enter Tryz.func75,Tryz.ntmps75;go_wp2;go_ret;exact⟨by rw[HR.out];rfl,rfl⟩
set_option maxRecDepth 100000 in
set_option maxHeartbeats 1600000 in
theorem gNumbered_any (n:Nd) (w:World) (hf:Fine n):Calls Tryz.prog 74 #[n.v] w fun e w'=>e=.returned (.bool (numOk n))∧Below w.heap.size w w':=by
 obtain⟨hn,hd⟩:=hf;have HU:Hid (numOk n=if n.op=4 then decide (n.num=ofI 0)||decide (n.num=ofI 1) else if (shp n.op).lit then fitsR n.num else if (shp n.op).stp then fitsR n.num&&decide (0<signR n.num) else decide (n.num=zR)):=rfl;have HF:=Lib.hid (fun W=>sFits_any n.num W (by omega) (by omega));have HS:=Lib.hid (fun W=>sSign_any n.num W (by omega) (by omega));have HQ0:=fun W=>eql_ra n.num (ofI 0) W
 have HQ1:=fun W=>eql_ra n.num (ofI 1) W
 have HQZ:=fun W=>eql_ra n.num zR W
 have HL:=Lib.hid (fun W=>gLiteral_any n.op W);have HT:=Lib.hid (fun W=>gStepped_any n.op W);generalize fitsR n.num=ft at*;generalize signR n.num=sg at*;generalize decide (n.num=ofI 0)=d0 at*;generalize decide (n.num=ofI 1)=d1 at*;generalize decide (n.num=zR)=dz at*;generalize (shp n.op).lit=li at*;generalize (shp n.op).stp=st at*;generalize numOk n=r at*;clear hn hd;obtain⟨op,⟨neg,num,den⟩,nm⟩:=n;unfold Ra.v at HF HS HQ0 HQ1 HQZ;unfold Nd.v;simp only at HU HF HS HQ0 HQ1 HQZ HL HT⊢;obtain⟨W,hW⟩:∃W,W=w.alloc (.cells #[.int .i64 op,.bool neg,.string num,.string den,.string nm] 33):=⟨_,rfl⟩
 have hba:Below w.heap.size w W:=by rw[hW];exact (Below.refl _ _).alloc (Nat.le_refl _) _
 have hk0:Blk W w.heap.size 33 [.int .i64 op,.bool neg,.string num,.string den,.string nm]:=by rw[hW];exact Blk.new w _ _
 have hsz:W.heap.size=w.heap.size+1:=by rw[hW];exact Array.size_push _
 obtain⟨B,hB⟩:∃B,B=w.heap.size:=⟨_,rfl⟩
 have HB:=Lib.hid hB;rw[←hB] at hba hsz hk0;have hc:=hk0.cells;by_cases h4:op=4
 ·have h4':(op==4)=true:=by rw[h4];rfl
  have HW:Hid (r=(d0||d1)):=by show _=_;rw[HU.out,if_pos h4]
  clear h4 HU HF HS HQZ HL HT;cases d0
  ·cases d1
   all_goals
    go_enter Tryz.func74,Tryz.ntmps74;go_wp2_with fail;simp only[←hW,←hB]
    clear hW hB
    have HK:Hid (∀w' w1:World,((∀i,w'.cell? ⟨B,i,none⟩=([.int .i64 op,.bool neg,.string num,.string den,.string nm]:List Value)[i]?)∧B<w'.heap.size∧Below B w w')→Below w'.heap.size w' w1→
      ((∀i,w1.cell? ⟨B,i,none⟩=([.int .i64 op,.bool neg,.string num,.string den,.string nm]:List Value)[i]?)∧B<w1.heap.size∧Below B w w1)):=by
     rintro w' w1 ⟨h0,h2,h3⟩ hb1;exact⟨fun i=>(hb1.cell h2).trans (h0 i),Nat.lt_of_lt_of_le h2 hb1.size,h3.trans (hb1.mono (Nat.le_of_lt h2))⟩
    have HS:Hid ((∀i,W.drew.cell? ⟨B,i,none⟩=([.int .i64 op,.bool neg,.string num,.string den,.string nm]:List Value)[i]?)∧B<W.drew.heap.size∧Below B w W.drew):=
     ⟨hk0.cells,hk0.lt,below_drewN hba 1⟩
    clear hba;refine wp_region_noPanic ?_;refine wp_region_held_drew (S:=fun w'=>(∀i,w'.cell? ⟨B,i,none⟩=([.int .i64 op,.bool neg,.string num,.string den,.string nm]:List Value)[i]?)∧B<w'.heap.size∧Below B w w') (by kernel_rfl) HS.out (fun hHeld=>?_);refine tkY 0 ?_ rfl ?_ ?_;rotate_left
    ·intro w hSw;(try dsimp only at hSw);go_simp
     all_goals with_reducible rfl
    try simp only[Act.put,tk1,tk2,tk3,tk4,tk5,tk6]
    refine tkY 1 ?_ rfl ?_ ?_;rotate_left
    ·intro w hSw;(try dsimp only at hSw);go_simp
     all_goals with_reducible rfl
    try simp only[Act.put,tk1,tk2,tk3,tk4,tk5,tk6]
    refine wpAnyH_ready (rs:=[2]) (by kernel_rfl) (by simp) ?_;refine AllReadyH.cons rfl (fun K hK=>?_) AllReadyH.nil;go_simp;refine (sOf_any 0 _ (by omega) (by omega)).mono ?_;rintro e w1 ⟨rfl,hb1⟩;simp only[Ra.v]
    go_wp2_with fail;refine hK.out _ _ ?_ (fun hHeld=>?_)
    ·exact HK.out _ _ (by assumption) hb1
    clear hK K
    try simp only[Act.put,tk1,tk2,tk3,tk4,tk5,tk6]
    refine tkY 3 ?_ rfl ?_ ?_;rotate_left
    ·intro w hSw;(try dsimp only at hSw);go_simp
     all_goals with_reducible rfl
    try simp only[Act.put,tk1,tk2,tk3,tk4,tk5,tk6]
    refine tkY 4 ?_ rfl ?_ ?_;rotate_left
    ·intro w hSw;(try dsimp only at hSw);go_simp
     all_goals with_reducible rfl
    try simp only[Act.put,tk1,tk2,tk3,tk4,tk5,tk6]
    refine tkY 5 ?_ rfl ?_ ?_;rotate_left
    ·intro w hSw;(try dsimp only at hSw);go_simp
     all_goals with_reducible rfl
    try simp only[Act.put,tk1,tk2,tk3,tk4,tk5,tk6]
    refine tkY 6 ?_ rfl ?_ ?_;rotate_left
    ·intro w hSw;(try dsimp only at hSw);go_simp
     all_goals with_reducible rfl
    try simp only[Act.put,tk1,tk2,tk3,tk4,tk5,tk6]
    refine wpAnyH_ready (rs:=[7]) (by kernel_rfl) (by simp) ?_;refine AllReadyH.cons rfl (fun K hK=>?_) AllReadyH.nil;go_simp;refine (sOf_any 1 _ (by omega) (by omega)).mono ?_;rintro e w1 ⟨rfl,hb1⟩;simp only[Ra.v]
    go_wp2_with fail;refine hK.out _ _ ?_ (fun hHeld=>?_)
    ·exact HK.out _ _ (by assumption) hb1
    clear hK K
    try simp only[Act.put,tk1,tk2,tk3,tk4,tk5,tk6]
    refine tkY 8 ?_ rfl ?_ ?_;rotate_left
    ·intro w hSw;(try dsimp only at hSw);go_simp
     all_goals with_reducible rfl
    try simp only[Act.put,tk1,tk2,tk3,tk4,tk5,tk6]
    refine tkY 9 ?_ rfl ?_ ?_;rotate_left
    ·intro w hSw;(try dsimp only at hSw);go_simp
     all_goals with_reducible rfl
    try simp only[Act.put,tk1,tk2,tk3,tk4,tk5,tk6]
    refine tkY 10 ?_ rfl ?_ ?_;rotate_left
    ·intro w hSw;(try dsimp only at hSw);go_simp
     all_goals with_reducible rfl
    try simp only[Act.put,tk1,tk2,tk3,tk4,tk5,tk6]
    refine wpAnyH_done (by kernel_rfl) ?_ _;refine NoPanic.normal ?_;obtain⟨_,_,hb3⟩:=hHeld;have HH:=Lib.hid hb3;clear hb3;go_wp2;go_ret;exact⟨by rw[HW.out];rfl,by rw[←HB.out];exact HH.out⟩
  ·go_enter Tryz.func74,Tryz.ntmps74;go_wp2_with fail;simp only[←hW,←hB]
   clear hW hB
   have HK:Hid (∀w' w1:World,((∀i,w'.cell? ⟨B,i,none⟩=([.int .i64 op,.bool neg,.string num,.string den,.string nm]:List Value)[i]?)∧B<w'.heap.size∧Below B w w')→Below w'.heap.size w' w1→
     ((∀i,w1.cell? ⟨B,i,none⟩=([.int .i64 op,.bool neg,.string num,.string den,.string nm]:List Value)[i]?)∧B<w1.heap.size∧Below B w w1)):=by
    rintro w' w1 ⟨h0,h2,h3⟩ hb1;exact⟨fun i=>(hb1.cell h2).trans (h0 i),Nat.lt_of_lt_of_le h2 hb1.size,h3.trans (hb1.mono (Nat.le_of_lt h2))⟩
   have HS:Hid ((∀i,W.drew.cell? ⟨B,i,none⟩=([.int .i64 op,.bool neg,.string num,.string den,.string nm]:List Value)[i]?)∧B<W.drew.heap.size∧Below B w W.drew):=
    ⟨hk0.cells,hk0.lt,below_drewN hba 1⟩
   clear hba;refine wp_region_noPanic ?_;refine wp_region_held_drew (S:=fun w'=>(∀i,w'.cell? ⟨B,i,none⟩=([.int .i64 op,.bool neg,.string num,.string den,.string nm]:List Value)[i]?)∧B<w'.heap.size∧Below B w w') (by kernel_rfl) HS.out (fun hHeld=>?_);refine tkY 0 ?_ rfl ?_ ?_;rotate_left
   ·intro w hSw;(try dsimp only at hSw);go_simp
    all_goals with_reducible rfl
   try simp only[Act.put,tk1,tk2,tk3,tk4,tk5,tk6]
   refine tkY 1 ?_ rfl ?_ ?_;rotate_left
   ·intro w hSw;(try dsimp only at hSw);go_simp
    all_goals with_reducible rfl
   try simp only[Act.put,tk1,tk2,tk3,tk4,tk5,tk6]
   refine wpAnyH_ready (rs:=[2]) (by kernel_rfl) (by simp) ?_;refine AllReadyH.cons rfl (fun K hK=>?_) AllReadyH.nil;go_simp;refine (sOf_any 0 _ (by omega) (by omega)).mono ?_;rintro e w1 ⟨rfl,hb1⟩;simp only[Ra.v]
   go_wp2_with fail;refine hK.out _ _ ?_ (fun hHeld=>?_)
   ·exact HK.out _ _ (by assumption) hb1
   clear hK K
   try simp only[Act.put,tk1,tk2,tk3,tk4,tk5,tk6]
   refine tkY 3 ?_ rfl ?_ ?_;rotate_left
   ·intro w hSw;(try dsimp only at hSw);go_simp
    all_goals with_reducible rfl
   try simp only[Act.put,tk1,tk2,tk3,tk4,tk5,tk6]
   refine tkY 4 ?_ rfl ?_ ?_;rotate_left
   ·intro w hSw;(try dsimp only at hSw);go_simp
    all_goals with_reducible rfl
   try simp only[Act.put,tk1,tk2,tk3,tk4,tk5,tk6]
   refine tkN 5 rfl ?_
   try simp only[Act.put,tk1,tk2,tk3,tk4,tk5,tk6]
   refine tkN 6 rfl ?_
   try simp only[Act.put,tk1,tk2,tk3,tk4,tk5,tk6]
   refine tkN 7 rfl ?_
   try simp only[Act.put,tk1,tk2,tk3,tk4,tk5,tk6]
   refine tkN 8 rfl ?_
   try simp only[Act.put,tk1,tk2,tk3,tk4,tk5,tk6]
   refine tkY 9 ?_ rfl ?_ ?_;rotate_left
   ·intro w hSw;(try dsimp only at hSw);go_simp
    all_goals with_reducible rfl
   try simp only[Act.put,tk1,tk2,tk3,tk4,tk5,tk6]
   refine tkY 10 ?_ rfl ?_ ?_;rotate_left
   ·intro w hSw;(try dsimp only at hSw);go_simp
    all_goals with_reducible rfl
   try simp only[Act.put,tk1,tk2,tk3,tk4,tk5,tk6]
   refine wpAnyH_done (by kernel_rfl) ?_ _;refine NoPanic.normal ?_;obtain⟨_,_,hb3⟩:=hHeld;have HH:=Lib.hid hb3;clear hb3;go_wp2;go_ret;exact⟨by rw[HW.out];rfl,by rw[←HB.out];exact HH.out⟩
 ·have h4':(op==4)=false:=by rw[beq_eq_false_iff_ne];exact h4
  have HW:Hid (r=if li then ft else if st then ft&&decide (0<sg) else dz):=by show _=_;rw[HU.out,if_neg h4]
  clear h4 HU HQ0 HQ1;cases li
  ·cases st
   ·clear HF HS;go_enter Tryz.func74,Tryz.ntmps74;go_wp2_with fail;simp only[←hW,←hB]
    clear hW hB;refine (HL.out _).mono ?_;rintro e w1 ⟨rfl,rfl⟩;go_wp2_with fail;refine (HT.out _).mono ?_;rintro e w1 ⟨rfl,rfl⟩;simp only[zR] at HQZ;go_wp2;go_ret;exact⟨by rw[HW.out];rfl,by rw[←HB.out];exact hba⟩
   ·clear HQZ;obtain⟨b,hb⟩:∃b,decide (0<sg)=b:=⟨_,rfl⟩
    rw[hb] at HW;cases ft
    all_goals
     go_enter Tryz.func74,Tryz.ntmps74;go_wp2_with fail;simp only[←hW,←hB]
     clear hW hB;refine (HL.out _).mono ?_;rintro e w1 ⟨rfl,rfl⟩;go_wp2_with fail;refine (HT.out _).mono ?_;rintro e w1 ⟨rfl,rfl⟩;go_wp2_with fail;refine (HF.out _).mono ?_;rintro e w1 ⟨rfl,hb1⟩;have hk1:=hk0.below hb1 hk0.lt;have hc1:=hk1.cells;have hB1:=hba.trans (hb1.mono (Nat.le_of_lt hk0.lt));clear hb1 hba
    ·go_wp2;go_ret;exact⟨by rw[HW.out];rfl,by rw[←HB.out];exact hB1⟩
    ·go_wp2_with fail;refine (HS.out _).mono ?_;rintro e w2 ⟨rfl,hb2⟩;have hB2:=hB1.trans (hb2.mono (Nat.le_of_lt hk1.lt));clear hb2 hB1;go_wp2;go_ret;exact⟨by rw[HW.out];rfl,by rw[←HB.out];exact hB2⟩
  ·clear HS HQZ;go_enter Tryz.func74,Tryz.ntmps74;go_wp2_with fail;simp only[←hW,←hB]
   clear hW hB;refine (HL.out _).mono ?_;rintro e w1 ⟨rfl,rfl⟩;go_wp2_with fail;refine (HF.out _).mono ?_;rintro e w1 ⟨rfl,hb1⟩;go_wp2;go_ret;exact⟨by rw[HW.out];rfl,by rw[←HB.out];exact hba.trans (hb1.mono (Nat.le_of_lt hk0.lt))⟩
theorem wrongN_ways (n:Nd):(n.op<1∧wrongN n=11)∨(1≤n.op∧24<n.op∧wrongN n=11)∨(1≤n.op∧n.op≤24∧numOk n=false∧wrongN n=11)∨
  (1≤n.op∧n.op≤24∧numOk n=true∧(shp n.op).nam=false∧n.name.toList.isEmpty=false∧wrongN n=11)∨
  (1≤n.op∧n.op≤24∧numOk n=true∧(shp n.op).nam=false∧n.name.toList.isEmpty=true∧wrongN n=0)∨
  (1≤n.op∧n.op≤24∧numOk n=true∧(shp n.op).nam=true∧nameB n.name.data.toList=false∧wrongN n=12)∨
  (1≤n.op∧n.op≤24∧numOk n=true∧(shp n.op).nam=true∧nameB n.name.data.toList=true∧wrongN n=0):=by
 by_cases h1:n.op<1
 ·exact .inl ⟨h1,by unfold wrongN;rw[if_pos (.inl h1)]⟩
 by_cases h2:24<n.op
 ·exact .inr (.inl ⟨by omega,h2,by unfold wrongN;rw[if_pos (.inr (.inl h2))]⟩)
 refine .inr (.inr ?_);have a1:1≤n.op:=by omega
 have a2:n.op≤24:=by omega
 cases h3:numOk n
 ·exact .inl ⟨a1,a2,rfl,by unfold wrongN;rw[if_pos (.inr (.inr (.inr h3)))]⟩
 refine .inr ?_;cases h4:(shp n.op).nam
 ·cases h5:n.name.toList.isEmpty
  ·exact .inl ⟨a1,a2,rfl,rfl,rfl,by unfold wrongN;rw[if_pos (.inr (.inr (.inl ⟨h4,fun h=>by rw[(emp_nil _).2 h] at h5;cases h5⟩)))]⟩
  ·refine .inr (.inl ⟨a1,a2,rfl,rfl,rfl,?_⟩);unfold wrongN;rw[if_neg (by rintro (h|h|h|h);exact h1 h;exact h2 h;exact h.2 ((emp_nil _).1 h5);rw[h3] at h;cases h),h4];rfl
 ·have hw:wrongN n=if !nameB n.name.data.toList then 12 else 0:=by
   unfold wrongN;rw[if_neg (by rintro (h|h|h|h);exact h1 h;exact h2 h;rw[h4] at h;cases h.1;rw[h3] at h;cases h),h4,Bool.true_and]
  refine .inr (.inr ?_);cases h5:nameB n.name.data.toList
  ·exact .inl ⟨a1,a2,rfl,rfl,rfl,by rw[hw,h5];rfl⟩
  ·exact .inr ⟨a1,a2,rfl,rfl,rfl,by rw[hw,h5];rfl⟩
set_option maxRecDepth 100000 in
set_option maxHeartbeats 3200000 in
theorem gCheck_any (es:List Nd) (A:Option Addr) (len cap:Nat) (w:World) (hlen:len=es.length) (hcap:len≤cap) (hm:cap≤maxLen) (hr:Rd w A (nds es)) (hf:∀n∈es,Fine n):
  Calls Tryz.prog 42 #[.slice A len cap] w fun e w'=>e=.returned (.int .i64 (checkE es))∧Below w.heap.size w w':=by
 unfold maxLen at hm;by_cases h60:60<len
 ·have HV:Hid (checkE es=2):=by show _=_;unfold checkE;rw[if_pos (by omega)]
  have h60':(60:Int)<len:=by omega
  clear hlen hr hf;go_enter Tryz.func42,Tryz.ntmps42;go_wp2;go_ret;exact⟨by rw[HV.out];rfl,Below.refl _ _⟩
 ·have HV:Hid (checkE es=chk es 0):=by show _=_;unfold checkE;rw[if_neg (by omega)]
  have h60':¬(60:Int)<len:=by omega
  have HR:=Lib.hid hr;have HF:=Lib.hid hf;have HLEN:=Lib.hid hlen;have hle:len≤60:=by omega
  clear hlen hr hf h60;go_enter Tryz.func42,Tryz.ntmps42;go_wp2
  go_loopg [3,4] len (fun g dv iv wr=>∃k d:Nat,k+g=len∧d≤k∧dv=.int .i64 d∧iv=.int .i64 k∧Hid (chk es 0=chk (es.drop k) d)∧Below w.heap.size w wr)
  case atStart=>exact⟨0,0,by omega,by omega,rfl,rfl,rfl,Below.refl _ _⟩
  case round=>
   obtain⟨k,d,hk,hd,rfl,rfl,hch,hbw⟩:=hrel;by_cases hlt:k<len
   ·have hke:k<es.length:=by rw[←HLEN.out];exact hlt
    obtain⟨b,off,rfl,hb,hc0,hc1,hc2,hc3,hc4⟩:=(HR.out.below hbw).nd hke;have hfin:=HF.out _ (List.getElem_mem hke);have HCH0:Hid (chk es 0=chk (es[k]::es.drop (k+1)) d):=by show _=_;rw[hch.out,List.drop_eq_getElem_cons hke]
    have HNB:=Lib.hid (fun W=>gNumbered_any es[k] W hfin);generalize es[k]=n at*;have hways:=wrongN_ways n
    have HCH1:Hid (∀z,wrongN n=z→chk es 0=if z≠0 then z else if d<(shp n.op).ops then 11 else chk (es.drop (k+1)) (d-(shp n.op).ops+1)):=by
     rintro z rfl;rw[HCH0.out,chk]
    have HND:=Lib.hid (fun W=>gNamed_any n.op W);have HNM:=Lib.hid (fun W=>gName_any n.name W);have HAR:=Lib.hid (fun W=>gArity_any n.op W);have hol:=shp_ops_le n.op;clear hfin HCH0 hch;generalize wrongN n=z at*;generalize numOk n=ok at*;obtain⟨op,⟨neg,num,den⟩,nm⟩:=n;unfold Nd.v at HNB;simp only at hc0 hc1 hc2 hc3 hc4 hways HCH1 HND HNM HAR hol HNB;generalize nameB nm.data.toList=nb at*;generalize (shp op).nam=nam at*;generalize (shp op).ops=o at*;have hba:Below w.heap.size w (wr.alloc (.cells #[.int .i64 op,.bool neg,.string num,.string den,.string nm] 33)):=hbw.alloc hbw.size _;have hka:=Blk.new wr 33 #[.int .i64 op,.bool neg,.string num,.string den,.string nm];have HCH:=Lib.hid (HCH1.out z rfl);clear HCH1 hbw;by_cases hz0:z=0
    ·subst hz0
     have HC:Hid (chk es 0=if d<o then 11 else chk (es.drop (k+1)) (d-o+1)):=by
      have:=HCH.out;rwa[if_neg (by simp)] at this
     have hw2:(1≤op∧op≤24∧ok=true∧nam=false∧nm.toList.isEmpty=true)∨(1≤op∧op≤24∧ok=true∧nam=true∧nb=true):=by
      rcases hways with h|h|h|h|h|h|h
      ·exact absurd h.2 (by decide)
      ·exact absurd h.2.2 (by decide)
      ·exact absurd h.2.2.2 (by decide)
      ·exact absurd h.2.2.2.2.2 (by decide)
      ·exact .inl ⟨h.1,h.2.1,h.2.2.1,h.2.2.2.1,h.2.2.2.2.1⟩
      ·exact absurd h.2.2.2.2.2 (by decide)
      ·exact .inr ⟨h.1,h.2.1,h.2.2.1,h.2.2.2.1,h.2.2.2.2.1⟩
     clear HCH hways;obtain⟨q,hq⟩:∃q,decide (d<o)=q:=⟨_,rfl⟩
     have hq':decide ((d:Int)<o)=q:=by rw[←hq,decide_eq_decide];omega
     rcases hw2 with⟨o1,o2,rfl,rfl,he⟩|⟨o1,o2,rfl,rfl,rfl⟩
     all_goals
      go_wp2_with fail;refine (HND.out _).mono ?_;rintro e w2 ⟨rfl,rfl⟩;go_wp2_with fail;refine (HNB.out _).mono ?_;rintro e w2 ⟨rfl,hb2⟩;have hk2:=hka.below hb2 hka.lt;have hcB:=hk2.cells;have HB:=Lib.hid (bstep hba hb2);clear hk2 hb2 hba hka;go_wp2_with fail;refine (HNM.out _).mono ?_;rintro e w3 ⟨rfl,rfl⟩;go_wp2_with fail;refine (HAR.out _).mono ?_;rintro e w3 ⟨rfl,rfl⟩;cases q
      ·have hdo:¬d<o:=of_decide_eq_false hq;have e1:0≤(d:Int)-o:=by omega
       have hq2:¬((d:Int)<o):=by omega
       go_wp2
       go_roundg (len-(k+1))
       case measure=>omega
       case rel=>
        refine⟨k+1,d-o+1,by omega,by omega,by go_num,by go_num,?_,HB.out⟩;show _=_;rw[HC.out,if_neg hdo]
      ·have hdo:d<o:=of_decide_eq_true hq;go_wp2;go_ret;exact⟨by rw[HV.out,HC.out,if_pos hdo];rfl,HB.out⟩
    ·have hw2:(op<1∧z=11)∨(1≤op∧24<op∧z=11)∨(1≤op∧op≤24∧ok=false∧z=11)∨(1≤op∧op≤24∧ok=true∧nam=false∧nm.toList.isEmpty=false∧z=11)∨(1≤op∧op≤24∧ok=true∧nam=true∧nb=false∧z=12):=by
      rcases hways with h|h|h|h|h|h|h
      ·exact .inl h
      ·exact .inr (.inl h)
      ·exact .inr (.inr (.inl h))
      ·exact .inr (.inr (.inr (.inl h)))
      ·exact absurd h.2.2.2.2.2 hz0
      ·exact .inr (.inr (.inr (.inr h)))
      ·exact absurd h.2.2.2.2.2 hz0
     have HC:Hid (chk es 0=z):=by
      have:=HCH.out;rwa[if_pos hz0] at this
     clear HCH hways hz0;rcases hw2 with⟨o1,rfl⟩|⟨o1,o2,rfl⟩|⟨o1,o2,rfl,rfl⟩|⟨o1,o2,rfl,rfl,he,rfl⟩|⟨o1,o2,rfl,rfl,rfl,rfl⟩
     case' inr.inr.inr.inl=>have he2:(!nm.toList.isEmpty)=true:=by rw[he];rfl
     all_goals
      go_wp2_with fail;refine (HND.out _).mono ?_;rintro e w2 ⟨rfl,rfl⟩;go_wp2_with fail;refine (HNB.out _).mono ?_;rintro e w2 ⟨rfl,hb2⟩;have hk2:=hka.below hb2 hka.lt;have hcB:=hk2.cells;have HB:=Lib.hid (bstep hba hb2);clear hk2 hb2 hba hka;go_wp2_with fail
      try
       refine (HNM.out _).mono ?_;rintro e w3 ⟨rfl,rfl⟩;go_wp2_with fail
      go_ret;exact⟨by rw[HV.out,HC.out];rfl,HB.out⟩
   ·have hkl:k=len:=by omega
    have hg0:gk=0:=by omega
    have HD:Hid (es.drop k=[]):=by show _=_;rw[hkl,HLEN.out,List.drop_length]
    by_cases h1:d=1
    ·have e1:((d:Int) !=1)=false:=by rw[h1];rfl
     go_wp2;go_ret;refine⟨?_,hbw⟩;rw[HV.out,hch.out,HD.out,h1];rfl
    ·have e1:((d:Int) !=1)=true:=by rw[bne_iff_ne];omega
     go_wp2;go_ret;refine⟨?_,hbw⟩;rw[HV.out,hch.out,HD.out,chk,if_neg h1];rfl
theorem drewN_add (w:World) (n m:Nat):(w.drewN n).drewN m=w.drewN (n+m):=World.drewN_drewN _ _ _
set_option maxRecDepth 100000 in
set_option maxHeartbeats 1600000 in
theorem equalN_any (es fs:List Nd) (A1 A2:Option Addr) (l1 c1 l2 c2:Nat) (w:World) (h1:l1=es.length) (h2:l2=fs.length) (hm1:l1≤maxLen) (hm2:l2≤maxLen) (hr1:Rd w A1 (nds es)) (hr2:Rd w A2 (nds fs)):
  Calls Tryz.prog 44 #[.slice A1 l1 c1,.slice A2 l2 c2] w fun e w'=>e=.returned (.bool (decide (es=fs)))∧∃n,w'=w.drewN n:=by
 unfold maxLen at hm1 hm2;by_cases hl:l1=l2
 ·subst hl;have HR1:=Lib.hid hr1;have HR2:=Lib.hid hr2;have HL1:=Lib.hid h1;have HL2:=Lib.hid h2;clear hr1 hr2 h1 h2;go_enter Tryz.func44,Tryz.ntmps44;go_wp2
  go_loopg [13] l1 (fun g iv wr=>∃k:Nat,k+g=l1∧iv=.int .i64 k∧Hid (decide (es=fs)=decide (es.drop k=fs.drop k))∧Hid (∃n,wr=w.drewN n))
  case atStart=>exact⟨0,by omega,rfl,rfl,0,rfl⟩
  case round=>
   obtain⟨k,hk,rfl,hd,hw⟩:=hrel;by_cases hlt:k<l1
   ·have hk1:k<es.length:=by rw[←HL1.out];exact hlt
    have hk2:k<fs.length:=by rw[←HL2.out];exact hlt
    obtain⟨n,rfl⟩:=hw.out;obtain⟨b1,off1,rfl,hb1,x0,x1,x2,x3,x4⟩:=HR1.out.nd hk1;obtain⟨b2,off2,rfl,hb2,y0,y1,y2,y3,y4⟩:=HR2.out.nd hk2
    have HD:Hid (decide (es=fs)=decide (es[k]::es.drop (k+1)=fs[k]::fs.drop (k+1))):=by
     show _=_;rw[hd.out,List.drop_eq_getElem_cons hk1,List.drop_eq_getElem_cons hk2]
    have hq:=fun W=>neq_nd es[k] fs[k] W
    generalize es[k]=x at*;generalize fs[k]=y at*
    have HD1:Hid (x≠y→decide (es=fs)=false):=by
     intro h;rw[HD.out];exact decide_eq_false (fun hh=>h (by injection hh))
    have HD2:Hid (x=y→decide (es=fs)=decide (es.drop (k+1)=fs.drop (k+1))):=by
     intro h;rw[HD.out,decide_eq_decide,h];exact⟨fun hh=>by injection hh,fun hh=>by rw[hh]⟩
    clear HD hd hb1 hb2 hw;obtain⟨d,hdd⟩:∃d,decide (x=y)=d:=⟨_,rfl⟩
    rw[hdd] at hq;have HDD:=Lib.hid hdd;clear hdd;obtain⟨op,⟨neg,num,den⟩,nm⟩:=x;obtain⟨op',⟨neg',num',den'⟩,nm'⟩:=y;unfold Nd.v at hq;simp only at x0 x1 x2 x3 x4 y0 y1 y2 y3 y4 hq;cases d
    ·go_wp2;go_quiet (fail);go_wp2;go_ret;exact⟨by rw[HD1.out (of_decide_eq_false HDD.out)];rfl,_,drewN_add _ _ _⟩
    ·go_wp2;go_quiet (fail);go_wp2
     go_roundg (l1-(k+1))
     case measure=>omega
     case rel=>exact⟨k+1,by omega,by go_num,HD2.out (of_decide_eq_true HDD.out),_,rfl⟩
   ·obtain⟨n,rfl⟩:=hw.out;go_wp2;go_ret;refine⟨?_,n,rfl⟩;rw[hd.out,List.drop_eq_nil_of_le (by have:=HL1.out;omega),List.drop_eq_nil_of_le (by have:=HL2.out;omega)];rfl
 ·have HV:Hid (decide (es=fs)=false):=decide_eq_false (fun h=>hl (by rw[h1,h2,h]));have e1:((l1:Int) !=l2)=true:=by rw[bne_iff_ne];omega
  clear hr1 hr2 h1 h2;go_enter Tryz.func44,Tryz.ntmps44;go_wp2;go_ret;exact⟨by rw[HV.out];rfl,0,rfl⟩
set_option maxRecDepth 100000 in
set_option maxHeartbeats 1600000 in
theorem gSame_any (es fs:List Nd) (A1 A2:Option Addr) (l1 c1 l2 c2:Nat) (w:World) (h1:l1=es.length) (h2:l2=fs.length) (hm1:l1≤maxLen) (hm2:l2≤maxLen) (hr1:Rd w A1 (nds es)) (hr2:Rd w A2 (nds fs)):
  Calls Tryz.prog 16 #[.slice A1 l1 c1,.slice A2 l2 c2] w fun e w'=>e=.returned (.bool (decide (es=fs)))∧∃n,w'=w.drewN n:=by
 unfold maxLen at hm1 hm2;by_cases hl:l1=l2
 ·subst hl;have HR1:=Lib.hid hr1;have HR2:=Lib.hid hr2;have HL1:=Lib.hid h1;have HL2:=Lib.hid h2;clear hr1 hr2 h1 h2;go_enter Tryz.func16,Tryz.ntmps16;go_wp2
  go_loopg [5] l1 (fun g iv wr=>∃k:Nat,k+g=l1∧iv=.int .i64 k∧Hid (decide (es=fs)=decide (es.drop k=fs.drop k))∧Hid (∃n,wr=w.drewN n))
  case atStart=>exact⟨0,by omega,rfl,rfl,0,rfl⟩
  case round=>
   obtain⟨k,hk,rfl,hd,hw⟩:=hrel;by_cases hlt:k<l1
   ·have hk1:k<es.length:=by rw[←HL1.out];exact hlt
    have hk2:k<fs.length:=by rw[←HL2.out];exact hlt
    obtain⟨n,rfl⟩:=hw.out;obtain⟨b1,off1,rfl,hb1,x0,x1,x2,x3,x4⟩:=HR1.out.nd hk1;obtain⟨b2,off2,rfl,hb2,y0,y1,y2,y3,y4⟩:=HR2.out.nd hk2
    have HD:Hid (decide (es=fs)=decide (es[k]::es.drop (k+1)=fs[k]::fs.drop (k+1))):=by
     show _=_;rw[hd.out,List.drop_eq_getElem_cons hk1,List.drop_eq_getElem_cons hk2]
    have hq:=fun W=>neq_nd es[k] fs[k] W
    generalize es[k]=x at*;generalize fs[k]=y at*
    have HD1:Hid (x≠y→decide (es=fs)=false):=by
     intro h;rw[HD.out];exact decide_eq_false (fun hh=>h (by injection hh))
    have HD2:Hid (x=y→decide (es=fs)=decide (es.drop (k+1)=fs.drop (k+1))):=by
     intro h;rw[HD.out,decide_eq_decide,h];exact⟨fun hh=>by injection hh,fun hh=>by rw[hh]⟩
    clear HD hd hb1 hb2 hw;obtain⟨d,hdd⟩:∃d,decide (x=y)=d:=⟨_,rfl⟩
    rw[hdd] at hq;have HDD:=Lib.hid hdd;clear hdd;obtain⟨op,⟨neg,num,den⟩,nm⟩:=x;obtain⟨op',⟨neg',num',den'⟩,nm'⟩:=y;unfold Nd.v at hq;simp only at x0 x1 x2 x3 x4 y0 y1 y2 y3 y4 hq;cases d
    ·go_wp2;go_quiet (fail);go_wp2;go_ret;exact⟨by rw[HD1.out (of_decide_eq_false HDD.out)];rfl,_,drewN_add _ _ _⟩
    ·go_wp2;go_quiet (fail);go_wp2
     go_roundg (l1-(k+1))
     case measure=>omega
     case rel=>exact⟨k+1,by omega,by go_num,HD2.out (of_decide_eq_true HDD.out),_,rfl⟩
   ·obtain⟨n,rfl⟩:=hw.out;go_wp2;go_ret;refine⟨?_,n,rfl⟩;rw[hd.out,List.drop_eq_nil_of_le (by have:=HL1.out;omega),List.drop_eq_nil_of_le (by have:=HL2.out;omega)];rfl
 ·have HV:Hid (decide (es=fs)=false):=decide_eq_false (fun h=>hl (by rw[h1,h2,h]));have e1:((l1:Int) !=l2)=true:=by rw[bne_iff_ne];omega
  clear hr1 hr2 h1 h2;go_enter Tryz.func16,Tryz.ntmps16;go_wp2;go_ret;exact⟨by rw[HV.out];rfl,0,rfl⟩
theorem eSame_any (es fs:List Nd) (A1 A2:Option Addr) (l1 c1 l2 c2:Nat) (w:World) (h1:l1=es.length) (h2:l2=fs.length) (hm1:l1≤maxLen) (hm2:l2≤maxLen) (hr1:Rd w A1 (nds es)) (hr2:Rd w A2 (nds fs)):
  Calls Tryz.prog 15 #[.slice A1 l1 c1,.slice A2 l2 c2] w fun e w'=>e=.returned (.bool (decide (es=fs)))∧∃n,w'=w.drewN n:=by
 have HE:=Lib.hid (equalN_any es fs A1 A2 l1 c1 l2 c2 w h1 h2 hm1 hm2 hr1 hr2);generalize decide (es=fs)=d at*;clear h1 h2 hm1 hm2 hr1 hr2;go_enter Tryz.func15,Tryz.ntmps15;go_wp2_with fail;refine HE.out.mono ?_;rintro e w1 ⟨rfl,n,rfl⟩;go_wp2;go_ret;exact⟨rfl,n,rfl⟩
structure Es (w:World) (es:List Nd) (A:Option Addr) (n c:Nat):Prop where
 len:n=es.length
 cap:n≤c
 max:c≤maxLen
 rd:Rd w A (nds es)
theorem Es.below {w w':World} {es:List Nd} {A:Option Addr} {n c:Nat} (h:Es w es A n c) (hb:Below w.heap.size w w'):Es w' es A n c:=⟨h.len,h.cap,h.max,h.rd.below hb⟩
theorem Es.nil (w:World):Es w [] none 0 0:=⟨rfl,Nat.le_refl _,by unfold maxLen;omega,.inl rfl⟩
theorem info_node:(Tryz.prog.info? 33).map (fun i=>(i.zero,i.size,i.bytes))=some (some (.agg #[.int .i64 0,.bool false,.string ⟨#[]⟩,.string ⟨#[]⟩,.string ⟨#[]⟩]),5,64):=by kernel_rfl
theorem nds_one (es:List Nd):∀u∈nds es,u.oneCell'=true:=by
 intro u hu;obtain⟨n,_,h⟩:=List.mem_flatMap.1 hu;simp only[Nd.cells,List.mem_cons,List.not_mem_nil,or_false] at h;rcases h with rfl|rfl|rfl|rfl|rfl<;>rfl
theorem nds_append (a b:List Nd):nds (a++b)=nds a++nds b:=List.flatMap_append
def subL (e:List Nd) (name:ByteArray) (b:List Nd):List Nd:=e.flatMap fun n=>if n.op=6∧n.name=name then b else [n]
def substE (e:List Nd) (name:ByteArray) (b:List Nd):List Nd × Int:=
 if checkE e≠0 then ([],checkE e) else if checkE b≠0 then ([],checkE b) else if 60<(subL e name b).length then ([],2) else (subL e name b,0)
def RetEs (r:List Nd × Int) (w:World) (e:Ending) (w':World):Prop:=∃A n c,e=.returned (.tuple #[.slice A n c,.int .i64 r.2])∧Es w' r.1 A n c∧Below w.heap.size w w'
theorem RetEs.bad {r:List Nd × Int} {z:Int} {w w':World} (h:r=([],z)) (hb:Below w.heap.size w w'):RetEs r w (.returned (.tuple #[.slice none 0 0,.int .i64 z])) w':=
 ⟨none,0,0,by rw[h],by rw[h];exact Es.nil _,hb⟩
set_option maxRecDepth 100000 in
set_option maxHeartbeats 3200000 in
theorem gSubst_any (es bs:List Nd) (nm:ByteArray) (A1 A2:Option Addr) (l1 c1 l2 c2:Nat) (w:World) (h1:Es w es A1 l1 c1) (h2:Es w bs A2 l2 c2) (hf1:∀n∈es,Fine n) (hf2:∀n∈bs,Fine n):
  Calls Tryz.prog 28 #[.slice A1 l1 c1,.string nm,.slice A2 l2 c2] w (RetEs (substE es nm bs) w):=by
 have HV:Hid (substE es nm bs=if checkE es≠0 then ([],checkE es) else if checkE bs≠0 then ([],checkE bs) else if 60<(subL es nm bs).length then ([],2) else (subL es nm bs,0)):=rfl;have HC1:Hid (∀W,Below w.heap.size w W→Calls Tryz.prog 42 #[.slice A1 l1 c1] W fun e w'=>e=.returned (.int .i64 (checkE es))∧Below W.heap.size W w'):=fun W hb=>gCheck_any es A1 l1 c1 W h1.len h1.cap h1.max (h1.rd.below hb) hf1
 have HC2:Hid (∀W,Below w.heap.size w W→Calls Tryz.prog 42 #[.slice A2 l2 c2] W fun e w'=>e=.returned (.int .i64 (checkE bs))∧Below W.heap.size W w'):=fun W hb=>gCheck_any bs A2 l2 c2 W h2.len h2.cap h2.max (h2.rd.below hb) hf2
 have hk1:checkE es=0→l1≤60:=fun h=>by rw[h1.len];exact ((checkE_iff es).1 h).1
 have hk2:checkE bs=0→l2≤60:=fun h=>by rw[h2.len];exact ((checkE_iff bs).1 h).1
 have H1:=Lib.hid h1;have H2:=Lib.hid h2;generalize checkE es=z1 at*;generalize checkE bs=z2 at*;generalize substE es nm bs=r at*;clear h1 h2 hf1 hf2;by_cases hz1:z1=0
 ·subst hz1;have hk1:=hk1 rfl;by_cases hz2:z2=0
  ·subst hz2;have hk2:=hk2 rfl
   have HV2:Hid (r=if 60<(subL es nm bs).length then ([],2) else (subL es nm bs,0)):=by
    have:=HV.out;rwa[if_neg (by simp),if_neg (by simp)] at this
   clear HV;go_enter Tryz.func28,Tryz.ntmps28;go_wp2_with fail;refine (HC1.out _ (Below.refl _ _)).mono ?_;rintro e w1 ⟨rfl,hb1⟩;go_wp2_with fail;refine (HC2.out _ hb1).mono ?_;rintro e w2 ⟨rfl,hb2⟩;have hbw:=bstep hb1 hb2;clear hb1 hb2 HC1 HC2;go_wp2
   go_loopg [9,10] l1 (fun g ov iv wr=>∃(k:Nat) (os:List Nd),k+g=l1∧iv=.int .i64 k∧Hid (wr.ownsRow w.heap.size 33 5 ov os.length (nds os))∧Hid (os=subL (es.take k) nm bs)∧os.length≤60*k∧Below w.heap.size w wr)
   case atStart=>exact⟨0,[],by omega,rfl,World.ownsRow_nil _ _ _ _,rfl,by simp,hbw⟩
   case round=>
    obtain⟨k,os,hk,rfl,hown,hos,hol,hbr⟩:=hrel;clear hbw;by_cases hlt:k<l1
    ·have hke:k<es.length:=by rw[←H1.out.len];exact hlt
     obtain⟨b,off,hA,hb,hc0,hc1,hc2,hc3,hc4⟩:=(H1.out.rd.below hbr).nd hke;subst hA
     have HT:Hid (subL (es.take (k+1)) nm bs=os++(if es[k].op=6∧es[k].name=nm then bs else [es[k]])):=by
      show _=_;rw[List.take_succ_eq_append_getElem hke,hos.out];unfold subL;rw[List.flatMap_append,List.flatMap_singleton]
     generalize es[k]=n at*;obtain⟨op,⟨neg,num,den⟩,name⟩:=n;simp only at hc0 hc1 hc2 hc3 hc4 HT;have HBR:=Lib.hid hbr;obtain⟨q,hq⟩:∃q,(op==6)=q:=⟨_,rfl⟩
     obtain⟨p,hp⟩:∃p,(name.toList==nm.toList)=p:=⟨_,rfl⟩
     have hp':decide (name=nm)=p:=by rw[←hp,beq_toList]
     have hm:(op=6∧name=nm)↔(q=true∧p=true):=by
      rw[←hq,beq_iff_eq,←hp',decide_eq_true_eq]
     have HM:=Lib.hid hm;have hl2:=H2.out.len;have HL2:=Lib.hid hl2;clear hp' hm hl2 hos;cases q
     ·have HT2:Hid (subL (es.take (k+1)) nm bs=os++[(⟨op,⟨neg,num,den⟩,name⟩:Nd)]):=by
       show _=_;rw[HT.out,if_neg (fun h=>by have:=HM.out.1 h;exact absurd this.1 (by decide))]
      clear HT HM hp;go_wp2_with (at_builtin;go_must (refine wpList_push wr #[.int .i64 op,.bool neg,.string num,.string den,.string name] rfl _ _ 22 rfl w.heap.size 33 _ 5 64 1 Tryz.underlying22 info_node rfl (by decide) u9 os.length (nds os) rfl hown.out rfl rfl ?_ ?_ ?_ ?_ ?_))
      any_goals first|(unfold maxLen;omega)|omega
      ·exact⟨rfl,rfl,rfl,rfl,rfl⟩
      ·exact HBR.out.size
      intro v' w' hown' hb'
      have HOWN:Hid (w'.ownsRow w.heap.size 33 5 v' (os++[(⟨op,⟨neg,num,den⟩,name⟩:Nd)]).length (nds (os++[(⟨op,⟨neg,num,den⟩,name⟩:Nd)]))):=by
       rw[nds_append,List.length_append];exact hown'
      have HB:=Lib.hid (HBR.out.trans hb');clear hown' hb';go_wp2
      go_roundg (l1-(k+1))
      case measure=>omega
      case rel=>
       exact⟨k+1,os++[(⟨op,⟨neg,num,den⟩,name⟩:Nd)],by omega,by go_num,HOWN,Lib.hid HT2.out.symm,by simp;omega,HB.out⟩
     ·cases p
      ·have HT2:Hid (subL (es.take (k+1)) nm bs=os++[(⟨op,⟨neg,num,den⟩,name⟩:Nd)]):=by
        show _=_;rw[HT.out,if_neg (fun h=>by have:=HM.out.1 h;exact absurd this.2 (by decide))]
       clear HT HM;go_wp2_with (at_builtin;go_must (refine wpList_push wr #[.int .i64 op,.bool neg,.string num,.string den,.string name] rfl _ _ 22 rfl w.heap.size 33 _ 5 64 1 Tryz.underlying22 info_node rfl (by decide) u9 os.length (nds os) rfl hown.out rfl rfl ?_ ?_ ?_ ?_ ?_))
       any_goals first|(unfold maxLen;omega)|omega
       ·exact⟨rfl,rfl,rfl,rfl,rfl⟩
       ·exact HBR.out.size
       intro v' w' hown' hb'
       have HOWN:Hid (w'.ownsRow w.heap.size 33 5 v' (os++[(⟨op,⟨neg,num,den⟩,name⟩:Nd)]).length (nds (os++[(⟨op,⟨neg,num,den⟩,name⟩:Nd)]))):=by
        rw[nds_append,List.length_append];exact hown'
       have HB:=Lib.hid (HBR.out.trans hb');clear hown' hb';go_wp2
       go_roundg (l1-(k+1))
       case measure=>omega
       case rel=>
        exact⟨k+1,os++[(⟨op,⟨neg,num,den⟩,name⟩:Nd)],by omega,by go_num,HOWN,Lib.hid HT2.out.symm,by simp;omega,HB.out⟩
      ·have HT2:Hid (subL (es.take (k+1)) nm bs=os++bs):=by
        show _=_;rw[HT.out,if_pos (HM.out.2 ⟨rfl,rfl⟩)]
       clear HT HM;go_wp2_with (at_builtin;go_must (refine wpList_append_rd wr rfl _ _ 22 rfl w.heap.size 33 _ 5 64 Tryz.underlying22 info_node rfl (by decide) u9 os.length (nds os) rfl hown.out A2 l2 c2 (nds bs) rfl (H2.out.rd.below HBR.out) (by rw[nds_length,HL2.out]) (nds_one _) ?_ ?_ ?_ ?_))
       any_goals first|(unfold maxLen;omega)|omega
       ·exact HBR.out.size
       intro v' w' hown' hb'
       have HOWN:Hid (w'.ownsRow w.heap.size 33 5 v' (os++bs).length (nds (os++bs))):=by
        rw[nds_append,List.length_append,←HL2.out];exact hown'
       have HB:=Lib.hid (HBR.out.trans hb');clear hown' hb';go_wp2
       go_roundg (l1-(k+1))
       case measure=>omega
       case rel=>
        exact⟨k+1,os++bs,by omega,by go_num,HOWN,Lib.hid HT2.out.symm,by rw[List.length_append,←HL2.out];omega,HB.out⟩
    ·have hkl:k=l1:=by omega
     have hT:Hid (os=subL es nm bs):=by
      show _=_;rw[hos.out,hkl,H1.out.len,List.take_length]
     clear hos;obtain⟨A,cp,rfl,g1,g2,g3,g4⟩:=own_rd hown.out;have HBR:=Lib.hid hbr;have G3:=Lib.hid g3;clear hbr g3 g4 hown;by_cases h60:60<os.length
     ·have h60':(60:Int)<os.length:=by omega
      go_wp2;go_ret2;refine RetEs.bad ?_ HBR.out;rw[HV2.out,←hT.out,if_pos h60]
     ·have h60':¬(60:Int)<os.length:=by omega
      go_wp2;go_ret2;have e:r=(os,0):=by rw[HV2.out,←hT.out,if_neg h60]
      exact⟨A,os.length,cp,by rw[e];rfl,by rw[e];exact⟨rfl,g1,g2,G3.out⟩,HBR.out⟩
  ·have e2:(z2 !=0)=true:=by simp[hz2]
   have HV2:Hid (r=([],z2)):=by
    have:=HV.out;rwa[if_neg (by simp),if_pos hz2] at this
   clear HV;go_enter Tryz.func28,Tryz.ntmps28;go_wp2_with fail;refine (HC1.out _ (Below.refl _ _)).mono ?_;rintro e w1 ⟨rfl,hb1⟩;go_wp2_with fail;refine (HC2.out _ hb1).mono ?_;rintro e w2 ⟨rfl,hb2⟩;go_wp2;go_ret2;exact RetEs.bad HV2.out (bstep hb1 hb2)
 ·have e1:(z1 !=0)=true:=by simp[hz1]
  have HV2:Hid (r=([],z1)):=by
   have:=HV.out;rwa[if_pos hz1] at this
  clear HV;go_enter Tryz.func28,Tryz.ntmps28;go_wp2_with fail;refine (HC1.out _ (Below.refl _ _)).mono ?_;rintro e w1 ⟨rfl,hb1⟩;go_wp2;go_ret2;exact RetEs.bad HV2.out hb1
set_option maxRecDepth 100000 in
set_option maxHeartbeats 3200000 in
theorem eSubst_any (es bs:List Nd) (nm:ByteArray) (A1 A2:Option Addr) (l1 c1 l2 c2:Nat) (w:World) (hL:LaidE w) (h1:Es w es A1 l1 c1) (h2:Es w bs A2 l2 c2) (hf1:∀n∈es,Fine n) (hf2:∀n∈bs,Fine n):
  Calls Tryz.prog 27 #[.slice A1 l1 c1,.string nm,.slice A2 l2 c2] w (RetEs (substE es nm bs) w):=by
 have HV:Hid (substE es nm bs=if checkE es≠0 then ([],checkE es) else if checkE bs≠0 then ([],checkE bs) else if 60<(subL es nm bs).length then ([],2) else (subL es nm bs,0)):=rfl;have HC1:Hid (∀W,Below w.heap.size w W→Calls Tryz.prog 18 #[.slice A1 l1 c1] W fun e w'=>e=.returned (.int .i64 (checkE es))∧Below W.heap.size W w'):=fun W hb=>check_any es A1 l1 c1 W (hL.below hb) h1.len h1.cap h1.max (h1.rd.below hb) hf1
 have HC2:Hid (∀W,Below w.heap.size w W→Calls Tryz.prog 18 #[.slice A2 l2 c2] W fun e w'=>e=.returned (.int .i64 (checkE bs))∧Below W.heap.size W w'):=fun W hb=>check_any bs A2 l2 c2 W (hL.below hb) h2.len h2.cap h2.max (h2.rd.below hb) hf2
 have hk1:checkE es=0→l1≤60:=fun h=>by rw[h1.len];exact ((checkE_iff es).1 h).1
 have hk2:checkE bs=0→l2≤60:=fun h=>by rw[h2.len];exact ((checkE_iff bs).1 h).1
 have H1:=Lib.hid h1;have H2:=Lib.hid h2;generalize checkE es=z1 at*;generalize checkE bs=z2 at*;generalize substE es nm bs=r at*;clear h1 h2 hf1 hf2 hL;obtain⟨W,hW⟩:∃W,W=w.alloc (.cells #[.slice A1 l1 c1,.slice A2 l2 c2] 22):=⟨_,rfl⟩
 have hba:Below w.heap.size w W:=by rw[hW];exact (Below.refl _ _).alloc (Nat.le_refl _) _
 have hblk:Blk W w.heap.size 22 [.slice A1 l1 c1,.slice A2 l2 c2]:=by rw[hW];exact Blk.new w _ _
 obtain⟨B,hB⟩:∃B,B=w.heap.size:=⟨_,rfl⟩
 have HB0:=Lib.hid hB;rw[←hB] at hblk;have hlt:=hblk.lt;go_enter Tryz.func27,Tryz.ntmps27;go_wp2_with fail;simp only[←hW,←hB]
 clear hW hB
 go_loopg [18] 2 (fun g iv wr=>∃j:Nat,j+g=2∧iv=.int .i64 j∧Hid (0<j→z1=0)∧Hid (1<j→z2=0)∧Below w.heap.size w wr∧Below W.heap.size W wr)
 case atStart=>exact⟨0,rfl,rfl,fun h=>absurd h (by omega),fun h=>absurd h (by omega),hba,Below.refl _ _⟩
 case round=>
  obtain⟨j,hj,rfl,hj1,hj2,hbr,hbW⟩:=hrel;clear hba;have hk0:=hblk.below hbW hlt;have hcc:=hk0.cells;have hjj:j=0∨j=1∨j=2:=by omega
  rcases hjj with rfl|rfl|rfl
  ·obtain rfl:gk=2:=by omega
   by_cases hz1:z1=0
   ·subst hz1;go_wp2_with fail;refine (HC1.out _ hbr).mono ?_;rintro e w1 ⟨rfl,hb1⟩;go_wp2
    go_roundg 1
    case measure=>omega
    case rel=>exact⟨1,by simp,by simp,fun _=>by trivial,fun h=>absurd h (by omega),bstep hbr hb1,bstep hbW hb1⟩
   ·have e1:(z1 !=0)=true:=by simp[hz1]
    have HV2:Hid (r=([],z1)):=by
     have:=HV.out;rwa[if_pos hz1] at this
    go_wp2_with fail;refine (HC1.out _ hbr).mono ?_;rintro e w1 ⟨rfl,hb1⟩;go_wp2;go_ret2;exact RetEs.bad HV2.out (bstep hbr hb1)
  ·obtain rfl:gk=1:=by omega
   have hz1:z1=0:=hj1.out (by omega);by_cases hz2:z2=0
   ·subst hz2;go_wp2_with fail;refine (HC2.out _ hbr).mono ?_;rintro e w1 ⟨rfl,hb1⟩;go_wp2
    go_roundg 0
    case measure=>omega
    case rel=>exact⟨2,by simp,by simp,fun _=>hz1,fun _=>by trivial,bstep hbr hb1,bstep hbW hb1⟩
   ·have e2:(z2 !=0)=true:=by simp[hz2]
    have HV2:Hid (r=([],z2)):=by
     have:=HV.out;rwa[if_neg (by simp[hz1]),if_pos hz2] at this
    clear hz1;go_wp2_with fail;refine (HC2.out _ hbr).mono ?_;rintro e w1 ⟨rfl,hb1⟩;go_wp2;go_ret2;exact RetEs.bad HV2.out (bstep hbr hb1)
  ·obtain rfl:gk=0:=by omega
   obtain rfl:z1=0:=hj1.out (by omega);obtain rfl:z2=0:=hj2.out (by omega);have hk1:=hk1 rfl;have hk2:=hk2 rfl;have hbw:=hbr
   have HV2:Hid (r=if 60<(subL es nm bs).length then ([],2) else (subL es nm bs,0)):=by
    have:=HV.out;rwa[if_neg (by simp),if_neg (by simp)] at this
   clear HV HC1 HC2 hbW hk0 hcc hblk hlt hj1 hj2 hbr;go_wp2_with fail
   go_loopg [11,30] l1 (fun g ov iv wr=>∃(k:Nat) (os:List Nd),k+g=l1∧iv=.int .i64 k∧Hid (wr.ownsRow w.heap.size 33 5 ov os.length (nds os))∧Hid (os=subL (es.take k) nm bs)∧os.length≤60*k∧Below w.heap.size w wr)
   case atStart=>exact⟨0,[],by omega,rfl,World.ownsRow_nil _ _ _ _,rfl,by simp,hbw⟩
   case round=>
    obtain⟨k,os,hk,rfl,hown,hos,hol,hbr⟩:=hrel;clear hbw;by_cases hlt:k<l1
    ·have hke:k<es.length:=by rw[←H1.out.len];exact hlt
     obtain⟨b,off,hA,hb,hc0,hc1,hc2,hc3,hc4⟩:=(H1.out.rd.below hbr).nd hke;subst hA
     have HT:Hid (subL (es.take (k+1)) nm bs=os++(if es[k].op=6∧es[k].name=nm then bs else [es[k]])):=by
      show _=_;rw[List.take_succ_eq_append_getElem hke,hos.out];unfold subL;rw[List.flatMap_append,List.flatMap_singleton]
     generalize es[k]=n at*;obtain⟨op,⟨neg,num,den⟩,name⟩:=n;simp only at hc0 hc1 hc2 hc3 hc4 HT;have HBA:Hid (Below w.heap.size w (wr.alloc (.cells #[.int .i64 op,.bool neg,.string num,.string den,.string name] 33))):=hbr.alloc hbr.size _;have HOA:=Lib.hid (hown.out.alloc (.cells #[.int .i64 op,.bool neg,.string num,.string den,.string name] 33));obtain⟨q,hq⟩:∃q,(op==6)=q:=⟨_,rfl⟩
     obtain⟨p,hp⟩:∃p,(name.toList==nm.toList)=p:=⟨_,rfl⟩
     have hp':decide (name=nm)=p:=by rw[←hp,beq_toList]
     have hm:(op=6∧name=nm)↔(q=true∧p=true):=by
      rw[←hq,beq_iff_eq,←hp',decide_eq_true_eq]
     have HM:=Lib.hid hm;have hl2:=H2.out.len;have HL2:=Lib.hid hl2;clear hp' hm hl2 hos;cases q
     ·have HT2:Hid (subL (es.take (k+1)) nm bs=os++[(⟨op,⟨neg,num,den⟩,name⟩:Nd)]):=by
       show _=_;rw[HT.out,if_neg (fun h=>by have:=HM.out.1 h;exact absurd this.1 (by decide))]
      clear HT HM hp;go_wp2_with (at_builtin;go_must (refine wpList_push (wr.alloc (.cells #[.int .i64 op,.bool neg,.string num,.string den,.string name] 33)) #[.int .i64 op,.bool neg,.string num,.string den,.string name] rfl _ _ 22 rfl w.heap.size 33 _ 5 64 1 Tryz.underlying22 info_node rfl (by decide) u11 os.length (nds os) rfl HOA.out (by rw[World.size_alloc];rfl) rfl ?_ ?_ ?_ ?_ ?_))
      any_goals first|(unfold maxLen;omega)|omega
      ·exact⟨rfl,rfl,rfl,rfl,rfl⟩
      ·exact HBA.out.size
      intro v' w' hown' hb'
      have HOWN:Hid (w'.ownsRow w.heap.size 33 5 v' (os++[(⟨op,⟨neg,num,den⟩,name⟩:Nd)]).length (nds (os++[(⟨op,⟨neg,num,den⟩,name⟩:Nd)]))):=by
       rw[nds_append,List.length_append];exact hown'
      have HB:=Lib.hid (HBA.out.trans hb');clear hown' hb';go_wp2
      go_roundg (l1-(k+1))
      case measure=>omega
      case rel=>
       exact⟨k+1,os++[(⟨op,⟨neg,num,den⟩,name⟩:Nd)],by omega,by go_num,HOWN,Lib.hid HT2.out.symm,by simp;omega,HB.out⟩
     ·cases p
      ·have HT2:Hid (subL (es.take (k+1)) nm bs=os++[(⟨op,⟨neg,num,den⟩,name⟩:Nd)]):=by
        show _=_;rw[HT.out,if_neg (fun h=>by have:=HM.out.1 h;exact absurd this.2 (by decide))]
       clear HT HM;go_wp2_with (at_builtin;go_must (refine wpList_push (wr.alloc (.cells #[.int .i64 op,.bool neg,.string num,.string den,.string name] 33)) #[.int .i64 op,.bool neg,.string num,.string den,.string name] rfl _ _ 22 rfl w.heap.size 33 _ 5 64 1 Tryz.underlying22 info_node rfl (by decide) u11 os.length (nds os) rfl HOA.out (by rw[World.size_alloc];rfl) rfl ?_ ?_ ?_ ?_ ?_))
       any_goals first|(unfold maxLen;omega)|omega
       ·exact⟨rfl,rfl,rfl,rfl,rfl⟩
       ·exact HBA.out.size
       intro v' w' hown' hb'
       have HOWN:Hid (w'.ownsRow w.heap.size 33 5 v' (os++[(⟨op,⟨neg,num,den⟩,name⟩:Nd)]).length (nds (os++[(⟨op,⟨neg,num,den⟩,name⟩:Nd)]))):=by
        rw[nds_append,List.length_append];exact hown'
       have HB:=Lib.hid (HBA.out.trans hb');clear hown' hb';go_wp2
       go_roundg (l1-(k+1))
       case measure=>omega
       case rel=>
        exact⟨k+1,os++[(⟨op,⟨neg,num,den⟩,name⟩:Nd)],by omega,by go_num,HOWN,Lib.hid HT2.out.symm,by simp;omega,HB.out⟩
      ·have HT2:Hid (subL (es.take (k+1)) nm bs=os++bs):=by
        show _=_;rw[HT.out,if_pos (HM.out.2 ⟨rfl,rfl⟩)]
       clear HT HM;go_wp2_with (at_builtin;go_must (refine wpList_append_rd (wr.alloc (.cells #[.int .i64 op,.bool neg,.string num,.string den,.string name] 33)) rfl _ _ 22 rfl w.heap.size 33 _ 5 64 Tryz.underlying22 info_node rfl (by decide) u11 os.length (nds os) rfl HOA.out A2 l2 c2 (nds bs) rfl (H2.out.rd.below HBA.out) (by rw[nds_length,HL2.out]) (nds_one _) ?_ ?_ ?_ ?_))
       any_goals first|(unfold maxLen;omega)|omega
       ·exact HBA.out.size
       intro v' w' hown' hb'
       have HOWN:Hid (w'.ownsRow w.heap.size 33 5 v' (os++bs).length (nds (os++bs))):=by
        rw[nds_append,List.length_append,←HL2.out];exact hown'
       have HB:=Lib.hid (HBA.out.trans hb');clear hown' hb';go_wp2
       go_roundg (l1-(k+1))
       case measure=>omega
       case rel=>
        exact⟨k+1,os++bs,by omega,by go_num,HOWN,Lib.hid HT2.out.symm,by rw[List.length_append,←HL2.out];omega,HB.out⟩
    ·have hkl:k=l1:=by omega
     have hT:Hid (os=subL es nm bs):=by
      show _=_;rw[hos.out,hkl,H1.out.len,List.take_length]
     clear hos;obtain⟨A,cp,rfl,g1,g2,g3,g4⟩:=own_rd hown.out;have HBR:=Lib.hid hbr;have G3:=Lib.hid g3;clear hbr g3 g4 hown;by_cases h60:60<os.length
     ·have h60':(60:Int)<os.length:=by omega
      go_wp2;go_ret2;refine RetEs.bad ?_ HBR.out;rw[HV2.out,←hT.out,if_pos h60]
     ·have h60':¬(60:Int)<os.length:=by omega
      go_wp2;go_ret2;have e:r=(os,0):=by rw[HV2.out,←hT.out,if_neg h60]
      exact⟨A,os.length,cp,by rw[e];rfl,by rw[e];exact⟨rfl,g1,g2,G3.out⟩,HBR.out⟩
end Go.Proofs.YtbicehdehiakgaaGreatDoor
