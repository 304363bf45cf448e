/- A part of the proof: E3 G1 G2 G3 G4. -/
import Derived.Test.YtimokmplkpbmdaaGreatDoorB18
import Derived.Test.YtimokmplkpbmdaaGreatDoorL01
set_option linter.all false
set_option maxRecDepth 100000
set_option maxHeartbeats 0
namespace Go.Proofs.YtimokmplkpbmdaaGreatDoor
open Go.RowKit
theorem equalIn_nd (d:Nat) (a b:Nd) (w:World):(Op.equalIn (d+3) 49 a.v b.v).run Tryz.prog w=.ok (decide (a=b)) w:=by
 have u1:=Tryz.underlying4;have u2:=Tryz.underlying41;have u3:=Tryz.underlying3;have u4:=Tryz.underlying9;have hS:Tryz.prog.underlying 49=some (.struct (Tryz.prog.fieldsOf 49)):=by kernel_rfl
 have hp:Tryz.prog.stoodInHeld 49=false:=by kernel_rfl
 have hR:=fun (n1 n2:Bool) (u1 u2 d1 d2:ByteArray) (w:World)=>equalIn_ra d ⟨n1,u1,d1⟩ ⟨n2,u2,d2⟩ w
 simp only[Ra.v] at hR;simp only[Nd.v]
 rw[run_equalIn_agg w (d+2) 49 _ _ hS hp];simp only[Program.fieldsOf,Tryz.underlying49]
 go_simp;by_cases h:a=b
 ·subst h;simp
 ·rw[decide_eq_false h];split
  ·next h1=>
   split
   ·rfl
   ·next h2=>
    split
    ·next h3=>
     exfalso;apply h;obtain⟨o,⟨n,u,e⟩,nm⟩:=a;obtain⟨o',⟨n',u',e'⟩,nm'⟩:=b;simp only at h1 h2 h3
     have h4:n=n'/\u=u'/\e=e':=by
      refine Classical.byContradiction fun hc=>h2 fun g1 g2 g3=>hc ⟨g1,g2,g3⟩
     rw[h1,h4.1,h4.2.1,h4.2.2,toList_inj h3]
    ·rfl
  ·rfl
theorem eql_nd (a b:Nd) (w:World):(binOp .eql 49 a.v b.v).run Tryz.prog w=.ok (.bool (decide (a=b))) w:=by
 have h:=equalIn_nd 9997 a b w;simp only[Nd.v] at h⊢;rw[run_eql_struct,show (10000:Nat)=9997+3 from rfl,h];rfl
theorem gArity_any (n:Int) (w:World):Calls Tryz.prog 62 #[.int .i64 n] w fun e w'=>e=.returned (.int .i64 ((shp n).ops:Int))/\w=w':=by
 have HV:=zH (shp_ops n);by_cases h1:n=15
 ·subst h1;go_enter Tryz.func62,Tryz.ntmps62;go_wp2;go_ret;exact⟨by rw[HV.out];rfl,rfl⟩
 ·have e1:(n==15)=false:=by rw[beq_eq_false_iff_ne];exact h1
  have hc:(n<9)∨(9<=n/\n<=14)∨(9<=n/\14<n/\16<=n/\n<=19)∨(9<=n/\14<n/\16<=n/\19<n/\20<=n/\n<=24)∨(9<=n/\14<n/\16<=n/\19<n/\20<=n/\24<n):=by omega
  rcases hc with h|⟨h,h2⟩|⟨h,h2,h3,h4⟩|⟨h,h2,h3,h4,h5,h6⟩|⟨h,h2,h3,h4,h5,h6⟩
  case' inl=>
   have g1:n<16:=by omega
   have g2:n<20:=by omega
   have HW:Hid (((shp n).ops:Int)=0):=by show _=_;rw[HV.out,if_neg h1,if_neg (by omega),if_neg (by omega)]
  case' inr.inl=>have HW:Hid (((shp n).ops:Int)=2):=by show _=_;rw[HV.out,if_neg h1,if_pos (by omega)]
  case' inr.inr.inl=>have HW:Hid (((shp n).ops:Int)=2):=by show _=_;rw[HV.out,if_neg h1,if_pos (by omega)]
  case' inr.inr.inr.inl=>have HW:Hid (((shp n).ops:Int)=1):=by show _=_;rw[HV.out,if_neg h1,if_neg (by omega),if_pos (by omega)]
  case' inr.inr.inr.inr=>have HW:Hid (((shp n).ops:Int)=0):=by show _=_;rw[HV.out,if_neg h1,if_neg (by omega),if_neg (by omega)]
  all_goals
   clear h1 HV;go_enter Tryz.func62,Tryz.ntmps62;go_wp2;go_ret;exact⟨by rw[HW.out];rfl,rfl⟩
theorem gNamed_any (n:Int) (w:World):Calls Tryz.prog 24 #[.int .i64 n] w fun e w'=>e=.returned (.bool (shp n).nam)/\w=w':=by
 have HV:=zH (shp_nam n);have hc:(5<=n/\n<=8)∨(n<5)∨(5<=n/\8<n):=by omega
 rcases hc with⟨h,h2⟩|h|⟨h,h2⟩
 case' inl=>have HW:Hid ((shp n).nam=true):=by show _=_;rw[HV.out];exact decide_eq_true (by omega)
 case' inr.inl=>
  have e1:(n==24)=false:=by rw[beq_eq_false_iff_ne];omega
  have HW:Hid ((shp n).nam=false):=by show _=_;rw[HV.out];exact decide_eq_false (by omega)
 case' inr.inr=>
  have e2:decide (n<=8)=false:=decide_eq_false (by omega)
  have HW:Hid ((shp n).nam=(n==24)):=by
   show _=_;rw[HV.out];by_cases h24:n=24
   ·subst h24;rfl
   ·rw[decide_eq_false (by omega)];simp[h24]
 all_goals
  clear HV;go_enter Tryz.func24,Tryz.ntmps24;go_wp2;go_ret;exact⟨by rw[HW.out];rfl,rfl⟩
theorem gStepped_any (n:Int) (w:World):Calls Tryz.prog 108 #[.int .i64 n] w fun e w'=>e=.returned (.bool (shp n).stp)/\w=w':=by
 have HV:=zH (shp_stp n);have hc:(21<=n/\n<=23)∨(n<21)∨(21<=n/\23<n):=by omega
 rcases hc with⟨h,h2⟩|h|⟨h,h2⟩
 case' inl=>have HW:Hid ((shp n).stp=true):=by show _=_;rw[HV.out];exact decide_eq_true (by omega)
 case' inr.inl=>have HW:Hid ((shp n).stp=false):=by show _=_;rw[HV.out];exact decide_eq_false (by omega)
 case' inr.inr=>
  have e2:decide (n<=23)=false:=decide_eq_false (by omega);have HW:Hid ((shp n).stp=false):=by show _=_;rw[HV.out];exact decide_eq_false (by omega)
 all_goals
  clear HV;go_enter Tryz.func108,Tryz.ntmps108;go_wp2;go_ret;exact⟨by rw[HW.out];rfl,rfl⟩
theorem gLiteral_any (n:Int) (w:World):Calls Tryz.prog 106 #[.int .i64 n] w fun e w'=>e=.returned (.bool (shp n).lit)/\w=w':=by
 have HV:=zH (shp_lit n);have hc:(1<=n/\n<=4)∨(n<1)∨(1<=n/\4<n):=by omega
 rcases hc with⟨h,h2⟩|h|⟨h,h2⟩
 case' inl=>have HW:Hid ((shp n).lit=true):=by show _=_;rw[HV.out];exact decide_eq_true (by omega)
 case' inr.inl=>have HW:Hid ((shp n).lit=false):=by show _=_;rw[HV.out];exact decide_eq_false (by omega)
 case' inr.inr=>
  have e2:decide (n<=4)=false:=decide_eq_false (by omega);have HW:Hid ((shp n).lit=false):=by show _=_;rw[HV.out];exact decide_eq_false (by omega)
 all_goals
  clear HV;go_enter Tryz.func106,Tryz.ntmps106;go_wp2;go_ret;exact⟨by rw[HW.out];rfl,rfl⟩
theorem gName_any (s:ByteArray) (w:World):
  Calls Tryz.prog 61 #[.string s] w fun e w'=>e=.returned (.bool (nameB s.data.toList))/\w=w':=by
 have HN:Hid (nameB s.data.toList=((match s.data.toList with|[]=>false|c::_=>letterC c)&&decide (s.data.toList.length<=20)&&s.data.toList.all nameC)):=rfl;rcases Nat.eq_zero_or_pos s.size with h0|h0
 ·have hs:s=⟨#[]⟩:=by
   obtain⟨⟨l⟩⟩:=s;have h:l.length=0:=h0;rw[List.eq_nil_of_length_eq_zero h]
  subst hs;clear h0;go_enter Tryz.func61,Tryz.ntmps61;go_wp2;go_ret;exact⟨rfl,rfl⟩
 ·have hlen:s.data.toList.length=s.size:=by simp
  have h0':((s.size:Int)<1)=False:=by rw[eq_iff_iff,iff_false];omega
  have hh:∃t,s.data.toList=s[0]::t:=by
   obtain⟨⟨l⟩⟩:=s;cases l with
   |nil=>exact absurd h0 (by show ¬0<0;omega)
   |cons c l=>exact⟨l,rfl⟩
  obtain⟨t,ht⟩:=hh;rw[hlen] at HN;by_cases h1:s.size<=20
  ·have h1':decide (20<(s.size:Int))=false:=by rw[decide_eq_false_iff_not];omega
   have hc:(letterC s[0]=true/\97<=(s[0].toNat:Int)/\(s[0].toNat:Int)<=122)∨(letterC s[0]=false/\(s[0].toNat:Int)<97)∨(letterC s[0]=false/\97<=(s[0].toNat:Int)/\122<(s[0].toNat:Int)):=by
    unfold letterC;by_cases a:97<=s[0].toNat
    ·by_cases b:s[0].toNat<=122
     ·exact .inl ⟨by simp[a,b],by omega,by omega⟩
     ·exact .inr (.inr ⟨by simp[b],by omega,by omega⟩)
    ·exact .inr (.inl ⟨by simp[a],by omega⟩)
   rcases hc with⟨hc,ha,hb⟩|⟨hc,ha⟩|⟨hc,ha,hb⟩
   ·have HR:Hid (nameB s.data.toList=s.data.toList.all nameC):=by
     show _=_;rw[HN.out,ht];simp only[hc,Bool.true_and,decide_eq_true h1]
    clear HN ht hc;go_enter Tryz.func61,Tryz.ntmps61;go_wp2
    go_loopg [3] s.size (fun g iv wr=>∃k:Nat,k+g=s.size/\iv=.int .i64 k/\Hid (nameB s.data.toList=(s.data.toList.drop k).all nameC)/\w=wr)
    case atStart=>exact⟨0,by omega,rfl,by show _=_;rw[HR.out];rfl,rfl⟩
    case round=>
     obtain⟨k,hk,rfl,hR,rfl⟩:=hrel;clear ha hb;by_cases hlt:k<s.size
     ·have hd:Hid (s.data.toList.drop k=s[k]::s.data.toList.drop (k+1)):=by
       show _=_;rw[List.drop_eq_getElem_cons (by rw[hlen];exact hlt)];rfl
      have hR2:Hid (nameB s.data.toList=(nameC s[k]&&(s.data.toList.drop (k+1)).all nameC)):=by
       show _=_;rw[hR.out,hd.out,List.all_cons]
      clear hd hR;by_cases hn:nameC s[k]=true
      ·have hR3:Hid (nameB s.data.toList=(s.data.toList.drop (k+1)).all nameC):=by show _=_;rw[hR2.out,hn,Bool.true_and]
       have hc3:(97<=(s[k].toNat:Int)/\(s[k].toNat:Int)<=122)∨((s[k].toNat:Int)<97/\48<=(s[k].toNat:Int)/\(s[k].toNat:Int)<=57)∨((s[k].toNat:Int)<97/\48<=(s[k].toNat:Int)/\57<(s[k].toNat:Int)/\(((s[k].toNat:Nat):Int) !=95)=false):=by
        simp only[nameC,letterC,digitC,Bool.or_eq_true,Bool.and_eq_true,decide_eq_true_eq] at hn;rcases hn with (h|h)|h
        ·exact .inl (by omega)
        ·exact .inr (.inl (by omega))
        ·exact .inr (.inr ⟨by omega,by omega,by omega,by rw[h];rfl⟩)
       clear hR2 hn;rcases hc3 with⟨g1,g2⟩|⟨g1,g2,g3⟩|⟨g1,g2,g3,g4⟩
       all_goals
        go_wp2
        go_roundg (s.size-(k+1))
        case measure=>omega
        case rel=>exact⟨k+1,by omega,by go_num,hR3,rfl⟩
      ·have hn':nameC s[k]=false:=by simpa using hn
       have hR3:Hid (nameB s.data.toList=false):=by show _=_;rw[hR2.out,hn',Bool.false_and]
       have hc3:((s[k].toNat:Int)<97/\(s[k].toNat:Int)<48/\(((s[k].toNat:Nat):Int) !=95)=true)∨((s[k].toNat:Int)<97/\48<=(s[k].toNat:Int)/\57<(s[k].toNat:Int)/\(((s[k].toNat:Nat):Int) !=95)=true)∨(97<=(s[k].toNat:Int)/\122<(s[k].toNat:Int)/\48<=(s[k].toNat:Int)/\57<(s[k].toNat:Int)/\(((s[k].toNat:Nat):Int) !=95)=true):=by
        simp only[nameC,letterC,digitC,Bool.or_eq_true,Bool.and_eq_true,decide_eq_true_eq] at hn;simp only[bne_iff_ne,ne_eq]
        omega
       clear hR2 hn hn';rcases hc3 with⟨g1,g2,g3⟩|⟨g1,g2,g3,g4⟩|⟨g1,g2,g3,g4,g5⟩
       all_goals
        go_wp2;go_ret;exact⟨by rw[hR3.out];rfl,rfl⟩
     ·have hg0:gk=0:=by omega
      have hR3:Hid (nameB s.data.toList=true):=by show _=_;rw[hR.out,List.drop_eq_nil_of_le (by omega)];rfl
      clear hR;go_wp2;go_ret;exact⟨by rw[hR3.out];rfl,rfl⟩
   all_goals
    have HR:Hid (nameB s.data.toList=false):=by
     show _=_;rw[HN.out,ht];simp[hc]
    clear HN hlen ht hc;go_enter Tryz.func61,Tryz.ntmps61;go_wp2;go_ret;exact⟨by rw[HR.out];rfl,rfl⟩
  ·have HR:Hid (nameB s.data.toList=false):=by
    show _=_;rw[HN.out];simp[h1]
   have h1':decide (20<(s.size:Int))=true:=by rw[decide_eq_true_eq];omega
   clear HN hlen ht;go_enter Tryz.func61,Tryz.ntmps61;go_wp2;go_ret;exact⟨by rw[HR.out];rfl,rfl⟩
theorem gNumbered_any (n:Nd) (w:World) (hf:Fine n):Calls Tryz.prog 60 #[n.v] w fun e w'=>e=.returned (.bool (numOk n))/\Below w.heap.size w w':=by
 obtain⟨hn,hd⟩:=hf;have HU:Hid (numOk n=if n.op=4 then decide (n.num=ofI 0)||decide (n.num=ofI 1) else if (shp n.op).lit then fitsR n.num else if (shp n.op).stp then fitsR n.num&&decide (0<signR n.num) else decide (n.num=zR)):=rfl;have HF:=zH (fun W=>sFits_any n.num W (by omega) (by omega));have HS:=zH (fun W=>sSign_any n.num W (by omega) (by omega));have HQ0:=fun W=>eql_ra n.num (ofI 0) W
 have HQ1:=fun W=>eql_ra n.num (ofI 1) W
 have HQZ:=fun W=>eql_ra n.num zR W
 have HL:=zH (fun W=>gLiteral_any n.op W);have HT:=zH (fun W=>gStepped_any n.op W);generalize fitsR n.num=ft at*;generalize signR n.num=sg at*;generalize decide (n.num=ofI 0)=d0 at*;generalize decide (n.num=ofI 1)=d1 at*;generalize decide (n.num=zR)=dz at*;generalize (shp n.op).lit=li at*;generalize (shp n.op).stp=st at*;generalize numOk n=r at*;clear hn hd;obtain⟨op,⟨neg,num,den⟩,nm⟩:=n;unfold Ra.v at HF HS HQ0 HQ1 HQZ;unfold Nd.v;simp only at HU HF HS HQ0 HQ1 HQZ HL HT⊢;obtain⟨W,hW⟩:=zE (w.alloc (.cells #[.int .i64 op,.bool neg,.string num,.string den,.string nm] 49));have hba:Below w.heap.size w W:=by rw[hW];exact zB _ _
 have hk0:Blk W w.heap.size 49 [.int .i64 op,.bool neg,.string num,.string den,.string nm]:=by rw[hW];exact Blk.new w _ _
 have hsz:W.heap.size=w.heap.size+1:=by rw[hW];exact Array.size_push _
 obtain⟨B,hB⟩:=zE w.heap.size;have HB:=zH hB;rw[<-hB] at hba hsz hk0;have hc:=hk0.cells;by_cases h4:op=4
 ·have h4':(op==4)=true:=by rw[h4];rfl
  have HW:Hid (r=(d0||d1)):=by show _=_;rw[HU.out,if_pos h4]
  clear h4 HU HF HS HQZ HL HT;cases d0
  ·cases d1
   all_goals
    go_enter Tryz.func60,Tryz.ntmps60;go_wp2_with fail;simp only[<-hW,<-hB]
    clear hW hB
    have HK:Hid (∀w' w1:World,((∀i,w'.cell? ⟨B,i,none⟩=([.int .i64 op,.bool neg,.string num,.string den,.string nm]:List Value)[i]?)/\B<w'.heap.size/\Below B w w')->Below w'.heap.size w' w1->
      ((∀i,w1.cell? ⟨B,i,none⟩=([.int .i64 op,.bool neg,.string num,.string den,.string nm]:List Value)[i]?)/\B<w1.heap.size/\Below B w w1)):=by
     rintro w' w1 ⟨h0,h2,h3⟩ hb1;exact⟨fun i=>(hb1.cell h2).trans (h0 i),Nat.lt_of_lt_of_le h2 hb1.size,h3.trans (hb1.mono (Nat.le_of_lt h2))⟩
    have HS:Hid ((∀i,W.drew.cell? ⟨B,i,none⟩=([.int .i64 op,.bool neg,.string num,.string den,.string nm]:List Value)[i]?)/\B<W.drew.heap.size/\Below B w W.drew):=
     ⟨hk0.cells,hk0.lt,below_drewN hba 1⟩
    clear hba;refine wp_region_noPanic ?_;refine wp_region_held_drew (S:=fun w'=>(∀i,w'.cell? ⟨B,i,none⟩=([.int .i64 op,.bool neg,.string num,.string den,.string nm]:List Value)[i]?)/\B<w'.heap.size/\Below B w w') (by kernel_rfl) HS.out (fun hHeld=>?_);refine tkZ 0 ?_;refine tkZ 1 ?_;refine tkR 2 fun K hK=>?_
    go_simp;refine (sOf_any 0 _ (by omega) (by omega)).mono ?_;rintro e w1 ⟨rfl,hb1⟩;simp only[Ra.v]
    go_wp2_with fail;refine tkK hK (HK.out _ _ (by assumption) hb1) fun hHeld=>?_
    clear hK K;refine tkZ 3 ?_;refine tkZ 4 ?_;refine tkZ 5 ?_;refine tkZ 6 ?_;refine tkR 7 fun K hK=>?_
    go_simp;refine (sOf_any 1 _ (by omega) (by omega)).mono ?_;rintro e w1 ⟨rfl,hb1⟩;simp only[Ra.v]
    go_wp2_with fail;refine tkK hK (HK.out _ _ (by assumption) hb1) fun hHeld=>?_
    clear hK K;refine tkZ 8 ?_;refine tkZ 9 ?_;refine tkZ 10 ?_;refine wpAnyH_done (by kernel_rfl) ?_ _;refine NoPanic.normal ?_;obtain⟨_,_,hb3⟩:=hHeld;have HH:=zH hb3;clear hb3;go_wp2;go_ret;exact⟨by rw[HW.out];rfl,by rw[<-HB.out];exact HH.out⟩
  ·go_enter Tryz.func60,Tryz.ntmps60;go_wp2_with fail;simp only[<-hW,<-hB]
   clear hW hB
   have HK:Hid (∀w' w1:World,((∀i,w'.cell? ⟨B,i,none⟩=([.int .i64 op,.bool neg,.string num,.string den,.string nm]:List Value)[i]?)/\B<w'.heap.size/\Below B w w')->Below w'.heap.size w' w1->
     ((∀i,w1.cell? ⟨B,i,none⟩=([.int .i64 op,.bool neg,.string num,.string den,.string nm]:List Value)[i]?)/\B<w1.heap.size/\Below B w w1)):=by
    rintro w' w1 ⟨h0,h2,h3⟩ hb1;exact⟨fun i=>(hb1.cell h2).trans (h0 i),Nat.lt_of_lt_of_le h2 hb1.size,h3.trans (hb1.mono (Nat.le_of_lt h2))⟩
   have HS:Hid ((∀i,W.drew.cell? ⟨B,i,none⟩=([.int .i64 op,.bool neg,.string num,.string den,.string nm]:List Value)[i]?)/\B<W.drew.heap.size/\Below B w W.drew):=
    ⟨hk0.cells,hk0.lt,below_drewN hba 1⟩
   clear hba;refine wp_region_noPanic ?_;refine wp_region_held_drew (S:=fun w'=>(∀i,w'.cell? ⟨B,i,none⟩=([.int .i64 op,.bool neg,.string num,.string den,.string nm]:List Value)[i]?)/\B<w'.heap.size/\Below B w w') (by kernel_rfl) HS.out (fun hHeld=>?_);refine tkZ 0 ?_;refine tkZ 1 ?_;refine tkR 2 fun K hK=>?_
   go_simp;refine (sOf_any 0 _ (by omega) (by omega)).mono ?_;rintro e w1 ⟨rfl,hb1⟩;simp only[Ra.v]
   go_wp2_with fail;refine tkK hK (HK.out _ _ (by assumption) hb1) fun hHeld=>?_
   clear hK K;refine tkZ 3 ?_;refine tkZ 4 ?_;refine tkN 5 rfl ?_
   try simp only[Act.put,tk1,tk2,tk3,tk4,tk5,tk6]
   refine tkN 6 rfl ?_
   try simp only[Act.put,tk1,tk2,tk3,tk4,tk5,tk6]
   refine tkN 7 rfl ?_
   try simp only[Act.put,tk1,tk2,tk3,tk4,tk5,tk6]
   refine tkN 8 rfl ?_
   try simp only[Act.put,tk1,tk2,tk3,tk4,tk5,tk6]
   refine tkZ 9 ?_;refine tkZ 10 ?_;refine wpAnyH_done (by kernel_rfl) ?_ _;refine NoPanic.normal ?_;obtain⟨_,_,hb3⟩:=hHeld;have HH:=zH hb3;clear hb3;go_wp2;go_ret;exact⟨by rw[HW.out];rfl,by rw[<-HB.out];exact HH.out⟩
 ·have h4':(op==4)=false:=by rw[beq_eq_false_iff_ne];exact h4
  have HW:Hid (r=if li then ft else if st then ft&&decide (0<sg) else dz):=by show _=_;rw[HU.out,if_neg h4]
  clear h4 HU HQ0 HQ1;cases li
  ·cases st
   ·clear HF HS;go_enter Tryz.func60,Tryz.ntmps60;go_wp2_with fail;simp only[<-hW,<-hB]
    clear hW hB;refine (HL.out _).mono ?_;rintro e w1 ⟨rfl,rfl⟩;go_wp2_with fail;refine (HT.out _).mono ?_;rintro e w1 ⟨rfl,rfl⟩;simp only[zR] at HQZ;go_wp2;go_ret;exact⟨by rw[HW.out];rfl,by rw[<-HB.out];exact hba⟩
   ·clear HQZ;obtain⟨b,hb⟩:=zF (decide (0<sg));rw[hb] at HW;cases ft
    all_goals
     go_enter Tryz.func60,Tryz.ntmps60;go_wp2_with fail;simp only[<-hW,<-hB]
     clear hW hB;refine (HL.out _).mono ?_;rintro e w1 ⟨rfl,rfl⟩;go_wp2_with fail;refine (HT.out _).mono ?_;rintro e w1 ⟨rfl,rfl⟩;go_wp2_with fail;refine (HF.out _).mono ?_;rintro e w1 ⟨rfl,hb1⟩;have hk1:=hk0.below hb1 hk0.lt;have hc1:=hk1.cells;have hB1:=hba.trans (hb1.mono (Nat.le_of_lt hk0.lt));clear hb1 hba
    ·go_wp2;go_ret;exact⟨by rw[HW.out];rfl,by rw[<-HB.out];exact hB1⟩
    ·go_wp2_with fail;refine (HS.out _).mono ?_;rintro e w2 ⟨rfl,hb2⟩;have hB2:=hB1.trans (hb2.mono (Nat.le_of_lt hk1.lt));clear hb2 hB1;go_wp2;go_ret;exact⟨by rw[HW.out];rfl,by rw[<-HB.out];exact hB2⟩
  ·clear HS HQZ;go_enter Tryz.func60,Tryz.ntmps60;go_wp2_with fail;simp only[<-hW,<-hB]
   clear hW hB;refine (HL.out _).mono ?_;rintro e w1 ⟨rfl,rfl⟩;go_wp2_with fail;refine (HF.out _).mono ?_;rintro e w1 ⟨rfl,hb1⟩;go_wp2;go_ret;exact⟨by rw[HW.out];rfl,by rw[<-HB.out];exact hba.trans (hb1.mono (Nat.le_of_lt hk0.lt))⟩
theorem gCheck_any (es:List Nd) (A:Option Addr) (len cap:Nat) (w:World) (hlen:len=es.length) (hcap:len<=cap) (hm:cap<=maxLen) (hr:Rd w A (nds es)) (hf:∀n∈es,Fine n):
  Calls Tryz.prog 23 #[.slice A len cap] w fun e w'=>e=.returned (.int .i64 (checkE es))/\Below w.heap.size w w':=by
 unfold maxLen at hm;by_cases h60:60<len
 ·have HV:Hid (checkE es=2):=by show _=_;unfold checkE;rw[if_pos (by omega)]
  have h60':(60:Int)<len:=by omega
  clear hlen hr hf;go_enter Tryz.func23,Tryz.ntmps23;go_wp2;go_ret;exact⟨by rw[HV.out];rfl,Below.refl _ _⟩
 ·have HV:Hid (checkE es=chk es 0):=by show _=_;unfold checkE;rw[if_neg (by omega)]
  have h60':¬(60:Int)<len:=by omega
  have HR:=zH hr;have HF:=zH hf;have HLEN:=zH hlen;have hle:len<=60:=by omega
  clear hlen hr hf h60;go_enter Tryz.func23,Tryz.ntmps23;go_wp2
  go_loopg [3,4] len (fun g dv iv wr=>∃k d:Nat,k+g=len/\d<=k/\dv=.int .i64 d/\iv=.int .i64 k/\Hid (chk es 0=chk (es.drop k) d)/\Below w.heap.size w wr)
  case atStart=>exact⟨0,0,by omega,by omega,rfl,rfl,rfl,Below.refl _ _⟩
  case round=>
   obtain⟨k,d,hk,hd,rfl,rfl,hch,hbw⟩:=hrel;by_cases hlt:k<len
   ·have hke:k<es.length:=by rw[<-HLEN.out];exact hlt
    obtain⟨b,off,rfl,hb,hc0,hc1,hc2,hc3,hc4⟩:=(HR.out.below hbw).nd hke;have hfin:=HF.out _ (List.getElem_mem hke);have HCH0:Hid (chk es 0=chk (es[k]::es.drop (k+1)) d):=by show _=_;rw[hch.out,List.drop_eq_getElem_cons hke]
    have HNB:=zH (fun W=>gNumbered_any es[k] W hfin);generalize es[k]=n at*;have hways:=wrongN_ways n
    have HCH1:Hid (∀z,wrongN n=z->chk es 0=if z≠0 then z else if d<(shp n.op).ops then 11 else chk (es.drop (k+1)) (d-(shp n.op).ops+1)):=by
     rintro z rfl;rw[HCH0.out,chk]
    have HND:=zH (fun W=>gNamed_any n.op W);have HNM:=zH (fun W=>gName_any n.name W);have HAR:=zH (fun W=>gArity_any n.op W);have hol:=shp_ops_le n.op;clear hfin HCH0 hch;generalize wrongN n=z at*;generalize numOk n=ok at*;obtain⟨op,⟨neg,num,den⟩,nm⟩:=n;unfold Nd.v at HNB;simp only at hc0 hc1 hc2 hc3 hc4 hways HCH1 HND HNM HAR hol HNB;generalize nameB nm.data.toList=nb at*;generalize (shp op).nam=nam at*;generalize (shp op).ops=o at*;have hba:Below w.heap.size w (wr.alloc (.cells #[.int .i64 op,.bool neg,.string num,.string den,.string nm] 49)):=hbw.alloc hbw.size _;have hka:=Blk.new wr 49 #[.int .i64 op,.bool neg,.string num,.string den,.string nm];have HCH:=zH (HCH1.out z rfl);clear HCH1 hbw;by_cases hz0:z=0
    ·subst hz0
     have HC:Hid (chk es 0=if d<o then 11 else chk (es.drop (k+1)) (d-o+1)):=by
      have:=HCH.out;rwa[if_neg (by simp)] at this
     have hw2:(1<=op/\op<=24/\ok=true/\nam=false/\nm.toList.isEmpty=true)∨(1<=op/\op<=24/\ok=true/\nam=true/\nb=true):=by
      rcases hways with h|h|h|h|h|h|h
      ·exact absurd h.2 (by decide)
      ·exact absurd h.2.2 (by decide)
      ·exact absurd h.2.2.2 (by decide)
      ·exact absurd h.2.2.2.2.2 (by decide)
      ·exact .inl ⟨h.1,h.2.1,h.2.2.1,h.2.2.2.1,h.2.2.2.2.1⟩
      ·exact absurd h.2.2.2.2.2 (by decide)
      ·exact .inr ⟨h.1,h.2.1,h.2.2.1,h.2.2.2.1,h.2.2.2.2.1⟩
     clear HCH hways;obtain⟨q,hq⟩:=zF (decide (d<o));have hq':decide ((d:Int)<o)=q:=by rw[<-hq,decide_eq_decide];omega
     rcases hw2 with⟨o1,o2,rfl,rfl,he⟩|⟨o1,o2,rfl,rfl,rfl⟩
     all_goals
      go_wp2_with fail;refine (HND.out _).mono ?_;rintro e w2 ⟨rfl,rfl⟩;go_wp2_with fail;refine (HNB.out _).mono ?_;rintro e w2 ⟨rfl,hb2⟩;have hk2:=hka.below hb2 hka.lt;have hcB:=hk2.cells;have HB:=zH (bstep hba hb2);clear hk2 hb2 hba hka;go_wp2_with fail;refine (HNM.out _).mono ?_;rintro e w3 ⟨rfl,rfl⟩;go_wp2_with fail;refine (HAR.out _).mono ?_;rintro e w3 ⟨rfl,rfl⟩;cases q
      ·have hdo:¬d<o:=of_decide_eq_false hq;have e1:0<=(d:Int)-o:=by omega
       have hq2:¬((d:Int)<o):=by omega
       go_wp2
       go_roundg (len-(k+1))
       case measure=>omega
       case rel=>
        refine⟨k+1,d-o+1,by omega,by omega,by go_num,by go_num,?_,HB.out⟩;show _=_;rw[HC.out,if_neg hdo]
      ·have hdo:d<o:=of_decide_eq_true hq;go_wp2;go_ret;exact⟨by rw[HV.out,HC.out,if_pos hdo];rfl,HB.out⟩
    ·have hw2:(op<1/\z=11)∨(1<=op/\24<op/\z=11)∨(1<=op/\op<=24/\ok=false/\z=11)∨(1<=op/\op<=24/\ok=true/\nam=false/\nm.toList.isEmpty=false/\z=11)∨(1<=op/\op<=24/\ok=true/\nam=true/\nb=false/\z=12):=by
      rcases hways with h|h|h|h|h|h|h
      ·exact .inl h
      ·exact .inr (.inl h)
      ·exact .inr (.inr (.inl h))
      ·exact .inr (.inr (.inr (.inl h)))
      ·exact absurd h.2.2.2.2.2 hz0
      ·exact .inr (.inr (.inr (.inr h)))
      ·exact absurd h.2.2.2.2.2 hz0
     have HC:Hid (chk es 0=z):=by
      have:=HCH.out;rwa[if_pos hz0] at this
     clear HCH hways hz0;rcases hw2 with⟨o1,rfl⟩|⟨o1,o2,rfl⟩|⟨o1,o2,rfl,rfl⟩|⟨o1,o2,rfl,rfl,he,rfl⟩|⟨o1,o2,rfl,rfl,rfl,rfl⟩
     case' inr.inr.inr.inl=>have he2:(!nm.toList.isEmpty)=true:=by rw[he];rfl
     all_goals
      go_wp2_with fail;refine (HND.out _).mono ?_;rintro e w2 ⟨rfl,rfl⟩;go_wp2_with fail;refine (HNB.out _).mono ?_;rintro e w2 ⟨rfl,hb2⟩;have hk2:=hka.below hb2 hka.lt;have hcB:=hk2.cells;have HB:=zH (bstep hba hb2);clear hk2 hb2 hba hka;go_wp2_with fail
      try
       refine (HNM.out _).mono ?_;rintro e w3 ⟨rfl,rfl⟩;go_wp2_with fail
      go_ret;exact⟨by rw[HV.out,HC.out];rfl,HB.out⟩
   ·have hkl:k=len:=by omega
    have hg0:gk=0:=by omega
    have HD:Hid (es.drop k=[]):=by show _=_;rw[hkl,HLEN.out,List.drop_length]
    by_cases h1:d=1
    ·have e1:((d:Int) !=1)=false:=by rw[h1];rfl
     go_wp2;go_ret;refine⟨?_,hbw⟩;rw[HV.out,hch.out,HD.out,h1];rfl
    ·have e1:((d:Int) !=1)=true:=by rw[bne_iff_ne];omega
     go_wp2;go_ret;refine⟨?_,hbw⟩;rw[HV.out,hch.out,HD.out,chk,if_neg h1];rfl
end Go.Proofs.YtimokmplkpbmdaaGreatDoor
