/- A part of the proof: Q2 Q3 Q4 Q5 Q6 Q7 Q8 S1 S2. -/
import Derived.Test.YtfajelpcfnfjkaaGreatDoorA00
import Derived.Test.YtfajelpcfnfjkaaGreatDoorA03
import Derived.Test.YtfajelpcfnfjkaaGreatDoorA15
set_option linter.unusedVariables false
set_option linter.unusedSimpArgs false
namespace Go.Proofs.YtfajelpcfnfjkaaGreatDoor
open Go.RowKit
theorem rightS_iff (s:ByteArray):rightS s=true↔s=nbs (vbs s):=by
 obtain⟨⟨l⟩⟩:=s;constructor
 ·intro h
  have h1:l=nb (vb l):=by
   rw[←canonB_eq];cases l with
   |nil=>rfl
   |cons c l=>
    have hc:c≠0:=by simpa [rightS] using h
    simp[canonB,hc]
  show _=(⟨(nb (vb l)).toArray⟩:ByteArray)
  rw[←h1]
 ·intro h;have hr:=right_nb (vb l)
  have h1:l=nb (vb l):=by
   have:=congrArg (fun s:ByteArray=>s.data.toList) h;exact this
  rw[←h1] at hr;cases l with
  |nil=>rfl
  |cons c l=>have:=hr (by simp);simpa [rightS] using this
def okR (a:Ra):Bool:=rightS a.den&&decide (0<vbs a.den)&&rightS a.num&&decide (low a.neg (vbs a.num) (vbs a.den)=a)
set_option maxHeartbeats 800000 in
theorem qpos_any (n:ByteArray) (w:World) (hn:n.size≤1073741824):
  Calls Tryz.prog 87 #[.agg #[.string ⟨#[]⟩],.string n] w fun e w'=>e=.returned (.bool (rightS n&&decide (0<vbs n)))∧Below w.heap.size w w':=by
 obtain⟨W,hW⟩:∃W,W=w.alloc (.cells #[.string ⟨#[]⟩] 159):=⟨_,rfl⟩
 have hba:Below w.heap.size w W:=by rw[hW];exact (Below.refl _ _).alloc (Nat.le_refl _) _
 have hblk:Blk W w.heap.size 159 [.string ⟨#[]⟩]:=by rw[hW];exact Blk.new w _ _
 have hc0:=hblk.cell (i:=0) (by decide);simp only[List.getElem_cons_zero] at hc0;have HR:=Lib.hid (natRight_any n W);have HC:=Lib.hid (natCmp_any n ⟨#[]⟩ W hn (by show 0≤_;omega))
 have hcmp:decide (0<cmpI (vbs n) (vbs ⟨#[]⟩))=decide (0<vbs n):=by
  rw[decide_eq_decide,show vbs ⟨#[]⟩=0 from rfl];unfold cmpI;split
  ·omega
  ·split<;>omega
 generalize cmpI (vbs n) (vbs ⟨#[]⟩)=z at*;cases hr:rightS n
 ·rw[hr] at HR;go_enter Tryz.func87,Tryz.ntmps87;go_wp2_with fail;simp only[←hW]
  clear hW;refine HR.out.mono ?_;rintro e w' ⟨rfl,rfl⟩;go_wp2;go_ret;exact⟨rfl,hba⟩
 ·rw[hr] at HR;go_enter Tryz.func87,Tryz.ntmps87;go_wp2_with fail;simp only[←hW]
  clear hW;refine HR.out.mono ?_;rintro e w' ⟨rfl,rfl⟩;go_wp2_with fail;refine HC.out.mono ?_;rintro e w2 ⟨rfl,hb2⟩;go_wp2;go_ret;refine⟨?_,bstep hba hb2⟩;rw[←hcmp];rfl
theorem toList_inj {a b:ByteArray} (h:a.toList=b.toList):a=b:=by
 rw[ByteArray.toList_eq,ByteArray.toList_eq] at h;obtain⟨⟨a⟩⟩:=a;obtain⟨⟨b⟩⟩:=b;simp at h;rw[h]
theorem eqRa_if {α:Type} (f:Bool→α) (a b:Ra):
  (if a.neg=b.neg then if a.num.toList=b.num.toList then if a.den.toList=b.den.toList then f true else f false else f false else f false)=f (decide (a=b)):=by
 by_cases h:a=b
 ·subst h;simp
 ·rw[decide_eq_false h];split
  ·split
   ·split
    ·next h1 h2 h3=>
     exfalso;apply h;obtain⟨x,y,z⟩:=a;obtain⟨x',y',z'⟩:=b;simp only at h1 h2 h3;rw[h1,toList_inj h2,toList_inj h3]
    ·rfl
   ·rfl
  ·rfl
def RaAt (w:World) (b:Nat) (a:Ra):Prop:=
 w.cell? ⟨b,0,none⟩=some (.bool a.neg)∧w.cell? ⟨b,1,none⟩=some (.string a.num)∧w.cell? ⟨b,2,none⟩=some (.string a.den)
theorem RaAt.of_blk {w:World} {b:Nat} {a:Ra} {t:TypeId} (h:Blk w b t [.bool a.neg,.string a.num,.string a.den]):RaAt w b a:=by
 have hc0:=h.cell (i:=0) (by simp);have hc1:=h.cell (i:=1) (by simp);have hc2:=h.cell (i:=2) (by simp);exact⟨hc0,hc1,hc2⟩
set_option maxRecDepth 100000 in
set_option maxHeartbeats 1600000 in
theorem qRight_any (a:Ra) (w:World) (hn:a.num.size≤536870912) (hd:a.den.size≤536870912):
  Calls Tryz.prog 56 #[a.v] w fun e w'=>e=.returned (.bool (okR a))∧Below w.heap.size w w':=by
 obtain⟨neg,num,den⟩:=a;obtain⟨W,hW⟩:∃W,W=w.alloc (.cells #[.bool neg,.string num,.string den] 46):=⟨_,rfl⟩
 have hba:Below w.heap.size w W:=by rw[hW];exact (Below.refl _ _).alloc (Nat.le_refl _) _
 have hblk:Blk W w.heap.size 46 [.bool neg,.string num,.string den]:=by rw[hW];exact Blk.new w _ _
 obtain⟨B,hB⟩:∃B,B=w.heap.size:=⟨_,rfl⟩
 rw[←hB] at hblk;have hbs:B<W.heap.size:=hblk.lt;have hc:=RaAt.of_blk (a:=⟨neg,num,den⟩) hblk;obtain⟨hc0,hc1,hc2⟩:=hc
 have HK:Hid (∀w' w1:World,(w'.cell? ⟨B,0,none⟩=some (.bool neg)∧w'.cell? ⟨B,1,none⟩=some (.string num)∧w'.cell? ⟨B,2,none⟩=some (.string den)∧Below W.heap.size W w')→Below w'.heap.size w' w1→
   (w1.cell? ⟨B,0,none⟩=some (.bool neg)∧w1.cell? ⟨B,1,none⟩=some (.string num)∧w1.cell? ⟨B,2,none⟩=some (.string den)∧Below W.heap.size W w1)):=by
  rintro w' w1 ⟨h0,h1,h2,hb⟩ hb1;have hlt:B<w'.heap.size:=Nat.lt_of_lt_of_le hbs hb.size;exact⟨(hb1.cell hlt).trans h0,(hb1.cell hlt).trans h1,(hb1.cell hlt).trans h2,bstep hb hb1⟩
 have HS:Hid (W.drew.cell? ⟨B,0,none⟩=some (.bool neg)∧W.drew.cell? ⟨B,1,none⟩=some (.string num)∧W.drew.cell? ⟨B,2,none⟩=some (.string den)∧Below W.heap.size W W.drew):=
  ⟨hc0,hc1,hc2,below_drewN (Below.refl _ _) 1⟩
 have HP:=Lib.hid (fun w=>qpos_any den w (by simp at hd;omega));have HR:=Lib.hid (fun w=>natRight_any num w);simp only at hn hd;have HOK:Hid (okR ⟨neg,num,den⟩=(rightS den&&decide (0<vbs den)&&rightS num&&decide (low neg (vbs num) (vbs den)=⟨neg,num,den⟩))):=rfl;cases hp:(rightS den&&decide (0<vbs den))
 ·rw[hp] at HP HOK;clear hp hblk hc0 hc1 hc2;unfold Ra.v;go_enter Tryz.func56,Tryz.ntmps56;go_wp2_with fail;simp only[←hW,←hB]
  clear hW hB;refine wp_region_noPanic ?_;refine wp_region_held_drew (S:=fun w'=>w'.cell? ⟨B,0,none⟩=some (.bool neg)∧w'.cell? ⟨B,1,none⟩=some (.string num)∧w'.cell? ⟨B,2,none⟩=some (.string den)∧Below W.heap.size W w') (by kernel_rfl) HS.out (fun hHeld=>?_);refine tkY 0 ?_ rfl ?_ ?_;rotate_left
  ·intro w hSw;(try dsimp only at hSw);go_simp
   all_goals with_reducible rfl
  try simp only[Act.put,tk1,tk2,tk3,tk4,tk5,tk6]
  refine tkY 1 ?_ rfl ?_ ?_;rotate_left
  ·intro w hSw;(try dsimp only at hSw);go_simp
   all_goals with_reducible rfl
  try simp only[Act.put,tk1,tk2,tk3,tk4,tk5,tk6]
  refine tkY 2 ?_ rfl ?_ ?_;rotate_left
  ·intro w hSw;(try dsimp only at hSw);go_simp
   all_goals with_reducible rfl
  try simp only[Act.put,tk1,tk2,tk3,tk4,tk5,tk6]
  refine wpAnyH_ready (rs:=[3]) (by kernel_rfl) (by simp) ?_;refine AllReadyH.cons rfl (fun K hK=>?_) AllReadyH.nil;go_simp;refine (HP.out _).mono ?_;rintro e w1 ⟨rfl,hb1⟩;go_wp2_with fail;refine hK.out _ _ ?_ (fun hHeld=>?_)
  ·exact HK.out _ _ (by assumption) hb1
  clear hK K
  try simp only[Act.put,tk1,tk2,tk3,tk4,tk5,tk6]
  refine tkY 4 ?_ rfl ?_ ?_;rotate_left
  ·intro w hSw;(try dsimp only at hSw);go_simp
   all_goals with_reducible rfl
  try simp only[Act.put,tk1,tk2,tk3,tk4,tk5,tk6]
  refine tkN 5 rfl ?_
  try simp only[Act.put,tk1,tk2,tk3,tk4,tk5,tk6]
  refine tkN 6 rfl ?_
  try simp only[Act.put,tk1,tk2,tk3,tk4,tk5,tk6]
  refine tkN 7 rfl ?_
  try simp only[Act.put,tk1,tk2,tk3,tk4,tk5,tk6]
  refine tkY 8 ?_ rfl ?_ ?_;rotate_left
  ·intro w hSw;(try dsimp only at hSw);go_simp
   all_goals with_reducible rfl
  try simp only[Act.put,tk1,tk2,tk3,tk4,tk5,tk6]
  refine tkY 9 ?_ rfl ?_ ?_;rotate_left
  ·intro w hSw;(try dsimp only at hSw);go_simp
   all_goals with_reducible rfl
  try simp only[Act.put,tk1,tk2,tk3,tk4,tk5,tk6]
  refine tkN 10 rfl ?_
  try simp only[Act.put,tk1,tk2,tk3,tk4,tk5,tk6]
  refine tkN 11 rfl ?_
  try simp only[Act.put,tk1,tk2,tk3,tk4,tk5,tk6]
  refine tkN 12 rfl ?_
  try simp only[Act.put,tk1,tk2,tk3,tk4,tk5,tk6]
  refine tkN 13 rfl ?_
  try simp only[Act.put,tk1,tk2,tk3,tk4,tk5,tk6]
  refine tkN 14 rfl ?_
  try simp only[Act.put,tk1,tk2,tk3,tk4,tk5,tk6]
  refine tkN 15 rfl ?_
  try simp only[Act.put,tk1,tk2,tk3,tk4,tk5,tk6]
  refine tkN 16 rfl ?_
  try simp only[Act.put,tk1,tk2,tk3,tk4,tk5,tk6]
  refine tkN 17 rfl ?_
  try simp only[Act.put,tk1,tk2,tk3,tk4,tk5,tk6]
  refine tkN 18 rfl ?_
  try simp only[Act.put,tk1,tk2,tk3,tk4,tk5,tk6]
  refine tkY 19 ?_ rfl ?_ ?_;rotate_left
  ·intro w hSw;(try dsimp only at hSw);go_simp
   all_goals with_reducible rfl
  try simp only[Act.put,tk1,tk2,tk3,tk4,tk5,tk6]
  refine tkY 20 ?_ rfl ?_ ?_;rotate_left
  ·intro w hSw;(try dsimp only at hSw);go_simp
   all_goals with_reducible rfl
  try simp only[Act.put,tk1,tk2,tk3,tk4,tk5,tk6]
  refine wpAnyH_done (by kernel_rfl) ?_ _;refine NoPanic.normal ?_;go_wp2;go_ret;exact⟨by rw[HOK.out];rfl,bstep hba hHeld.2.2.2⟩
 ·rw[hp] at HP HOK;cases hr:rightS num
  ·rw[hr] at HR HOK;clear hr hp hblk hc0 hc1 hc2;unfold Ra.v;go_enter Tryz.func56,Tryz.ntmps56;go_wp2_with fail;simp only[←hW,←hB]
   clear hW hB;refine wp_region_noPanic ?_;refine wp_region_held_drew (S:=fun w'=>w'.cell? ⟨B,0,none⟩=some (.bool neg)∧w'.cell? ⟨B,1,none⟩=some (.string num)∧w'.cell? ⟨B,2,none⟩=some (.string den)∧Below W.heap.size W w') (by kernel_rfl) HS.out (fun hHeld=>?_);refine tkY 0 ?_ rfl ?_ ?_;rotate_left
   ·intro w hSw;(try dsimp only at hSw);go_simp
    all_goals with_reducible rfl
   try simp only[Act.put,tk1,tk2,tk3,tk4,tk5,tk6]
   refine tkY 1 ?_ rfl ?_ ?_;rotate_left
   ·intro w hSw;(try dsimp only at hSw);go_simp
    all_goals with_reducible rfl
   try simp only[Act.put,tk1,tk2,tk3,tk4,tk5,tk6]
   refine tkY 2 ?_ rfl ?_ ?_;rotate_left
   ·intro w hSw;(try dsimp only at hSw);go_simp
    all_goals with_reducible rfl
   try simp only[Act.put,tk1,tk2,tk3,tk4,tk5,tk6]
   refine wpAnyH_ready (rs:=[3]) (by kernel_rfl) (by simp) ?_;refine AllReadyH.cons rfl (fun K hK=>?_) AllReadyH.nil;go_simp;refine (HP.out _).mono ?_;rintro e w1 ⟨rfl,hb1⟩;go_wp2_with fail;refine hK.out _ _ ?_ (fun hHeld=>?_)
   ·exact HK.out _ _ (by assumption) hb1
   clear hK K
   try simp only[Act.put,tk1,tk2,tk3,tk4,tk5,tk6]
   refine tkY 4 ?_ rfl ?_ ?_;rotate_left
   ·intro w hSw;(try dsimp only at hSw);go_simp
    all_goals with_reducible rfl
   try simp only[Act.put,tk1,tk2,tk3,tk4,tk5,tk6]
   refine tkY 5 ?_ rfl ?_ ?_;rotate_left
   ·intro w hSw;(try dsimp only at hSw);go_simp
    all_goals with_reducible rfl
   try simp only[Act.put,tk1,tk2,tk3,tk4,tk5,tk6]
   refine tkY 6 ?_ rfl ?_ ?_;rotate_left
   ·intro w hSw;(try dsimp only at hSw);go_simp
    all_goals with_reducible rfl
   try simp only[Act.put,tk1,tk2,tk3,tk4,tk5,tk6]
   refine wpAnyH_ready (rs:=[7]) (by kernel_rfl) (by simp) ?_;refine AllReadyH.cons rfl (fun K hK=>?_) AllReadyH.nil;go_simp;refine (HR.out _).mono ?_;rintro e w1 ⟨rfl,rfl⟩;go_wp2_with fail;refine hK.out _ _ ?_ (fun hHeld=>?_)
   ·assumption
   clear hK K
   try simp only[Act.put,tk1,tk2,tk3,tk4,tk5,tk6]
   refine tkY 8 ?_ rfl ?_ ?_;rotate_left
   ·intro w hSw;(try dsimp only at hSw);go_simp
    all_goals with_reducible rfl
   try simp only[Act.put,tk1,tk2,tk3,tk4,tk5,tk6]
   refine tkY 9 ?_ rfl ?_ ?_;rotate_left
   ·intro w hSw;(try dsimp only at hSw);go_simp
    all_goals with_reducible rfl
   try simp only[Act.put,tk1,tk2,tk3,tk4,tk5,tk6]
   refine tkN 10 rfl ?_
   try simp only[Act.put,tk1,tk2,tk3,tk4,tk5,tk6]
   refine tkN 11 rfl ?_
   try simp only[Act.put,tk1,tk2,tk3,tk4,tk5,tk6]
   refine tkN 12 rfl ?_
   try simp only[Act.put,tk1,tk2,tk3,tk4,tk5,tk6]
   refine tkN 13 rfl ?_
   try simp only[Act.put,tk1,tk2,tk3,tk4,tk5,tk6]
   refine tkN 14 rfl ?_
   try simp only[Act.put,tk1,tk2,tk3,tk4,tk5,tk6]
   refine tkN 15 rfl ?_
   try simp only[Act.put,tk1,tk2,tk3,tk4,tk5,tk6]
   refine tkN 16 rfl ?_
   try simp only[Act.put,tk1,tk2,tk3,tk4,tk5,tk6]
   refine tkN 17 rfl ?_
   try simp only[Act.put,tk1,tk2,tk3,tk4,tk5,tk6]
   refine tkN 18 rfl ?_
   try simp only[Act.put,tk1,tk2,tk3,tk4,tk5,tk6]
   refine tkY 19 ?_ rfl ?_ ?_;rotate_left
   ·intro w hSw;(try dsimp only at hSw);go_simp
    all_goals with_reducible rfl
   try simp only[Act.put,tk1,tk2,tk3,tk4,tk5,tk6]
   refine tkY 20 ?_ rfl ?_ ?_;rotate_left
   ·intro w hSw;(try dsimp only at hSw);go_simp
    all_goals with_reducible rfl
   try simp only[Act.put,tk1,tk2,tk3,tk4,tk5,tk6]
   refine wpAnyH_done (by kernel_rfl) ?_ _;refine NoPanic.normal ?_;go_wp2;go_ret;exact⟨by rw[HOK.out];rfl,bstep hba hHeld.2.2.2⟩
  ·rw[hr] at HR HOK;rw[Bool.and_eq_true,decide_eq_true_eq] at hp;have en:=(rightS_iff num).1 hr;have ed:=(rightS_iff den).1 hp.1;have hvn:=vbs_lt num;have hvd:=vbs_lt den;obtain⟨K,hK⟩:∃K,K=536870912:=⟨_,rfl⟩
   have HL:=Lib.hid (fun w=>qlowest_any neg (vbs num) (vbs den) K w (Nat.le_of_eq hK) (vbs_le num K (by rw[hK];exact hn)) (vbs_le den K (by rw[hK];exact hd)) hp.2);clear hK;rw[←en,←ed] at HL;obtain⟨lw,hlw⟩:∃lw,low neg (vbs num) (vbs den)=lw:=⟨_,rfl⟩
   rw[hlw] at HL HOK;obtain⟨ln,lu,ld⟩:=lw;obtain⟨dq,hdq⟩:∃d,decide ((⟨ln,lu,ld⟩:Ra)=⟨neg,num,den⟩)=d:=⟨_,rfl⟩
   rw[hdq] at HOK;have HDQ:=Lib.hid hdq;clear hdq;clear hr hp hblk hc0 hc1 hc2 en ed hvn hvd hlw;unfold Ra.v;go_enter Tryz.func56,Tryz.ntmps56;go_wp2_with fail;simp only[←hW,←hB]
   clear hW hB;refine wp_region_noPanic ?_;refine wp_region_held_drew (S:=fun w'=>w'.cell? ⟨B,0,none⟩=some (.bool neg)∧w'.cell? ⟨B,1,none⟩=some (.string num)∧w'.cell? ⟨B,2,none⟩=some (.string den)∧Below W.heap.size W w') (by kernel_rfl) HS.out (fun hHeld=>?_);refine tkY 0 ?_ rfl ?_ ?_;rotate_left
   ·intro w hSw;(try dsimp only at hSw);go_simp
    all_goals with_reducible rfl
   try simp only[Act.put,tk1,tk2,tk3,tk4,tk5,tk6]
   refine tkY 1 ?_ rfl ?_ ?_;rotate_left
   ·intro w hSw;(try dsimp only at hSw);go_simp
    all_goals with_reducible rfl
   try simp only[Act.put,tk1,tk2,tk3,tk4,tk5,tk6]
   refine tkY 2 ?_ rfl ?_ ?_;rotate_left
   ·intro w hSw;(try dsimp only at hSw);go_simp
    all_goals with_reducible rfl
   try simp only[Act.put,tk1,tk2,tk3,tk4,tk5,tk6]
   refine wpAnyH_ready (rs:=[3]) (by kernel_rfl) (by simp) ?_;refine AllReadyH.cons rfl (fun K hK=>?_) AllReadyH.nil;go_simp;refine (HP.out _).mono ?_;rintro e w1 ⟨rfl,hb1⟩;go_wp2_with fail;refine hK.out _ _ ?_ (fun hHeld=>?_)
   ·exact HK.out _ _ (by assumption) hb1
   clear hK K
   try simp only[Act.put,tk1,tk2,tk3,tk4,tk5,tk6]
   refine tkY 4 ?_ rfl ?_ ?_;rotate_left
   ·intro w hSw;(try dsimp only at hSw);go_simp
    all_goals with_reducible rfl
   try simp only[Act.put,tk1,tk2,tk3,tk4,tk5,tk6]
   refine tkY 5 ?_ rfl ?_ ?_;rotate_left
   ·intro w hSw;(try dsimp only at hSw);go_simp
    all_goals with_reducible rfl
   try simp only[Act.put,tk1,tk2,tk3,tk4,tk5,tk6]
   refine tkY 6 ?_ rfl ?_ ?_;rotate_left
   ·intro w hSw;(try dsimp only at hSw);go_simp
    all_goals with_reducible rfl
   try simp only[Act.put,tk1,tk2,tk3,tk4,tk5,tk6]
   refine wpAnyH_ready (rs:=[7]) (by kernel_rfl) (by simp) ?_;refine AllReadyH.cons rfl (fun K hK=>?_) AllReadyH.nil;go_simp;refine (HR.out _).mono ?_;rintro e w1 ⟨rfl,rfl⟩;go_wp2_with fail;refine hK.out _ _ ?_ (fun hHeld=>?_)
   ·assumption
   clear hK K
   try simp only[Act.put,tk1,tk2,tk3,tk4,tk5,tk6]
   refine tkY 8 ?_ rfl ?_ ?_;rotate_left
   ·intro w hSw;(try dsimp only at hSw);go_simp
    all_goals with_reducible rfl
   try simp only[Act.put,tk1,tk2,tk3,tk4,tk5,tk6]
   refine tkY 9 ?_ rfl ?_ ?_;rotate_left
   ·intro w hSw;(try dsimp only at hSw);go_simp
    all_goals with_reducible rfl
   try simp only[Act.put,tk1,tk2,tk3,tk4,tk5,tk6]
   refine tkY 10 ?_ rfl ?_ ?_;rotate_left
   ·intro w hSw;(try dsimp only at hSw);go_simp
    all_goals with_reducible rfl
   try simp only[Act.put,tk1,tk2,tk3,tk4,tk5,tk6]
   refine tkY 11 ?_ rfl ?_ ?_;rotate_left
   ·intro w hSw;(try dsimp only at hSw);go_simp
    all_goals with_reducible rfl
   try simp only[Act.put,tk1,tk2,tk3,tk4,tk5,tk6]
   refine tkY 12 ?_ rfl ?_ ?_;rotate_left
   ·intro w hSw;(try dsimp only at hSw);go_simp
    all_goals with_reducible rfl
   try simp only[Act.put,tk1,tk2,tk3,tk4,tk5,tk6]
   refine tkY 13 ?_ rfl ?_ ?_;rotate_left
   ·intro w hSw;(try dsimp only at hSw);go_simp
    all_goals with_reducible rfl
   try simp only[Act.put,tk1,tk2,tk3,tk4,tk5,tk6]
   refine tkY 14 ?_ rfl ?_ ?_;rotate_left
   ·intro w hSw;(try dsimp only at hSw);go_simp
    all_goals with_reducible rfl
   try simp only[Act.put,tk1,tk2,tk3,tk4,tk5,tk6]
   refine tkY 15 ?_ rfl ?_ ?_;rotate_left
   ·intro w hSw;(try dsimp only at hSw);go_simp
    all_goals with_reducible rfl
   try simp only[Act.put,tk1,tk2,tk3,tk4,tk5,tk6]
   refine tkY 17 ?_ rfl ?_ ?_;rotate_left
   ·intro w hSw;(try dsimp only at hSw);go_simp
    all_goals with_reducible rfl
   try simp only[Act.put,tk1,tk2,tk3,tk4,tk5,tk6]
   refine wpAnyH_ready (rs:=[16]) (by kernel_rfl) (by simp) ?_;refine AllReadyH.cons rfl (fun K hK=>?_) AllReadyH.nil;go_simp;refine (HL.out _).mono ?_;rintro e w1 ⟨rfl,hb1⟩;simp only[Ra.v]
   go_wp2_with fail;refine hK.out _ _ ?_ (fun hHeld=>?_)
   ·exact HK.out _ _ (by assumption) hb1
   clear hK K
   try simp only[Act.put,tk1,tk2,tk3,tk4,tk5,tk6]
   refine tkY 18 (.bool dq) rfl ?_ ?_
   ·intro w hSw;(try dsimp only at hSw);go_simp;rw[←HDQ.out];exact eqRa_if (fun t=>Result.ok (Next.value (Value.bool t)) w) ⟨ln,lu,ld⟩ ⟨neg,num,den⟩
   try simp only[Act.put,tk1,tk2,tk3,tk4,tk5,tk6]
   refine tkY 19 ?_ rfl ?_ ?_;rotate_left
   ·intro w hSw;(try dsimp only at hSw);go_simp
    all_goals with_reducible rfl
   try simp only[Act.put,tk1,tk2,tk3,tk4,tk5,tk6]
   refine tkY 20 ?_ rfl ?_ ?_;rotate_left
   ·intro w hSw;(try dsimp only at hSw);go_simp
    all_goals with_reducible rfl
   try simp only[Act.put,tk1,tk2,tk3,tk4,tk5,tk6]
   refine wpAnyH_done (by kernel_rfl) ?_ _;refine NoPanic.normal ?_;go_wp2;go_ret;exact⟨by rw[HOK.out];rfl,bstep hba hHeld.2.2.2⟩
def ofI (n:Int):Ra:=⟨decide (n<0),nbs n.natAbs,nbs 1⟩
theorem natOf_one (w:World):Calls Tryz.prog 81 #[.int .i64 1] w fun e w'=>e=.returned (.string (nbs 1))∧Below w.heap.size w w':=natOf_any 1 w (by omega) (by omega)
set_option maxRecDepth 100000 in
set_option maxHeartbeats 800000 in
theorem qOf_any (n:Int) (w:World) (h0:-9223372036854775808≤n) (h1:n≤9223372036854775807):
  Calls Tryz.prog 65 #[.int .i64 n] w fun e w'=>e=.returned (ofI n).v∧Below w.heap.size w w':=by
 obtain⟨W,hW⟩:∃W,W=w.alloc (.cells #[.bool false,.string ⟨#[]⟩,.string ⟨#[]⟩] 46):=⟨_,rfl⟩
 have hba:Below w.heap.size w W:=by rw[hW];exact (Below.refl _ _).alloc (Nat.le_refl _) _
 have hblk:Blk W w.heap.size 46 [.bool false,.string ⟨#[]⟩,.string ⟨#[]⟩]:=by rw[hW];exact Blk.new w _ _
 by_cases hn:n<0
 ·have HO:Hid (ofI n=⟨true,nbs (n+1).natAbs.succ,nbs 1⟩):=by
   show _=_;unfold ofI;rw[decide_eq_true hn,show n.natAbs=(n+1).natAbs.succ from by omega]
  have HA:=Lib.hid (fun w=>natAdd_any (nbs (n+1).natAbs) (nbs 1) w (Nat.le_trans (nbs_size_le _ 9 (by omega)) (by omega)) (Nat.le_trans (nbs_size_le _ 9 (by omega)) (by omega)));rw[vbs_nbs,vbs_nbs] at HA;have hneg:IntKind.i64.wrap (-(n+1))= -(n+1):=IntWalk.i64_in _ (by omega);have hng:(-(n+1)).toNat=(n+1).natAbs:=by omega
  go_enter Tryz.func65,Tryz.ntmps65;go_wp2_with fail;simp only[←hW]
  clear hW;refine (natOf_any _ _ (by omega) (by omega)).mono ?_;rintro e w1 ⟨rfl,hb1⟩;go_wp2_with fail;refine (natOf_one _).mono ?_;rintro e w2 ⟨rfl,hb2⟩
  try rw[hng]
  go_wp2_with fail;refine (HA.out _).mono ?_;rintro e w3 ⟨rfl,hb3⟩;go_wp2_with fail;refine (natOf_one _).mono ?_;rintro e w4 ⟨rfl,hb4⟩;have hb14:=bstep (bstep (bstep hb1 hb2) hb3) hb4;have hk3:=hblk.below hb14 hblk.lt;have hc0:=hk3.cell (i:=0) (by decide);have hc1:=hk3.cell (i:=1) (by decide);have hc2:=hk3.cell (i:=2) (by decide);have hf0:=hk3.frozen 0;have hf1:=hk3.frozen 1;have hf2:=hk3.frozen 2;simp only[List.getElem_cons_zero,List.getElem_cons_succ] at hc0 hc1 hc2;have hbw:=bstep hba hb14;clear hb1 hb2 hb3 hb4 hb14;go_wp2;refine bodyPost_ret (v:=.agg #[.bool true,.string (nbs ((n+1).natAbs+1)),.string (nbs 1)]) (by simp[results,Tryz.results65,go_sem,hc0,hc1,hc2]) rfl ⟨?_,((hbw.setCell (Nat.le_refl _) _).setCell (Nat.le_refl _) _).setCell (Nat.le_refl _) _⟩;rw[HO.out];rfl
 ·have HO:Hid (ofI n=⟨false,nbs n.toNat,nbs 1⟩):=by
   show _=_;unfold ofI;rw[decide_eq_false hn,show n.natAbs=n.toNat from by omega]
  go_enter Tryz.func65,Tryz.ntmps65;go_wp2_with fail;simp only[←hW]
  clear hW;refine (natOf_any _ _ (by omega) (by omega)).mono ?_;rintro e w1 ⟨rfl,hb1⟩;go_wp2_with fail;refine (natOf_one _).mono ?_;rintro e w2 ⟨rfl,hb2⟩;have hb14:=bstep hb1 hb2;have hk3:=hblk.below hb14 hblk.lt;have hc0:=hk3.cell (i:=0) (by decide);have hc1:=hk3.cell (i:=1) (by decide);have hc2:=hk3.cell (i:=2) (by decide);have hf0:=hk3.frozen 0;have hf1:=hk3.frozen 1;have hf2:=hk3.frozen 2;simp only[List.getElem_cons_zero,List.getElem_cons_succ] at hc0 hc1 hc2;have hbw:=bstep hba hb14;clear hb1 hb2 hb14;go_wp2;refine bodyPost_ret (v:=.agg #[.bool false,.string (nbs n.toNat),.string (nbs 1)]) (by simp[results,Tryz.results65,go_sem,hc0,hc1,hc2]) rfl ⟨?_,((hbw.setCell (Nat.le_refl _) _).setCell (Nat.le_refl _) _).setCell (Nat.le_refl _) _⟩;rw[HO.out];rfl
def valR (a:Ra):Ra:=if okR a then a else ofI 0
structure Two (w:World) (t1 t2:TypeId) (l1 l2:List Value) (W:World):Prop where
 one:Blk W w.heap.size t1 l1
 two:Blk W (w.heap.size+1) t2 l2
 below:Below w.heap.size w W
 size:W.heap.size=w.heap.size+2
theorem Two.new (w:World) (t1 t2:TypeId) (cs1 cs2:Array Value):Two w t1 t2 cs1.toList cs2.toList ((w.alloc (.cells cs1 t1)).alloc (.cells cs2 t2)):=by
 have h1:(w.alloc (.cells cs1 t1)).heap.size=w.heap.size+1:=by show (w.heap.push _).size=_;rw[Array.size_push]
 have hb1:Below w.heap.size w (w.alloc (.cells cs1 t1)):=(Below.refl _ _).alloc (Nat.le_refl _) _;have hb2:Below (w.alloc (.cells cs1 t1)).heap.size (w.alloc (.cells cs1 t1)) ((w.alloc (.cells cs1 t1)).alloc (.cells cs2 t2)):=(Below.refl _ _).alloc (Nat.le_refl _) _;have k1:=Blk.new w t1 cs1;have k2:=Blk.new (w.alloc (.cells cs1 t1)) t2 cs2;rw[h1] at k2;exact⟨k1.below hb2 k1.lt,k2,bstep hb1 hb2,by show ((w.alloc (.cells cs1 t1)).heap.push _).size=_;rw[Array.size_push,h1]⟩
set_option maxRecDepth 100000 in
set_option maxHeartbeats 800000 in
theorem qvalue_any (a:Ra) (w:World) (hn:a.num.size≤536870912) (hd:a.den.size≤536870912):
  Calls Tryz.prog 79 #[a.v] w fun e w'=>e=.returned (valR a).v∧Below w.heap.size w w':=by
 have HR:=Lib.hid (fun w=>qRight_any a w hn hd);have HV:Hid (valR a=if okR a then a else ofI 0):=rfl;obtain⟨o,ho⟩:∃o,okR a=o:=⟨_,rfl⟩
 rw[ho] at HR HV;clear ho hn hd;generalize valR a=va at*;obtain⟨neg,num,den⟩:=a;unfold Ra.v at HR⊢;obtain⟨W,hW⟩:∃W,W=(w.alloc (.cells #[.bool neg,.string num,.string den] 46)).alloc (.cells #[.bool false,.string ⟨#[]⟩,.string ⟨#[]⟩] 46):=⟨_,rfl⟩
 have htwo:=Two.new w 46 46 #[.bool neg,.string num,.string den] #[.bool false,.string ⟨#[]⟩,.string ⟨#[]⟩];rw[←hW] at htwo;obtain⟨hblk1,hblk,hbw,hsz⟩:=htwo;have hl1:=hblk1.lt;have hl2:=hblk.lt;obtain⟨hd0,hd1,hd2⟩:=RaAt.of_blk (a:=⟨neg,num,den⟩) hblk1;simp only at hd0 hd1 hd2;obtain⟨B,hB⟩:∃B,B=w.heap.size:=⟨_,rfl⟩
 rw[←hB] at hd0 hd1 hd2 hblk hbw hsz hl1 hl2 hblk1;have HB:=Lib.hid hB
 have hr:∀w1,Below W.heap.size W w1→w1.cell? ⟨B,0,none⟩=some (.bool neg)∧w1.cell? ⟨B,1,none⟩=some (.string num)∧w1.cell? ⟨B,2,none⟩=some (.string den):=fun w1 hb=>by
  obtain⟨h0,h1,h2⟩:=RaAt.of_blk (a:=⟨neg,num,den⟩) (hblk1.below hb hl1);exact⟨h0,h1,h2⟩
 have HRD:=Lib.hid hr;clear hr;cases o
 all_goals
  go_enter Tryz.func79,Tryz.ntmps79;go_wp2_with fail;simp only[←hW,←hB]
  clear hW hB;refine (HR.out _).mono ?_;rintro e w1 ⟨rfl,hb1⟩;obtain⟨hd0,hd1,hd2⟩:=HRD.out w1 hb1;have hk1:=hblk.below hb1 hl2
 ·go_wp2_with fail;refine (qOf_any 0 _ (by omega) (by omega)).mono ?_;rintro e w2 ⟨rfl,hb2⟩;have hk2:=hk1.below hb2 hk1.lt;have hc0:=hk2.cell (i:=0) (by decide);have hc1:=hk2.cell (i:=1) (by decide);have hc2:=hk2.cell (i:=2) (by decide);have hf0:=hk2.frozen 0;have hf1:=hk2.frozen 1;have hf2:=hk2.frozen 2;simp only[List.getElem_cons_zero,List.getElem_cons_succ] at hc0 hc1 hc2;simp only[Ra.v,ofI]
  go_wp2;refine bodyPost_ret (v:=.agg #[.bool false,.string (nbs 0),.string (nbs 1)]) (by simp[results,Tryz.results79,go_sem,hc0,hc1,hc2]) rfl ⟨?_,?_⟩
  ·rw[HV.out];rfl
  ·have h1:Below B w w2:=hbw.trans ((bstep hb1 hb2).mono (by omega));rw[←HB.out];exact ((h1.setCell (Nat.le_succ _) _).setCell (Nat.le_succ _) _).setCell (Nat.le_succ _) _
 ·have hc0:=hk1.cell (i:=0) (by decide);have hc1:=hk1.cell (i:=1) (by decide);have hc2:=hk1.cell (i:=2) (by decide);have hf0:=hk1.frozen 0;have hf1:=hk1.frozen 1;have hf2:=hk1.frozen 2;simp only[List.getElem_cons_zero,List.getElem_cons_succ] at hc0 hc1 hc2;go_wp2;refine bodyPost_ret (v:=.agg #[.bool neg,.string num,.string den]) (by simp[results,Tryz.results79,go_sem,hc0,hc1,hc2]) rfl ⟨?_,?_⟩
  ·rw[HV.out];rfl
  ·have h1:Below B w w1:=hbw.trans (hb1.mono (by omega));rw[←HB.out];exact ((h1.setCell (Nat.le_succ _) _).setCell (Nat.le_succ _) _).setCell (Nat.le_succ _) _
def mkR (neg:Bool) (num den:ByteArray):Ra × Bool:=
 if rightS den&&decide (0<vbs den)&&rightS num then (low neg (vbs num) (vbs den),true) else (⟨false,⟨#[]⟩,⟨#[]⟩⟩,false)
set_option maxRecDepth 100000 in
set_option maxHeartbeats 800000 in
theorem qMake_any (neg:Bool) (num den:ByteArray) (w:World) (hn:num.size≤536870912) (hd:den.size≤536870912):
  Calls Tryz.prog 135 #[.bool neg,.string num,.string den] w fun e w'=>e=.returned (.tuple #[(mkR neg num den).1.v,.bool (mkR neg num den).2])∧Below w.heap.size w w':=by
 obtain⟨W,hW⟩:∃W,W=w.alloc (.cells #[.bool false,.string ⟨#[]⟩,.string ⟨#[]⟩] 46):=⟨_,rfl⟩
 have hba:Below w.heap.size w W:=by rw[hW];exact (Below.refl _ _).alloc (Nat.le_refl _) _
 have hblk:Blk W w.heap.size 46 [.bool false,.string ⟨#[]⟩,.string ⟨#[]⟩]:=by rw[hW];exact Blk.new w _ _
 have HP:=Lib.hid (fun w=>qpos_any den w (by omega));have HR:=Lib.hid (fun w=>natRight_any num w);have HM:Hid (mkR neg num den=if rightS den&&decide (0<vbs den)&&rightS num then (low neg (vbs num) (vbs den),true) else (⟨false,⟨#[]⟩,⟨#[]⟩⟩,false)):=rfl;cases hp:(rightS den&&decide (0<vbs den))
 ·rw[hp] at HP HM;clear hp;go_enter Tryz.func135,Tryz.ntmps135;go_wp2_with fail;simp only[←hW]
  clear hW;refine (HP.out _).mono ?_;rintro e w1 ⟨rfl,hb1⟩;have hk3:=hblk.below hb1 hblk.lt;have hc0:=hk3.cell (i:=0) (by decide);have hc1:=hk3.cell (i:=1) (by decide);have hc2:=hk3.cell (i:=2) (by decide);have hf0:=hk3.frozen 0;have hf1:=hk3.frozen 1;have hf2:=hk3.frozen 2;simp only[List.getElem_cons_zero,List.getElem_cons_succ] at hc0 hc1 hc2;have hbw:=bstep hba hb1;go_wp2;refine bodyPost_ret (v:=.tuple #[.agg #[.bool false,.string ⟨#[]⟩,.string ⟨#[]⟩],.bool false]) (by simp[results,Tryz.results135,go_sem,hc0,hc1,hc2]) rfl ⟨?_,((hbw.setCell (Nat.le_refl _) _).setCell (Nat.le_refl _) _).setCell (Nat.le_refl _) _⟩;rw[HM.out];rfl
 ·rw[hp] at HP HM;cases hr:rightS num
  ·rw[hr] at HR HM;clear hp hr;go_enter Tryz.func135,Tryz.ntmps135;go_wp2_with fail;simp only[←hW]
   clear hW;refine (HP.out _).mono ?_;rintro e w1 ⟨rfl,hb1⟩;go_wp2_with fail;refine (HR.out _).mono ?_;rintro e w2 ⟨rfl,rfl⟩;have hk3:=hblk.below hb1 hblk.lt;have hc0:=hk3.cell (i:=0) (by decide);have hc1:=hk3.cell (i:=1) (by decide);have hc2:=hk3.cell (i:=2) (by decide);have hf0:=hk3.frozen 0;have hf1:=hk3.frozen 1;have hf2:=hk3.frozen 2;simp only[List.getElem_cons_zero,List.getElem_cons_succ] at hc0 hc1 hc2;have hbw:=bstep hba hb1;go_wp2;refine bodyPost_ret (v:=.tuple #[.agg #[.bool false,.string ⟨#[]⟩,.string ⟨#[]⟩],.bool false]) (by simp[results,Tryz.results135,go_sem,hc0,hc1,hc2]) rfl ⟨?_,((hbw.setCell (Nat.le_refl _) _).setCell (Nat.le_refl _) _).setCell (Nat.le_refl _) _⟩;rw[HM.out];rfl
  ·rw[hr] at HR HM;rw[Bool.and_eq_true,decide_eq_true_eq] at hp;have en:=(rightS_iff num).1 hr;have ed:=(rightS_iff den).1 hp.1;have hvn:=vbs_lt num;have hvd:=vbs_lt den;obtain⟨K,hK⟩:∃K,K=536870912:=⟨_,rfl⟩
   have HL:=Lib.hid (fun w=>qlowest_any neg (vbs num) (vbs den) K w (Nat.le_of_eq hK) (vbs_le num K (by rw[hK];exact hn)) (vbs_le den K (by rw[hK];exact hd)) hp.2);clear hK;rw[←en,←ed] at HL;obtain⟨lw,hlw⟩:∃lw,low neg (vbs num) (vbs den)=lw:=⟨_,rfl⟩
   rw[hlw] at HL HM;obtain⟨ln,lu,ld⟩:=lw;clear hr hp en ed hvn hvd hlw;go_enter Tryz.func135,Tryz.ntmps135;go_wp2_with fail;simp only[←hW]
   clear hW;refine (HP.out _).mono ?_;rintro e w1 ⟨rfl,hb1⟩;go_wp2_with fail;refine (HR.out _).mono ?_;rintro e w2 ⟨rfl,rfl⟩;go_wp2_with fail;refine (HL.out _).mono ?_;rintro e w3 ⟨rfl,hb3⟩;have hb13:=bstep hb1 hb3;have hk3:=hblk.below hb13 hblk.lt;have hc0:=hk3.cell (i:=0) (by decide);have hc1:=hk3.cell (i:=1) (by decide);have hc2:=hk3.cell (i:=2) (by decide);have hf0:=hk3.frozen 0;have hf1:=hk3.frozen 1;have hf2:=hk3.frozen 2;simp only[List.getElem_cons_zero,List.getElem_cons_succ] at hc0 hc1 hc2;have hbw:=bstep hba hb13;simp only[Ra.v]
   go_wp2;refine bodyPost_ret (v:=.tuple #[.agg #[.bool ln,.string lu,.string ld],.bool true]) (by simp[results,Tryz.results135,go_sem,hc0,hc1,hc2]) rfl ⟨?_,((hbw.setCell (Nat.le_refl _) _).setCell (Nat.le_refl _) _).setCell (Nat.le_refl _) _⟩;rw[HM.out];rfl
def signR (a:Ra):Int:=if okR a then (if a=ofI 0 then 0 else if a.neg then-1 else 1) else 0
set_option maxRecDepth 100000 in
set_option maxHeartbeats 1600000 in
theorem qSign_any (a:Ra) (w:World) (hn:a.num.size≤536870912) (hd:a.den.size≤536870912):
  Calls Tryz.prog 57 #[a.v] w fun e w'=>e=.returned (.int .i64 (signR a))∧Below w.heap.size w w':=by
 have HR:=Lib.hid (fun w=>qRight_any a w hn hd);have HV:Hid (signR a=if okR a then (if a=ofI 0 then 0 else if a.neg then-1 else 1) else 0):=rfl;obtain⟨o,ho⟩:∃o,okR a=o:=⟨_,rfl⟩
 rw[ho] at HR HV;clear ho hn hd;obtain⟨z,hz⟩:∃z,signR a=z:=⟨_,rfl⟩
 rw[hz] at HV⊢;clear hz;obtain⟨neg,num,den⟩:=a;obtain⟨dq,hdq⟩:∃d,decide ((⟨neg,num,den⟩:Ra)=ofI 0)=d:=⟨_,rfl⟩
 have HDQ:=Lib.hid hdq;clear hdq
 have HZ:Hid (z=if o then (if dq then 0 else if neg then-1 else 1) else 0):=by
  show _=_;have h:=HV.out;rw[h,←HDQ.out];simp
 clear HV;unfold Ra.v at HR⊢;obtain⟨W,hW⟩:∃W,W=w.alloc (.cells #[.bool neg,.string num,.string den] 46):=⟨_,rfl⟩
 have hba:Below w.heap.size w W:=by rw[hW];exact (Below.refl _ _).alloc (Nat.le_refl _) _
 have hblk:Blk W w.heap.size 46 [.bool neg,.string num,.string den]:=by rw[hW];exact Blk.new w _ _
 obtain⟨B,hB⟩:∃B,B=w.heap.size:=⟨_,rfl⟩
 rw[←hB] at hblk;have hbs:B<W.heap.size:=hblk.lt;have hc:=RaAt.of_blk (a:=⟨neg,num,den⟩) hblk;obtain⟨hc0,hc1,hc2⟩:=hc
 have HK:Hid (∀w' w1:World,(w'.cell? ⟨B,0,none⟩=some (.bool neg)∧w'.cell? ⟨B,1,none⟩=some (.string num)∧w'.cell? ⟨B,2,none⟩=some (.string den)∧Below W.heap.size W w')→Below w'.heap.size w' w1→
   (w1.cell? ⟨B,0,none⟩=some (.bool neg)∧w1.cell? ⟨B,1,none⟩=some (.string num)∧w1.cell? ⟨B,2,none⟩=some (.string den)∧Below W.heap.size W w1)):=by
  rintro w' w1 ⟨h0,h1,h2,hb⟩ hb1;have hlt:B<w'.heap.size:=Nat.lt_of_lt_of_le hbs hb.size;exact⟨(hb1.cell hlt).trans h0,(hb1.cell hlt).trans h1,(hb1.cell hlt).trans h2,bstep hb hb1⟩
 have HS:Hid (W.drew.cell? ⟨B,0,none⟩=some (.bool neg)∧W.drew.cell? ⟨B,1,none⟩=some (.string num)∧W.drew.cell? ⟨B,2,none⟩=some (.string den)∧Below W.heap.size W W.drew):=
  ⟨hc0,hc1,hc2,below_drewN (Below.refl _ _) 1⟩
 clear hblk hc0 hc1 hc2;cases o
 ·go_enter Tryz.func57,Tryz.ntmps57;go_wp2_with fail;simp only[←hW,←hB]
  clear hW hB;refine wp_region_noPanic ?_;refine wp_region_held_drew (S:=fun w'=>w'.cell? ⟨B,0,none⟩=some (.bool neg)∧w'.cell? ⟨B,1,none⟩=some (.string num)∧w'.cell? ⟨B,2,none⟩=some (.string den)∧Below W.heap.size W w') (by kernel_rfl) HS.out (fun hHeld=>?_);refine tkY 0 ?_ rfl ?_ ?_;rotate_left
  ·intro w hSw;(try dsimp only at hSw);go_simp
   all_goals with_reducible rfl
  try simp only[Act.put,tk1,tk2,tk3,tk4,tk5,tk6]
  refine wpAnyH_ready (rs:=[1]) (by kernel_rfl) (by simp) ?_;refine AllReadyH.cons rfl (fun K hK=>?_) AllReadyH.nil;go_simp;refine (HR.out _).mono ?_;rintro e w1 ⟨rfl,hb1⟩;go_wp2_with fail;refine hK.out _ _ ?_ (fun hHeld=>?_)
  ·exact HK.out _ _ (by assumption) hb1
  clear hK K
  try simp only[Act.put,tk1,tk2,tk3,tk4,tk5,tk6]
  refine tkY 2 ?_ rfl ?_ ?_;rotate_left
  ·intro w hSw;(try dsimp only at hSw);go_simp
   all_goals with_reducible rfl
  try simp only[Act.put,tk1,tk2,tk3,tk4,tk5,tk6]
  refine tkY 3 ?_ rfl ?_ ?_;rotate_left
  ·intro w hSw;(try dsimp only at hSw);go_simp
   all_goals with_reducible rfl
  try simp only[Act.put,tk1,tk2,tk3,tk4,tk5,tk6]
  refine tkN 4 rfl ?_
  try simp only[Act.put,tk1,tk2,tk3,tk4,tk5,tk6]
  refine tkN 5 rfl ?_
  try simp only[Act.put,tk1,tk2,tk3,tk4,tk5,tk6]
  refine tkN 6 rfl ?_
  try simp only[Act.put,tk1,tk2,tk3,tk4,tk5,tk6]
  refine tkY 7 ?_ rfl ?_ ?_;rotate_left
  ·intro w hSw;(try dsimp only at hSw);go_simp
   all_goals with_reducible rfl
  try simp only[Act.put,tk1,tk2,tk3,tk4,tk5,tk6]
  refine tkY 8 ?_ rfl ?_ ?_;rotate_left
  ·intro w hSw;(try dsimp only at hSw);go_simp
   all_goals with_reducible rfl
  try simp only[Act.put,tk1,tk2,tk3,tk4,tk5,tk6]
  refine wpAnyH_done (by kernel_rfl) ?_ _;refine NoPanic.normal ?_;go_wp2;go_ret;exact⟨by rw[HZ.out];rfl,bstep hba hHeld.2.2.2⟩
 ·go_enter Tryz.func57,Tryz.ntmps57;go_wp2_with fail;simp only[←hW,←hB]
  clear hW hB;refine wp_region_noPanic ?_;refine wp_region_held_drew (S:=fun w'=>w'.cell? ⟨B,0,none⟩=some (.bool neg)∧w'.cell? ⟨B,1,none⟩=some (.string num)∧w'.cell? ⟨B,2,none⟩=some (.string den)∧Below W.heap.size W w') (by kernel_rfl) HS.out (fun hHeld=>?_);refine tkY 0 ?_ rfl ?_ ?_;rotate_left
  ·intro w hSw;(try dsimp only at hSw);go_simp
   all_goals with_reducible rfl
  try simp only[Act.put,tk1,tk2,tk3,tk4,tk5,tk6]
  refine wpAnyH_ready (rs:=[1]) (by kernel_rfl) (by simp) ?_;refine AllReadyH.cons rfl (fun K hK=>?_) AllReadyH.nil;go_simp;refine (HR.out _).mono ?_;rintro e w1 ⟨rfl,hb1⟩;go_wp2_with fail;refine hK.out _ _ ?_ (fun hHeld=>?_)
  ·exact HK.out _ _ (by assumption) hb1
  clear hK K
  try simp only[Act.put,tk1,tk2,tk3,tk4,tk5,tk6]
  refine tkY 2 ?_ rfl ?_ ?_;rotate_left
  ·intro w hSw;(try dsimp only at hSw);go_simp
   all_goals with_reducible rfl
  try simp only[Act.put,tk1,tk2,tk3,tk4,tk5,tk6]
  refine tkY 3 ?_ rfl ?_ ?_;rotate_left
  ·intro w hSw;(try dsimp only at hSw);go_simp
   all_goals with_reducible rfl
  try simp only[Act.put,tk1,tk2,tk3,tk4,tk5,tk6]
  refine tkY 4 ?_ rfl ?_ ?_;rotate_left
  ·intro w hSw;(try dsimp only at hSw);go_simp
   all_goals with_reducible rfl
  try simp only[Act.put,tk1,tk2,tk3,tk4,tk5,tk6]
  refine wpAnyH_ready (rs:=[5]) (by kernel_rfl) (by simp) ?_;refine AllReadyH.cons rfl (fun K hK=>?_) AllReadyH.nil;go_simp;refine (qOf_any 0 _ (by omega) (by omega)).mono ?_;rintro e w1 ⟨rfl,hb1⟩;simp only[Ra.v]
  go_wp2_with fail;refine hK.out _ _ ?_ (fun hHeld=>?_)
  ·exact HK.out _ _ (by assumption) hb1
  clear hK K
  try simp only[Act.put,tk1,tk2,tk3,tk4,tk5,tk6]
  refine tkY 6 (.bool dq) rfl ?_ ?_
  ·intro w hSw;(try dsimp only at hSw);go_simp;rw[←HDQ.out];exact eqRa_if (fun t=>Result.ok (Next.value (Value.bool t)) w) ⟨neg,num,den⟩ (ofI 0)
  try simp only[Act.put,tk1,tk2,tk3,tk4,tk5,tk6]
  refine tkY 7 ?_ rfl ?_ ?_;rotate_left
  ·intro w hSw;(try dsimp only at hSw);go_simp
   all_goals with_reducible rfl
  try simp only[Act.put,tk1,tk2,tk3,tk4,tk5,tk6]
  refine tkY 8 ?_ rfl ?_ ?_;rotate_left
  ·intro w hSw;(try dsimp only at hSw);go_simp
   all_goals with_reducible rfl
  try simp only[Act.put,tk1,tk2,tk3,tk4,tk5,tk6]
  refine wpAnyH_done (by kernel_rfl) ?_ _;refine NoPanic.normal ?_;obtain⟨hd0,hd1,hd2,hd3⟩:=hHeld;have HH:=Lib.hid hd3;clear hd3;cases dq
  ·cases neg
   ·go_wp2;go_ret;exact⟨by rw[HZ.out];rfl,bstep hba HH.out⟩
   ·go_wp2;go_ret;exact⟨by rw[HZ.out];rfl,bstep hba HH.out⟩
  ·go_wp2;go_ret;exact⟨by rw[HZ.out];rfl,bstep hba HH.out⟩
def textR (a:Ra):ByteArray:=
 let s:=if (valR a).neg then ⟨#[45]⟩++decS (vbs (valR a).num) else decS (vbs (valR a).num)
 if (valR a).den=nbs 1 then s else s++(⟨#[47]⟩++decS (vbs (valR a).den))
theorem beq_toList (a b:ByteArray):(a.toList==b.toList)=decide (a=b):=by
 rw[Bool.eq_iff_iff,beq_iff_eq,decide_eq_true_iff];exact⟨toList_inj,fun h=>by rw[h]⟩
theorem decS_size (n K:Nat) (hK:0<K) (h:n<256 ^ K):(decS n).size≤3*K:=dec_len_le n K hK h
theorem decS_small (s:ByteArray) (h:s.size≤1048576):(decS (vbs s)).size≤3145728:=by
 obtain⟨K,hK⟩:∃K,K=1048576:=⟨_,rfl⟩
 rw[←hK] at h;have:=decS_size (vbs s) K (by omega) (vbs_le s K h);omega
theorem valR_size (a:Ra) (K:Nat) (hK:0<K) (hn:a.num.size≤K) (hd:a.den.size≤K):(valR a).num.size≤K∧(valR a).den.size≤K:=by
 unfold valR;split
 ·exact⟨hn,hd⟩
 ·exact⟨Nat.zero_le _,hK⟩
set_option maxRecDepth 100000 in
set_option maxHeartbeats 1600000 in
theorem qText_any (a:Ra) (w:World) (hL:Laid w) (hn:a.num.size≤1048576) (hd:a.den.size≤1048576):
  Calls Tryz.prog 40 #[a.v] w fun e w'=>e=.returned (.string (textR a))∧Below w.heap.size w w':=by
 obtain⟨hvn,hvd⟩:=valR_size a 1048576 (by omega) hn hd;have HR:=Lib.hid (fun w=>qvalue_any a w (by omega) (by omega))
 have HT:Hid (textR a=(let s:=if (valR a).neg then ⟨#[45]⟩++decS (vbs (valR a).num) else decS (vbs (valR a).num)
  if (valR a).den=nbs 1 then s else s++(⟨#[47]⟩++decS (vbs (valR a).den)))):=rfl
 generalize textR a=tx at*;obtain⟨va,hva⟩:∃va,valR a=va:=⟨_,rfl⟩
 rw[hva] at HR HT hvn hvd;clear hva hn hd;obtain⟨vn,vu,vd⟩:=va;have HTN:=Lib.hid (fun w h=>natText_any vu w h hvn);have HTD:=Lib.hid (fun w h=>natText_any vd w h hvd);have hs1:(decS (vbs vu)).size≤3145728:=decS_small vu hvn;have hs2:(decS (vbs vd)).size≤3145728:=decS_small vd hvd;obtain⟨tn,htn⟩:∃t,decS (vbs vu)=t:=⟨_,rfl⟩
 obtain⟨td,htd⟩:∃t,decS (vbs vd)=t:=⟨_,rfl⟩
 simp only at HT;rw[htn] at hs1 HTN HT;rw[htd] at hs2 HTD HT;clear htn htd hvn hvd;obtain⟨de,hde⟩:∃d,decide (vd=nbs 1)=d:=⟨_,rfl⟩
 have HDE:=Lib.hid hde;clear hde;obtain⟨neg,num,den⟩:=a;unfold Ra.v at HR⊢;obtain⟨W,hW⟩:∃W,W=w.alloc (.cells #[.bool neg,.string num,.string den] 46):=⟨_,rfl⟩
 have hba:Below w.heap.size w W:=by rw[hW];exact (Below.refl _ _).alloc (Nat.le_refl _) _
 have hblk:Blk W w.heap.size 46 [.bool neg,.string num,.string den]:=by rw[hW];exact Blk.new w _ _
 obtain⟨B,hB⟩:∃B,B=w.heap.size:=⟨_,rfl⟩
 have HB:=Lib.hid hB;rw[←hB] at hblk hba;have hbs:B<W.heap.size:=hblk.lt;have HL:=Lib.hid hL;clear hL;cases vn
 ·go_enter Tryz.func40,Tryz.ntmps40;go_wp2_with fail;simp only[←hW,←hB]
  clear hW hB;refine (HR.out _).mono ?_;rintro e w1 ⟨rfl,hb1⟩;have hk1:=hblk.below hb1 hbs;have hc0:=hk1.cell (i:=0) (by simp);have hc1:=hk1.cell (i:=1) (by simp);have hc2:=hk1.cell (i:=2) (by simp);have hf0:=hk1.frozen 0;have hf1:=hk1.frozen 1;have hf2:=hk1.frozen 2;simp only[List.getElem_cons_zero,List.getElem_cons_succ] at hc0 hc1 hc2;go_wp2_with fail;have hk2:=((hk1.set 0 (.bool false)).set 1 (.string vu)).set 2 (.string vd);simp only[List.set_cons_zero,List.set_cons_succ] at hk2;have hb2:=(((hba.trans (hb1.mono (by omega))).setCell (show B≤(⟨B,0,none⟩:Addr).block from Nat.le_refl _) (.bool false)).setCell (show B≤(⟨B,1,none⟩:Addr).block from Nat.le_refl _) (.string vu)).setCell (show B≤(⟨B,2,none⟩:Addr).block from Nat.le_refl _) (.string vd);generalize ((w1.setCell ⟨B,0,none⟩ (.bool false)).setCell ⟨B,1,none⟩ (.string vu)).setCell ⟨B,2,none⟩ (.string vd)=w2 at*;clear hc0 hc1 hc2 hf0 hf1 hf2 hk1 hb1;have hl2:=HL.out.below (by rw[←HB.out];exact hb2);refine (HTN.out _ hl2).mono ?_;rintro e w3 ⟨rfl,hb3⟩;have hk3:=hk2.below hb3 hk2.lt;have hl3:=hl2.below hb3;have hbw3:Below B w w3:=hb2.trans (hb3.mono (Nat.le_of_lt hk2.lt));have hbs3:B<w3.heap.size:=hk3.lt;have HL3:=Lib.hid hl3;have HBW:=Lib.hid hbw3;clear hk2 hb2 hl2 hb3 hl3 hbw3 hbs;obtain⟨hc0,hc1,hc2⟩:=RaAt.of_blk (a:=⟨false,vu,vd⟩) hk3;simp only at hc0 hc1 hc2
  have HK:Hid (∀w' w1:World,(w'.cell? ⟨B,0,none⟩=some (.bool false)∧w'.cell? ⟨B,1,none⟩=some (.string vu)∧w'.cell? ⟨B,2,none⟩=some (.string vd)∧Below w3.heap.size w3 w')→Below w'.heap.size w' w1→
    (w1.cell? ⟨B,0,none⟩=some (.bool false)∧w1.cell? ⟨B,1,none⟩=some (.string vu)∧w1.cell? ⟨B,2,none⟩=some (.string vd)∧Below w3.heap.size w3 w1)):=by
   rintro w' w1 ⟨h0,h1,h2,hb⟩ hb1;have hlt:B<w'.heap.size:=Nat.lt_of_lt_of_le hbs3 hb.size;exact⟨(hb1.cell hlt).trans h0,(hb1.cell hlt).trans h1,(hb1.cell hlt).trans h2,bstep hb hb1⟩
  have HS:Hid (w3.drew.cell? ⟨B,0,none⟩=some (.bool false)∧w3.drew.cell? ⟨B,1,none⟩=some (.string vu)∧w3.drew.cell? ⟨B,2,none⟩=some (.string vd)∧Below w3.heap.size w3 w3.drew):=
   ⟨hc0,hc1,hc2,below_drewN (Below.refl _ _) 1⟩
  clear hk3;go_wp2_with fail;clear hc0 hc1 hc2;refine wp_region_noPanic ?_;refine wp_region_held_drew (S:=fun w'=>w'.cell? ⟨B,0,none⟩=some (.bool false)∧w'.cell? ⟨B,1,none⟩=some (.string vu)∧w'.cell? ⟨B,2,none⟩=some (.string vd)∧Below w3.heap.size w3 w') (by kernel_rfl) HS.out (fun hHeld=>?_);refine tkY 0 ?_ rfl ?_ ?_;rotate_left
  ·intro w hSw;(try dsimp only at hSw);go_simp
   all_goals with_reducible rfl
  try simp only[Act.put,tk1,tk2,tk3,tk4,tk5,tk6]
  refine tkY 1 ?_ rfl ?_ ?_;rotate_left
  ·intro w hSw;(try dsimp only at hSw);go_simp
   all_goals with_reducible rfl
  try simp only[Act.put,tk1,tk2,tk3,tk4,tk5,tk6]
  refine wpAnyH_ready (rs:=[2]) (by kernel_rfl) (by simp) ?_;refine AllReadyH.cons rfl (fun K hK=>?_) AllReadyH.nil;go_simp;refine (natOf_one _).mono ?_;rintro e w1 ⟨rfl,hb1⟩;go_wp2_with fail;refine hK.out _ _ ?_ (fun hHeld=>?_)
  ·exact HK.out _ _ (by assumption) hb1
  clear hK K
  try simp only[Act.put,tk1,tk2,tk3,tk4,tk5,tk6]
  refine tkY 3 (.bool (!de)) rfl ?_ ?_
  ·intro w hSw;(try dsimp only at hSw);go_simp;rw[←HDE.out];exact beq_toList _ _
  try simp only[Act.put,tk1,tk2,tk3,tk4,tk5,tk6]
  refine wpAnyH_done (by kernel_rfl) ?_ _;refine NoPanic.normal ?_;obtain⟨hd0,hd1,hd2,hd3⟩:=hHeld;have HH:=Lib.hid hd3;clear hd3;cases de
  ·go_wp2_with fail;refine (HTD.out _ (HL3.out.below HH.out)).mono ?_;rintro e w5 ⟨rfl,hb5⟩;go_wp2;go_ret;refine⟨?_,?_⟩
   ·have h:=HT.out;rw[if_neg (of_decide_eq_false HDE.out)] at h;rw[h];rfl
   ·have h:=HBW.out.trans ((bstep HH.out hb5).mono (Nat.le_of_lt hbs3));rw[←HB.out];exact h
  ·go_wp2;go_ret;refine⟨?_,?_⟩
   ·have h:=HT.out;rw[if_pos (of_decide_eq_true HDE.out)] at h;rw[h];rfl
   ·have h:=HBW.out.trans (HH.out.mono (Nat.le_of_lt hbs3));rw[←HB.out];exact h
 ·go_enter Tryz.func40,Tryz.ntmps40;go_wp2_with fail;simp only[←hW,←hB]
  clear hW hB;refine (HR.out _).mono ?_;rintro e w1 ⟨rfl,hb1⟩;have hk1:=hblk.below hb1 hbs;have hc0:=hk1.cell (i:=0) (by simp);have hc1:=hk1.cell (i:=1) (by simp);have hc2:=hk1.cell (i:=2) (by simp);have hf0:=hk1.frozen 0;have hf1:=hk1.frozen 1;have hf2:=hk1.frozen 2;simp only[List.getElem_cons_zero,List.getElem_cons_succ] at hc0 hc1 hc2;go_wp2_with fail;have hk2:=((hk1.set 0 (.bool true)).set 1 (.string vu)).set 2 (.string vd);simp only[List.set_cons_zero,List.set_cons_succ] at hk2;have hb2:=(((hba.trans (hb1.mono (by omega))).setCell (show B≤(⟨B,0,none⟩:Addr).block from Nat.le_refl _) (.bool true)).setCell (show B≤(⟨B,1,none⟩:Addr).block from Nat.le_refl _) (.string vu)).setCell (show B≤(⟨B,2,none⟩:Addr).block from Nat.le_refl _) (.string vd);generalize ((w1.setCell ⟨B,0,none⟩ (.bool true)).setCell ⟨B,1,none⟩ (.string vu)).setCell ⟨B,2,none⟩ (.string vd)=w2 at*;clear hc0 hc1 hc2 hf0 hf1 hf2 hk1 hb1;have hl2:=HL.out.below (by rw[←HB.out];exact hb2);refine (HTN.out _ hl2).mono ?_;rintro e w3 ⟨rfl,hb3⟩;have hk3:=hk2.below hb3 hk2.lt;have hl3:=hl2.below hb3;have hbw3:Below B w w3:=hb2.trans (hb3.mono (Nat.le_of_lt hk2.lt));have hbs3:B<w3.heap.size:=hk3.lt;have HL3:=Lib.hid hl3;have HBW:=Lib.hid hbw3;clear hk2 hb2 hl2 hb3 hl3 hbw3 hbs;obtain⟨hc0,hc1,hc2⟩:=RaAt.of_blk (a:=⟨true,vu,vd⟩) hk3;simp only at hc0 hc1 hc2
  have HK:Hid (∀w' w1:World,(w'.cell? ⟨B,0,none⟩=some (.bool true)∧w'.cell? ⟨B,1,none⟩=some (.string vu)∧w'.cell? ⟨B,2,none⟩=some (.string vd)∧Below w3.heap.size w3 w')→Below w'.heap.size w' w1→
    (w1.cell? ⟨B,0,none⟩=some (.bool true)∧w1.cell? ⟨B,1,none⟩=some (.string vu)∧w1.cell? ⟨B,2,none⟩=some (.string vd)∧Below w3.heap.size w3 w1)):=by
   rintro w' w1 ⟨h0,h1,h2,hb⟩ hb1;have hlt:B<w'.heap.size:=Nat.lt_of_lt_of_le hbs3 hb.size;exact⟨(hb1.cell hlt).trans h0,(hb1.cell hlt).trans h1,(hb1.cell hlt).trans h2,bstep hb hb1⟩
  have HS:Hid (w3.drew.cell? ⟨B,0,none⟩=some (.bool true)∧w3.drew.cell? ⟨B,1,none⟩=some (.string vu)∧w3.drew.cell? ⟨B,2,none⟩=some (.string vd)∧Below w3.heap.size w3 w3.drew):=
   ⟨hc0,hc1,hc2,below_drewN (Below.refl _ _) 1⟩
  clear hk3;go_wp2_with fail;clear hc0 hc1 hc2;refine wp_region_noPanic ?_;refine wp_region_held_drew (S:=fun w'=>w'.cell? ⟨B,0,none⟩=some (.bool true)∧w'.cell? ⟨B,1,none⟩=some (.string vu)∧w'.cell? ⟨B,2,none⟩=some (.string vd)∧Below w3.heap.size w3 w') (by kernel_rfl) HS.out (fun hHeld=>?_);refine tkY 0 ?_ rfl ?_ ?_;rotate_left
  ·intro w hSw;(try dsimp only at hSw);go_simp
   all_goals with_reducible rfl
  try simp only[Act.put,tk1,tk2,tk3,tk4,tk5,tk6]
  refine tkY 1 ?_ rfl ?_ ?_;rotate_left
  ·intro w hSw;(try dsimp only at hSw);go_simp
   all_goals with_reducible rfl
  try simp only[Act.put,tk1,tk2,tk3,tk4,tk5,tk6]
  refine wpAnyH_ready (rs:=[2]) (by kernel_rfl) (by simp) ?_;refine AllReadyH.cons rfl (fun K hK=>?_) AllReadyH.nil;go_simp;refine (natOf_one _).mono ?_;rintro e w1 ⟨rfl,hb1⟩;go_wp2_with fail;refine hK.out _ _ ?_ (fun hHeld=>?_)
  ·exact HK.out _ _ (by assumption) hb1
  clear hK K
  try simp only[Act.put,tk1,tk2,tk3,tk4,tk5,tk6]
  refine tkY 3 (.bool (!de)) rfl ?_ ?_
  ·intro w hSw;(try dsimp only at hSw);go_simp;rw[←HDE.out];exact beq_toList _ _
  try simp only[Act.put,tk1,tk2,tk3,tk4,tk5,tk6]
  refine wpAnyH_done (by kernel_rfl) ?_ _;refine NoPanic.normal ?_;obtain⟨hd0,hd1,hd2,hd3⟩:=hHeld;have HH:=Lib.hid hd3;clear hd3;cases de
  ·go_wp2_with fail;refine (HTD.out _ (HL3.out.below HH.out)).mono ?_;rintro e w5 ⟨rfl,hb5⟩;go_wp2;go_ret;refine⟨?_,?_⟩
   ·have h:=HT.out;rw[if_neg (of_decide_eq_false HDE.out)] at h;rw[h];rfl
   ·have h:=HBW.out.trans ((bstep HH.out hb5).mono (Nat.le_of_lt hbs3));rw[←HB.out];exact h
  ·go_wp2;go_ret;refine⟨?_,?_⟩
   ·have h:=HT.out;rw[if_pos (of_decide_eq_true HDE.out)] at h;rw[h];rfl
   ·have h:=HBW.out.trans (HH.out.mono (Nat.le_of_lt hbs3));rw[←HB.out];exact h
def cutR (s:List UInt8):Bool × List UInt8 × List UInt8:=
 let c:=Lib.cut (Lib.trimPrefix s [45]) [47]
 (Lib.hasPrefix s [45],c.1,if c.2.2 then c.2.1 else [49])
def ratParse (s:ByteArray):Ra × Bool:=
 let c:=cutR s.data.toList
 let n:=natParse c.2.1
 let d:=natParse c.2.2
 let m:=mkR c.1 n.1 d.1
 if n.2&&d.2&&m.2&&decide (textR m.1=s) then (m.1,true) else (⟨false,⟨#[]⟩,⟨#[]⟩⟩,false)
theorem trimPrefix_len (s p:List UInt8):(Lib.trimPrefix s p).length≤s.length:=by
 unfold Lib.trimPrefix;split
 ·simp
 ·exact Nat.le_refl _
theorem cut_len (s p:List UInt8):(Lib.cut s p).1.length≤s.length∧(Lib.cut s p).2.1.length≤s.length:=by
 unfold Lib.cut;split<;>simp<;>omega
theorem natParse_size (l:List UInt8):(natParse l).1.size≤l.length:=by
 unfold natParse;split
 ·next h=>
  simp only[parseOk,Bool.and_eq_true] at h;refine nbs_size_le _ _ (Nat.lt_of_lt_of_le (decVal_lt l h.2) (Nat.pow_le_pow_left (by omega) _))
 ·show 0≤_;omega
theorem low_size (neg:Bool) (n d K:Nat) (hn:n<256 ^ K) (hd:d<256 ^ K):(low neg n d).num.size≤K∧(low neg n d).den.size≤K:=
 ⟨nbs_size_le _ _ (Nat.lt_of_le_of_lt (Nat.div_le_self _ _) hn),nbs_size_le _ _ (Nat.lt_of_le_of_lt (Nat.div_le_self _ _) hd)⟩
theorem mkR_size (neg:Bool) (n d:ByteArray) (K:Nat) (hn:n.size≤K) (hd:d.size≤K):(mkR neg n d).1.num.size≤K∧(mkR neg n d).1.den.size≤K:=by
 unfold mkR;split
 ·exact low_size _ _ _ _ (Nat.lt_of_lt_of_le (vbs_lt n) (Nat.pow_le_pow_right (by omega) hn)) (Nat.lt_of_lt_of_le (vbs_lt d) (Nat.pow_le_pow_right (by omega) hd))
 ·exact⟨Nat.zero_le _,Nat.zero_le _⟩
theorem Blk.cells {w:World} {b:Nat} {t:TypeId} {cs:List Value} (h:Blk w b t cs):∀i,w.cell? ⟨b,i,none⟩=cs[i]?:=by
 intro i;unfold Blk at h;simp[World.cell?,h]
theorem Blk.froz {w:World} {b:Nat} {t:TypeId} {cs:List Value} (h:Blk w b t cs):∀i,w.frozen? ⟨b,i,none⟩=false:=fun i=>h.frozen i
theorem below_set3 {B:Nat} {w w':World} (h:Below B w w') (x y z:Value):Below B w (((w'.setCell ⟨B,0,none⟩ x).setCell ⟨B,1,none⟩ y).setCell ⟨B,2,none⟩ z):=
 ((h.setCell (p:=⟨B,0,none⟩) (Nat.le_refl _) _).setCell (p:=⟨B,1,none⟩) (Nat.le_refl _) _).setCell (p:=⟨B,2,none⟩) (Nat.le_refl _) _
theorem Laid.drewN {w:World} (h:Laid w) (n:Nat):Laid (w.drewN n):=h.below (drewN_below _ _ _)
set_option maxRecDepth 100000 in
set_option maxHeartbeats 1600000 in
theorem qParse_any (s:ByteArray) (w:World) (hL:Laid w) (hs:s.size≤1048576):
  Calls Tryz.prog 103 #[.string s] w fun e w'=>e=.returned (.tuple #[(ratParse s).1.v,.bool (ratParse s).2])∧Below w.heap.size w w':=by
 have hP:∀c,cutR s.data.toList=c→∀n,natParse c.2.1=n→∀d,natParse c.2.2=d→∀m,mkR c.1 n.1 d.1=m→
   ratParse s=if n.2&&d.2&&m.2&&decide (textR m.1=s) then (m.1,true) else (⟨false,⟨#[]⟩,⟨#[]⟩⟩,false):=by
  rintro c rfl n rfl d rfl m rfl;rfl
 unfold cutR at hP;have HCP:∀w:World,Calls Tryz.prog 133 #[.string s,.string ⟨#[45]⟩] w fun e w'=>e=.returned (.tuple #[.string ⟨(Lib.trimPrefix s.data.toList [45]).toArray⟩,.bool (Lib.hasPrefix s.data.toList [45])])∧w'=w:=fun w=>Tryz.strings_CutPrefix s ⟨#[45]⟩ w
 have hrl:=trimPrefix_len s.data.toList [45];generalize Lib.hasPrefix s.data.toList [45]=neg at*;generalize Lib.trimPrefix s.data.toList [45]=rest at*;have hrl':rest.length≤1048576:=Nat.le_trans hrl (by simpa using hs)
 have HC:∀(w:World) (m:Int),w.cell? ⟨2,0,none⟩=some (.int .i64 m)→Calls Tryz.prog 34 #[.string ⟨rest.toArray⟩,.string ⟨#[47]⟩] w fun e w'=>e=.returned (.tuple #[.string ⟨(Lib.cut rest [47]).1.toArray⟩,.string ⟨(Lib.cut rest [47]).2.1.toArray⟩,.bool (Lib.cut rest [47]).2.2])∧∃n,w'=w.drewN n:=
  fun w m h=>Tryz.strings_Cut ⟨rest.toArray⟩ ⟨#[47]⟩ m w (by show rest.length<_;omega) h
 obtain⟨hnl,hdl⟩:=cut_len rest [47];generalize Lib.cut rest [47]=ct at*;obtain⟨nu,de0,fnd⟩:=ct;simp only at hP HC hnl hdl;have HCP:=Lib.hid HCP;have HC:=Lib.hid HC;obtain⟨de,hde⟩:∃d,(if fnd then de0 else [49])=d:=⟨_,rfl⟩
 have hdel:de.length≤1048576:=by subst hde;cases fnd<;>simp<;>omega
 rw[hde] at hP;obtain⟨⟨pn,bn⟩,hpn⟩:∃n,natParse nu=n:=⟨_,rfl⟩
 obtain⟨⟨pd,bd⟩,hpd⟩:∃n,natParse de=n:=⟨_,rfl⟩
 obtain⟨⟨m,bm⟩,hm⟩:∃n,mkR neg pn pd=n:=⟨_,rfl⟩
 have HP:=Lib.hid (hP _ rfl _ hpn _ hpd _ hm);have hpns:=natParse_size nu;have hpds:=natParse_size de;have hms:=mkR_size neg pn pd 1048576 (by rw[hpn] at hpns;simp only at hpns;omega) (by rw[hpd] at hpds;simp only at hpds;omega);rw[hpn] at hpns;rw[hpd] at hpds;rw[hm] at hms;simp only at hpns hpds hms
 have HN:Hid (∀W,Calls Tryz.prog 134 #[.string ⟨nu.toArray⟩] W fun e w'=>e=.returned (.tuple #[.string pn,.bool bn])∧Below W.heap.size W w'):=fun W=>
  (natParse_any ⟨nu.toArray⟩ W (by show nu.length≤_;omega)).mono (by
    rintro e w' ⟨rfl,hb⟩;exact⟨by show Ending.returned (.tuple #[.string (natParse nu).1,.bool (natParse nu).2])=_;rw[hpn],hb⟩)
 have HD:Hid (∀W,Calls Tryz.prog 134 #[.string ⟨de.toArray⟩] W fun e w'=>e=.returned (.tuple #[.string pd,.bool bd])∧Below W.heap.size W w'):=fun W=>
  (natParse_any ⟨de.toArray⟩ W (by show de.length≤_;omega)).mono (by
    rintro e w' ⟨rfl,hb⟩;exact⟨by show Ending.returned (.tuple #[.string (natParse de).1,.bool (natParse de).2])=_;rw[hpd],hb⟩)
 have HM:=Lib.hid (fun W=>qMake_any neg pn pd W (by omega) (by omega));rw[hm] at HM;have HT:=Lib.hid (fun W hL=>qText_any m W hL hms.1 hms.2);obtain⟨d,hd⟩:∃d,decide (textR m=s)=d:=⟨_,rfl⟩
 generalize textR m=tx at*;rw[hd] at HP;have e1:(tx.toList==s.toList)=d:=by rw[beq_toList,hd]
 have e2:(tx.toList !=s.toList)= !d:=by rw[←e1];rfl
 clear hP hpn hpd hm hpns hpds hms hrl hrl' hnl hdl hdel hs hd;obtain⟨mn,mu,md⟩:=m;unfold Ra.v at HM HT;simp only at HM HT HP;obtain⟨W,hW⟩:∃W,W=w.alloc (.cells #[.bool false,.string ⟨#[]⟩,.string ⟨#[]⟩] 46):=⟨_,rfl⟩
 have hba:Below w.heap.size w W:=by rw[hW];exact (Below.refl _ _).alloc (Nat.le_refl _) _
 have hblk:Blk W w.heap.size 46 [.bool false,.string ⟨#[]⟩,.string ⟨#[]⟩]:=by rw[hW];exact Blk.new w _ _
 obtain⟨B,hB⟩:∃B,B=w.heap.size:=⟨_,rfl⟩
 rw[←hB] at hblk;have HB:=Lib.hid hB;have hLW:=hL.below hba;obtain⟨ml,hml⟩:=hLW.cut.2;have HLW:=Lib.hid hLW;have HML:=Lib.hid hml;have HBA:=Lib.hid hba;have HBK:=Lib.hid hblk;clear hL hLW hml hba hblk;cases fnd
 all_goals
  simp only[if_true,if_false,Bool.false_eq_true] at hde;subst hde;go_enter Tryz.func103,Tryz.ntmps103;go_wp2_with fail;simp only[←hW,←hB]
  clear hW hB;refine (HCP.out _).mono ?_;rintro e w1 ⟨rfl,rfl⟩;go_wp2_with fail;refine (HC.out _ ml HML.out).mono ?_;rintro e w2 ⟨rfl,nn,rfl⟩;go_wp2_with fail;refine (HN.out _).mono ?_;rintro e w3 ⟨rfl,hb3⟩;go_wp2_with fail;refine (HD.out _).mono ?_;rintro e w4 ⟨rfl,hb4⟩;go_wp2_with fail;refine (HM.out _).mono ?_;rintro e w5 ⟨rfl,hb5⟩;have hbw:=bstep (bstep (bstep (drewN_below _ w1 nn) hb3) hb4) hb5;have hk5:=HBK.out.below hbw HBK.out.lt;have hl5:=HLW.out.below hbw;have hkB:=hk5.alloc (.cells #[.bool mn,.string mu,.string md] 46);have hc:=hkB.cells;have hf:=hkB.froz;have hl6:=hl5.below ((Below.refl _ _).alloc (Nat.le_refl _) (.cells #[.bool mn,.string mu,.string md] 46));have hkA:=Blk.new w5 46 #[.bool mn,.string mu,.string md];have hB5:Below B w (w5.alloc (.cells #[.bool mn,.string mu,.string md] 46)):=by rw[HB.out];exact (bstep HBA.out hbw).alloc (by have:=HBA.out.size;have:=hbw.size;omega) _
  have HBB:=Lib.hid hB5;have HAA:=Lib.hid hkA;have HKB:=Lib.hid hkB;clear hbw hb3 hb4 hb5 hk5 hkA hB5 hkB hl5;cases bn<;>cases bd<;>cases bm
  all_goals
   go_wp2_with fail
   first
   |(refine bodyPost_ret (v:=.tuple #[.agg #[.bool false,.string ⟨#[]⟩,.string ⟨#[]⟩],.bool false]) (by simp[results,Tryz.results103,go_sem,hc]) rfl ⟨?_,?_⟩
     ·rw[HP.out];rfl
     ·rw[←HB.out];exact below_set3 HBB.out _ _ _)
   |(refine (HT.out _ hl6).mono ?_
     rintro e w7 ⟨rfl,hb7⟩;clear hc hf;have hkB:=HKB.out.below hb7 HKB.out.lt;have hkA:=HAA.out.below hb7 HAA.out.lt;have hbw:=HBB.out.trans (hb7.mono (Nat.le_of_lt HKB.out.lt));have hc:=hkB.cells;have hf:=hkB.froz;have hcA:=hkA.cells;have HBB:=Lib.hid hbw;clear hkA hkB hb7 hbw hl6;cases d
     all_goals
      go_wp2_with fail;refine bodyPost_ret (v:=.tuple #[(ratParse s).1.v,.bool (ratParse s).2]) (by rw[HP.out];simp[results,Tryz.results103,go_sem,hc,Ra.v]) rfl ⟨rfl,?_⟩;rw[←HB.out];exact below_set3 HBB.out _ _ _)
structure Three (w:World) (t1 t2 t3:TypeId) (l1 l2 l3:List Value) (W:World):Prop where
 one:Blk W w.heap.size t1 l1
 two:Blk W (w.heap.size+1) t2 l2
 three:Blk W (w.heap.size+2) t3 l3
 below:Below w.heap.size w W
 size:W.heap.size=w.heap.size+3
theorem Three.new (w:World) (t1 t2 t3:TypeId) (cs1 cs2 cs3:Array Value):Three w t1 t2 t3 cs1.toList cs2.toList cs3.toList (((w.alloc (.cells cs1 t1)).alloc (.cells cs2 t2)).alloc (.cells cs3 t3)):=by
 obtain⟨h1,h2,h3,h4⟩:=Two.new w t1 t2 cs1 cs2;have k:=Blk.new ((w.alloc (.cells cs1 t1)).alloc (.cells cs2 t2)) t3 cs3;rw[h4] at k;exact⟨h1.alloc _,h2.alloc _,k,h3.alloc (by omega) _,by show (Array.push _ _).size=_;rw[Array.size_push,h4]⟩
end Go.Proofs.YtfajelpcfnfjkaaGreatDoor
