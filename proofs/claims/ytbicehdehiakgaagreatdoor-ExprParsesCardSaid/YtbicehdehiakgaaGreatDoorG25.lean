/- A part of the proof: Ea S4 S5 S6 S7 Gc Gd Ge Eb Ec Ed Ee Ef Eg L1 Gm Lh. -/
import Derived.Lib.UnsafeStr
import Derived.Lib.AppendStr
import Derived.Lib.Builder
import Derived.Laws.Externs
import Derived.Shelf.Strings.SlTrimAscii
import Derived.Test.YtbicehdehiakgaaGreatDoorG18
import Derived.Test.YtbicehdehiakgaaGreatDoorG23
set_option linter.unusedVariables false
set_option linter.unusedSimpArgs false
namespace Go.Proofs.YtbicehdehiakgaaGreatDoor
open Go.RowKit
set_option maxHeartbeats 1000000 in
set_option maxRecDepth 100000 in
theorem cc_used (b:Nat) (w:World) (h0:w.cell? ⟨b,0,none⟩=some (.pointer (some ⟨b,0,none⟩))):
  Calls Tryz.prog 121 #[.pointer (some ⟨b,0,none⟩)] w fun e w'=>e=.returned (.tuple #[])∧w'=w:=by
 obtain⟨j,hj,_⟩:=Option.map_eq_some_iff.1 (show (Tryz.prog.info? 91).map (·.size)=some 2 by kernel_rfl);go_enter Tryz.func121,Tryz.ntmps121;go_wp2;rw[Lib.run_neq_ptr_same w _ Tryz.underlying88 hj];go_wp2;go_end0;exact⟨rfl,rfl⟩
set_option maxHeartbeats 1000000 in
set_option maxRecDepth 100000 in
theorem cc_fresh (b:Nat) (w:World) (h0:w.cell? ⟨b,0,none⟩=some (.pointer none)) (hsh:w.shape? b=some (91,2)) (hfz:w.frozen? ⟨b,0,none⟩=false):
  Calls Tryz.prog 121 #[.pointer (some ⟨b,0,none⟩)] w fun e w'=>e=.returned (.tuple #[])∧w'=w.setCell ⟨b,0,none⟩ (.pointer (some ⟨b,0,none⟩)):=by
 obtain⟨j,hj,hjs⟩:=Option.map_eq_some_iff.1 (show (Tryz.prog.info? 91).map (·.size)=some 2 by kernel_rfl);go_enter Tryz.func121,Tryz.ntmps121;go_wp2;rw[Lib.run_to_unsafe w ⟨b,0,none⟩ Tryz.underlying88 Tryz.underlying181 hj (by rw[hjs];decide) hsh (Nat.zero_lt_succ 1)];simp only[Result.andThen]
 rw[Oper.upon_value];go_wp2;rw[run_callFunc_extern Tryz.func160 (by kernel_rfl) (by kernel_rfl) (by kernel_rfl) (e:=Extern.AbiNoEscape.same) (by kernel_rfl)];rw[Lib.run_noEscape];simp only[Result.andThen]
 rw[Oper.upon_value];go_wp2;rw[Lib.run_from_unsafe w ⟨b,0,none⟩ Tryz.underlying181 Tryz.underlying88 hj hsh (by kernel_rfl)];simp only[Result.andThen]
 rw[Oper.upon_value];go_wp2;go_end0;exact⟨rfl,rfl⟩
theorem tmod_ways (a m:Int) (hm:0<m):(0≤a.tmod m∧a % m=a.tmod m)∨(a.tmod m<0∧a % m=a.tmod m+m):=by
 by_cases ha:0≤a
 ·left
  rw[Int.tmod_eq_emod_of_nonneg ha];exact⟨Int.emod_nonneg _ (by omega),rfl⟩
 ·have h1:a.tmod m= -((-a) % m):=by
   have h2:=Int.neg_tmod (-a) m;rw[Int.neg_neg] at h2;rw[h2,Int.tmod_eq_emod_of_nonneg (show 0≤ -a by omega)]
  rw[h1];have hr0:=Int.emod_nonneg (-a) (show m≠0 by omega);have hr1:=Int.emod_lt_of_pos (-a) hm;have hd:=Int.mul_ediv_add_emod (-a) m;generalize (-a) % m=r at*;generalize (-a) / m=q at*;by_cases hz:r=0
  ·left
   refine⟨by omega,?_⟩;have:a=m*(-q):=by rw[Int.mul_neg];omega
   rw[this,Int.mul_emod_right];omega
  ·right
   refine⟨by omega,?_⟩;have:a=(m-r)+m*(-q-1):=by rw[Int.mul_sub,Int.mul_neg,Int.mul_one];omega
   rw[this,Int.add_mul_emod_self_left,Int.emod_eq_of_lt (by omega) (by omega)];omega
set_option maxHeartbeats 800000 in
theorem sMod_any (a m:Int) (w:World) (h0:-9223372036854775808≤a) (h1:a≤9223372036854775807) (hm:0<m) (hm2:m≤9223372036854775807):
  Calls Tryz.prog 30 #[.int .i64 a,.int .i64 m] w fun e w'=>e=.returned (.int .i64 (a % m))∧w=w':=by
 have hb:-9223372036854775808≤a.tmod m∧a.tmod m≤9223372036854775807:=by
  have h2:=Int.emod_nonneg a (show m≠0 by omega);have h3:=Int.emod_lt_of_pos a hm;rcases tmod_ways a m hm with⟨h4,h5⟩|⟨h4,h5⟩<;>omega
 have hmz:(m==0)=false:=by rw[beq_eq_false_iff_ne];omega
 have hmz':¬m=0:=by omega
 have hw:IntKind.i64.wrap (a.tmod m)=a.tmod m:=IntWalk.i64_in _ (by omega);have hlt:=Int.emod_lt_of_pos a hm;rcases tmod_ways a m hm with⟨h4,h5⟩|⟨h4,h5⟩
 ·have HV:=Lib.hid h5;clear h5 hlt;go_enter Tryz.func30,Tryz.ntmps30;go_wp2;go_ret;exact⟨by rw[HV.out];rfl,rfl⟩
 ·have HV:=Lib.hid h5;have h6:=Int.emod_nonneg a (show m≠0 by omega);have hw2:IntKind.i64.wrap (a.tmod m+m)=a.tmod m+m:=IntWalk.i64_in _ (by omega);clear h5 hlt h6;go_enter Tryz.func30,Tryz.ntmps30;go_wp2;go_ret;exact⟨by rw[HV.out];rfl,rfl⟩
def madeN (q0 q1 q2:Int):Nat × Nat:=
 if q2 % 4=1 then ((q0 % 4611686018427387904).toNat,(1+q1 % 4611686018427387904).toNat)
 else if q2 % 4=2 then ((q0 % 4611686018427387904).toNat*(q1 % 4611686018427387904).toNat,(1+q1 % 4611686018427387904).toNat*(1+q0 % 2147483648).toNat)
 else if q2 % 4=3 then ((q0 % 7).toNat,(1+q1 % 7).toNat)
 else ((q0 % 1000).toNat,(1+q1 % 60).toNat)
def madeR (q0 q1 q2:Int):Ra:=low (decide (q0<0)) (madeN q0 q1 q2).1 (madeN q0 q1 q2).2
theorem mod_in (a:Int) (m:Int) (hm:0<m):0≤a % m∧a % m<m:=⟨Int.emod_nonneg _ (by omega),Int.emod_lt_of_pos _ hm⟩
theorem mul_lt_of {a b c d:Nat} (h1:a<c) (h2:b<d):a*b<c*d:=Nat.mul_lt_mul_of_lt_of_lt h1 h2
theorem madeN_lt (q0 q1 q2:Int):(madeN q0 q1 q2).1<256 ^ 16∧(madeN q0 q1 q2).2<256 ^ 16∧0<(madeN q0 q1 q2).2:=by
 obtain⟨a0,a1⟩:=mod_in q0 4611686018427387904 (by omega);obtain⟨b0,b1⟩:=mod_in q1 4611686018427387904 (by omega);obtain⟨c0,c1⟩:=mod_in q0 2147483648 (by omega);obtain⟨d0,d1⟩:=mod_in q0 7 (by omega);obtain⟨e0,e1⟩:=mod_in q1 7 (by omega);obtain⟨f0,f1⟩:=mod_in q0 1000 (by omega);obtain⟨g0,g1⟩:=mod_in q1 60 (by omega);unfold madeN;split
 ·refine⟨?_,?_,?_⟩<;>simp only<;>omega
 ·split
  ·simp only
   have h1:=mul_lt_of (show (q0 % 4611686018427387904).toNat<4611686018427387904 from by omega) (show (q1 % 4611686018427387904).toNat<4611686018427387904 from by omega);have h2:=mul_lt_of (show (1+q1 % 4611686018427387904).toNat<4611686018427387905 from by omega) (show (1+q0 % 2147483648).toNat<2147483649 from by omega);refine⟨Nat.lt_of_lt_of_le h1 (by decide),Nat.lt_of_lt_of_le h2 (by decide),Nat.mul_pos (by omega) (by omega)⟩
  ·split
   ·refine⟨?_,?_,?_⟩<;>simp only<;>omega
   ·refine⟨?_,?_,?_⟩<;>simp only<;>omega
set_option maxRecDepth 100000 in
set_option maxHeartbeats 3200000 in
theorem sMade_any (q0 q1 q2:Int) (w:World) (h0:-9223372036854775808≤q0∧q0≤9223372036854775807) (h1:-9223372036854775808≤q1∧q1≤9223372036854775807) (h2:-9223372036854775808≤q2∧q2≤9223372036854775807):
  Calls Tryz.prog 31 #[.agg #[.int .i64 q0,.int .i64 q1,.int .i64 q2]] w fun e w'=>e=.returned (madeR q0 q1 q2).v∧Below w.heap.size w w':=by
 obtain⟨n1,n2,n3⟩:=madeN_lt q0 q1 q2
 have hM:∀(a:Int) (m:Int),-9223372036854775808≤a∧a≤9223372036854775807→0<m→m≤9223372036854775807→∀W:World,Calls Tryz.prog 30 #[.int .i64 a,.int .i64 m] W fun e w'=>e=.returned (.int .i64 (a % m))∧W=w':=
  fun a m ha h3 h4 W=>sMod_any a m W ha.1 ha.2 h3 h4
 have HMK:=Lib.hid (hM q0 1000 h0 (by omega) (by omega));have HMS:=Lib.hid (hM q1 60 h1 (by omega) (by omega));have HM4:=Lib.hid (hM q2 4 h2 (by omega) (by omega));have HA:=Lib.hid (hM q0 4611686018427387904 h0 (by omega) (by omega));have HBq:=Lib.hid (hM q1 4611686018427387904 h1 (by omega) (by omega));have HCq:=Lib.hid (hM q0 2147483648 h0 (by omega) (by omega));have HD:=Lib.hid (hM q0 7 h0 (by omega) (by omega));have HE:=Lib.hid (hM q1 7 h1 (by omega) (by omega));obtain⟨a0,a1⟩:=mod_in q0 4611686018427387904 (by omega);obtain⟨b0,b1⟩:=mod_in q1 4611686018427387904 (by omega);obtain⟨c0,c1⟩:=mod_in q0 2147483648 (by omega);obtain⟨d0,d1⟩:=mod_in q0 7 (by omega);obtain⟨e0,e1⟩:=mod_in q1 7 (by omega);obtain⟨f0,f1⟩:=mod_in q0 1000 (by omega);obtain⟨g0,g1⟩:=mod_in q1 60 (by omega);obtain⟨z0,z1⟩:=mod_in q2 4 (by omega);have hMD:madeN q0 q1 q2=if q2 % 4=1 then ((q0 % 4611686018427387904).toNat,(1+q1 % 4611686018427387904).toNat) else if q2 % 4=2 then ((q0 % 4611686018427387904).toNat*(q1 % 4611686018427387904).toNat,(1+q1 % 4611686018427387904).toNat*(1+q0 % 2147483648).toNat) else if q2 % 4=3 then ((q0 % 7).toNat,(1+q1 % 7).toNat) else ((q0 % 1000).toNat,(1+q1 % 60).toNat):=rfl
 have hMR:madeR q0 q1 q2=low (decide (q0<0)) (madeN q0 q1 q2).1 (madeN q0 q1 q2).2:=rfl;have HLW:=Lib.hid (fun W=>slowest_any (decide (q0<0)) (madeN q0 q1 q2).1 (madeN q0 q1 q2).2 16 W (by omega) n1 n2 n3);rw[←hMR] at HLW;generalize madeR q0 q1 q2=mr at*;generalize madeN q0 q1 q2=mn at*;generalize q0 % 1000=xk at*;generalize q1 % 60=xs at*;generalize q2 % 4=z at*;generalize q0 % 4611686018427387904=xa at*;generalize q1 % 4611686018427387904=xb at*;generalize q0 % 2147483648=xc at*;generalize q0 % 7=xd at*;generalize q1 % 7=xe at*;obtain⟨m1,m2⟩:=mn;obtain⟨rn,ru,rd⟩:=mr;unfold Ra.v at HLW⊢;simp only at HLW;clear n1 n2 n3 hM hMR h0 h1 h2;obtain⟨W,hW⟩:∃W,W=(w.alloc (.cells #[.int .i64 q0,.int .i64 q1,.int .i64 q2] 57)).alloc (.cells #[.bool false,.string ⟨#[]⟩,.string ⟨#[]⟩] 31):=⟨_,rfl⟩
 have htwo:=Two.new w 57 31 #[.int .i64 q0,.int .i64 q1,.int .i64 q2] #[.bool false,.string ⟨#[]⟩,.string ⟨#[]⟩];rw[←hW] at htwo;obtain⟨hk0,hk1,hba,hsz⟩:=htwo;obtain⟨B,hB⟩:∃B,B=w.heap.size:=⟨_,rfl⟩
 have HB:=Lib.hid hB;rw[←hB] at hba hsz hk0 hk1;have hc0:=hk0.cells;have HMD:=Lib.hid hMD;clear hMD;have hz:z=0∨z=1∨z=2∨z=3:=by omega
 clear z0 z1;rcases hz with rfl|rfl|rfl|rfl
 ·go_enter Tryz.func31,Tryz.ntmps31;go_wp2_with fail;simp only[←hW,←hB]
  clear hW hB;refine (HMK.out _).mono ?_;rintro e w' ⟨rfl,rfl⟩;go_wp2_with fail;refine (rOf_any _ _ (by omega) (by omega)).mono ?_;rintro e w1 ⟨rfl,hb1⟩;have ha1:=hk0.below hb1 hk0.lt;have hr1:=hk1.below hb1 hk1.lt;have hB1:Below B w w1:=hba.trans (hb1.mono (Nat.le_of_lt hk0.lt));have hc1:=ha1.cells;clear hc0 hb1;go_wp2_with fail;refine (HMS.out _).mono ?_;rintro e w' ⟨rfl,rfl⟩;go_wp2_with fail;refine (rOf_any _ _ (by omega) (by omega)).mono ?_;rintro e w2 ⟨rfl,hb2⟩;have ha2:=ha1.below hb2 ha1.lt;have hr2:=hr1.below hb2 hr1.lt;have hB2:Below B w w2:=hB1.trans (hb2.mono (Nat.le_of_lt ha1.lt));have hc2:=ha2.cells;clear hc1 hb2 ha1 hr1 hB1;go_wp2_with fail;refine (HM4.out _).mono ?_;rintro e w' ⟨rfl,rfl⟩;have hm:(m1,m2)=(xk.toNat,(1+xs).toNat):=HMD.out;injection hm with hm1 hm2;have HM1:=Lib.hid hm1;have HM2:=Lib.hid hm2;clear hm1 hm2
  have HLW2:Hid (∀W:World,Calls Tryz.prog 67 #[.bool (decide (q0<0)),.string (nbs (xk.toNat)),.string (nbs ((1+xs).toNat))] W fun e w'=>e=.returned (.agg #[.bool rn,.string ru,.string rd])∧Below W.heap.size W w'):=by
   show ∀W,_;rw[←HM1.out,←HM2.out];exact HLW.out
  go_wp2_with fail;refine (HLW2.out _).mono ?_;rintro e w9 ⟨rfl,hb9⟩;have hr9:=hr2.below hb9 hr2.lt;have HB9:=Lib.hid (hB2.trans (hb9.mono (Nat.le_of_lt ha2.lt)));have hc9:=hr9.cells;have hf9:=hr9.froz;clear hb9 ha2 hr2 hB2 hc2;go_wp2;refine bodyPost_ret (v:=.agg #[.bool rn,.string ru,.string rd]) (by simp[results,Tryz.results31,go_sem,hc9]) rfl ⟨rfl,?_⟩;rw[←HB.out];exact below_at HB9.out (Nat.le_succ _) _ _ _
 ·go_enter Tryz.func31,Tryz.ntmps31;go_wp2_with fail;simp only[←hW,←hB]
  clear hW hB;refine (HMK.out _).mono ?_;rintro e w' ⟨rfl,rfl⟩;go_wp2_with fail;refine (rOf_any _ _ (by omega) (by omega)).mono ?_;rintro e w1 ⟨rfl,hb1⟩;have ha1:=hk0.below hb1 hk0.lt;have hr1:=hk1.below hb1 hk1.lt;have hB1:Below B w w1:=hba.trans (hb1.mono (Nat.le_of_lt hk0.lt));have hc1:=ha1.cells;clear hc0 hb1;go_wp2_with fail;refine (HMS.out _).mono ?_;rintro e w' ⟨rfl,rfl⟩;go_wp2_with fail;refine (rOf_any _ _ (by omega) (by omega)).mono ?_;rintro e w2 ⟨rfl,hb2⟩;have ha2:=ha1.below hb2 ha1.lt;have hr2:=hr1.below hb2 hr1.lt;have hB2:Below B w w2:=hB1.trans (hb2.mono (Nat.le_of_lt ha1.lt));have hc2:=ha2.cells;clear hc1 hb2 ha1 hr1 hB1;go_wp2_with fail;refine (HM4.out _).mono ?_;rintro e w' ⟨rfl,rfl⟩;go_wp2_with fail;refine (HA.out _).mono ?_;rintro e w' ⟨rfl,rfl⟩;go_wp2_with fail;refine (rOf_any _ _ (by omega) (by omega)).mono ?_;rintro e w3 ⟨rfl,hb3⟩;have ha3:=ha2.below hb3 ha2.lt;have hr3:=hr2.below hb3 hr2.lt;have hB3:Below B w w3:=hB2.trans (hb3.mono (Nat.le_of_lt ha2.lt));have hc3:=ha3.cells;clear hc2 hb3 ha2 hr2 hB2;go_wp2_with fail;refine (HBq.out _).mono ?_;rintro e w' ⟨rfl,rfl⟩;go_wp2_with fail;refine (rOf_any _ _ (by omega) (by omega)).mono ?_;rintro e w4 ⟨rfl,hb4⟩;have ha4:=ha3.below hb4 ha3.lt;have hr4:=hr3.below hb4 hr3.lt;have hB4:Below B w w4:=hB3.trans (hb4.mono (Nat.le_of_lt ha3.lt));have hc4:=ha4.cells;clear hc3 hb4 ha3 hr3 hB3;have hm:(m1,m2)=(xa.toNat,(1+xb).toNat):=HMD.out;injection hm with hm1 hm2;have HM1:=Lib.hid hm1;have HM2:=Lib.hid hm2;clear hm1 hm2
  have HLW2:Hid (∀W:World,Calls Tryz.prog 67 #[.bool (decide (q0<0)),.string (nbs (xa.toNat)),.string (nbs ((1+xb).toNat))] W fun e w'=>e=.returned (.agg #[.bool rn,.string ru,.string rd])∧Below W.heap.size W w'):=by
   show ∀W,_;rw[←HM1.out,←HM2.out];exact HLW.out
  go_wp2_with fail;refine (HLW2.out _).mono ?_;rintro e w9 ⟨rfl,hb9⟩;have hr9:=hr4.below hb9 hr4.lt;have HB9:=Lib.hid (hB4.trans (hb9.mono (Nat.le_of_lt ha4.lt)));have hc9:=hr9.cells;have hf9:=hr9.froz;clear hb9 ha4 hr4 hB4 hc4;go_wp2;refine bodyPost_ret (v:=.agg #[.bool rn,.string ru,.string rd]) (by simp[results,Tryz.results31,go_sem,hc9]) rfl ⟨rfl,?_⟩;rw[←HB.out];exact below_at HB9.out (Nat.le_succ _) _ _ _
 ·go_enter Tryz.func31,Tryz.ntmps31;go_wp2_with fail;simp only[←hW,←hB]
  clear hW hB;refine (HMK.out _).mono ?_;rintro e w' ⟨rfl,rfl⟩;go_wp2_with fail;refine (rOf_any _ _ (by omega) (by omega)).mono ?_;rintro e w1 ⟨rfl,hb1⟩;have ha1:=hk0.below hb1 hk0.lt;have hr1:=hk1.below hb1 hk1.lt;have hB1:Below B w w1:=hba.trans (hb1.mono (Nat.le_of_lt hk0.lt));have hc1:=ha1.cells;clear hc0 hb1;go_wp2_with fail;refine (HMS.out _).mono ?_;rintro e w' ⟨rfl,rfl⟩;go_wp2_with fail;refine (rOf_any _ _ (by omega) (by omega)).mono ?_;rintro e w2 ⟨rfl,hb2⟩;have ha2:=ha1.below hb2 ha1.lt;have hr2:=hr1.below hb2 hr1.lt;have hB2:Below B w w2:=hB1.trans (hb2.mono (Nat.le_of_lt ha1.lt));have hc2:=ha2.cells;clear hc1 hb2 ha1 hr1 hB1;go_wp2_with fail;refine (HM4.out _).mono ?_;rintro e w' ⟨rfl,rfl⟩
  have HK:Hid (∀w' w1:World,((∀i,w'.cell? ⟨B,i,none⟩=([.int .i64 q0,.int .i64 q1,.int .i64 q2]:List Value)[i]?)∧Blk w' (B+1) 31 [.bool false,.string ⟨#[]⟩,.string ⟨#[]⟩]∧B<w'.heap.size∧Below B w w')→Below w'.heap.size w' w1→
    ((∀i,w1.cell? ⟨B,i,none⟩=([.int .i64 q0,.int .i64 q1,.int .i64 q2]:List Value)[i]?)∧Blk w1 (B+1) 31 [.bool false,.string ⟨#[]⟩,.string ⟨#[]⟩]∧B<w1.heap.size∧Below B w w1)):=by
   rintro w' w1 ⟨h0,h1,h2,h3⟩ hb1;exact⟨fun i=>(hb1.cell h2).trans (h0 i),h1.below hb1 h1.lt,Nat.lt_of_lt_of_le h2 hb1.size,h3.trans (hb1.mono (Nat.le_of_lt h2))⟩
  have HS:Hid ((∀i,w2.drew.cell? ⟨B,i,none⟩=([.int .i64 q0,.int .i64 q1,.int .i64 q2]:List Value)[i]?)∧Blk w2.drew (B+1) 31 [.bool false,.string ⟨#[]⟩,.string ⟨#[]⟩]∧B<w2.drew.heap.size∧Below B w w2.drew):=
   ⟨ha2.cells,hr2,ha2.lt,below_drewN hB2 1⟩
  clear ha2 hr2 hB2 hc2;go_wp2_with fail
  go_region_held3 (fun w'=>(∀i,w'.cell? ⟨B,i,none⟩=([.int .i64 q0,.int .i64 q1,.int .i64 q2]:List Value)[i]?)∧Blk w' (B+1) 31 [.bool false,.string ⟨#[]⟩,.string ⟨#[]⟩]∧B<w'.heap.size∧Below B w w') (first|exact HS.out|exact HK.out _ _ (by assumption) hb1|assumption)
   ((first|(go_at_call 30;(with_reducible refine (HA.out _).mono ?_);rintro e w1 ⟨rfl,rfl⟩)|(go_at_call 30;(with_reducible refine (HBq.out _).mono ?_);rintro e w1 ⟨rfl,rfl⟩)|(go_at_call 65;refine (rOf_any _ _ (by omega) (by omega)).mono ?_;rintro e w1 ⟨rfl,hb1⟩)|(go_at_call 66;refine (rMul_any _ _ _ (Nat.le_trans (nbs_size_le _ 9 (by omega)) (by omega)) (Nat.le_trans (nbs_size_le _ 9 (by omega)) (by omega))).mono ?_;rintro e w1 ⟨rfl,hb1⟩)))
  rename_i hH;simp only[vbs_nbs]
  have HS2:Hid ((∀i,w1.drew.cell? ⟨B,i,none⟩=([.int .i64 q0,.int .i64 q1,.int .i64 q2]:List Value)[i]?)∧Blk w1.drew (B+1) 31 [.bool false,.string ⟨#[]⟩,.string ⟨#[]⟩]∧B<w1.drew.heap.size∧Below B w w1.drew):=
   ⟨hH.1,hH.2.1,hH.2.2.1,below_drewN hH.2.2.2 1⟩
  clear hH HS;obtain⟨w5,hw5⟩:∃x:World,x=w1:=⟨_,rfl⟩
  rw[←hw5] at HS2;rw[←hw5];clear hw5;go_wp2_with fail;have hwb:IntKind.i64.wrap (1+xb)=1+xb:=IntWalk.i64_in _ (by omega);have hwc:IntKind.i64.wrap (1+xc)=1+xc:=IntWalk.i64_in _ (by omega)
  go_region_held3 (fun w'=>(∀i,w'.cell? ⟨B,i,none⟩=([.int .i64 q0,.int .i64 q1,.int .i64 q2]:List Value)[i]?)∧Blk w' (B+1) 31 [.bool false,.string ⟨#[]⟩,.string ⟨#[]⟩]∧B<w'.heap.size∧Below B w w') (first|exact HS2.out|exact HK.out _ _ (by assumption) hb1|assumption)
   ((first|(go_at_call 30;(with_reducible refine (HBq.out _).mono ?_);rintro e w1 ⟨rfl,rfl⟩)|(go_at_call 30;(with_reducible refine (HCq.out _).mono ?_);rintro e w1 ⟨rfl,rfl⟩)|(go_at_call 65;refine (rOf_any _ _ (by omega) (by omega)).mono ?_;rintro e w1 ⟨rfl,hb1⟩)|(go_at_call 66;refine (rMul_any _ _ _ (Nat.le_trans (nbs_size_le _ 9 (by omega)) (by omega)) (Nat.le_trans (nbs_size_le _ 9 (by omega)) (by omega))).mono ?_;rintro e w1 ⟨rfl,hb1⟩)))
  rename_i hH;clear hwb hwc;simp only[vbs_nbs]
  obtain⟨w6,hw6⟩:∃x:World,x=w1:=⟨_,rfl⟩
  rw[←hw6] at hH;rw[←hw6];clear hw6;obtain⟨hc6,hr6,hlt6,hB6⟩:=hH;have ha6:=hlt6;have hm:(m1,m2)=(xa.toNat*xb.toNat,(1+xb).toNat*(1+xc).toNat):=HMD.out;injection hm with hm1 hm2;have HM1:=Lib.hid hm1;have HM2:=Lib.hid hm2;clear hm1 hm2
  have HLW2:Hid (∀W:World,Calls Tryz.prog 67 #[.bool (decide (q0<0)),.string (nbs (xa.toNat*xb.toNat)),.string (nbs ((1+xb).toNat*(1+xc).toNat))] W fun e w'=>e=.returned (.agg #[.bool rn,.string ru,.string rd])∧Below W.heap.size W w'):=by
   show ∀W,_;rw[←HM1.out,←HM2.out];exact HLW.out
  go_wp2_with fail;refine (HLW2.out _).mono ?_;rintro e w9 ⟨rfl,hb9⟩;have hr9:=hr6.below hb9 hr6.lt;have HB9:=Lib.hid (hB6.trans (hb9.mono (Nat.le_of_lt hlt6)));have hc9:=hr9.cells;have hf9:=hr9.froz;clear hb9 hlt6 ha6 hr6 hB6 hc6;go_wp2;refine bodyPost_ret (v:=.agg #[.bool rn,.string ru,.string rd]) (by simp[results,Tryz.results31,go_sem,hc9]) rfl ⟨rfl,?_⟩;rw[←HB.out];exact below_at HB9.out (Nat.le_succ _) _ _ _
 ·go_enter Tryz.func31,Tryz.ntmps31;go_wp2_with fail;simp only[←hW,←hB]
  clear hW hB;refine (HMK.out _).mono ?_;rintro e w' ⟨rfl,rfl⟩;go_wp2_with fail;refine (rOf_any _ _ (by omega) (by omega)).mono ?_;rintro e w1 ⟨rfl,hb1⟩;have ha1:=hk0.below hb1 hk0.lt;have hr1:=hk1.below hb1 hk1.lt;have hB1:Below B w w1:=hba.trans (hb1.mono (Nat.le_of_lt hk0.lt));have hc1:=ha1.cells;clear hc0 hb1;go_wp2_with fail;refine (HMS.out _).mono ?_;rintro e w' ⟨rfl,rfl⟩;go_wp2_with fail;refine (rOf_any _ _ (by omega) (by omega)).mono ?_;rintro e w2 ⟨rfl,hb2⟩;have ha2:=ha1.below hb2 ha1.lt;have hr2:=hr1.below hb2 hr1.lt;have hB2:Below B w w2:=hB1.trans (hb2.mono (Nat.le_of_lt ha1.lt));have hc2:=ha2.cells;clear hc1 hb2 ha1 hr1 hB1;go_wp2_with fail;refine (HM4.out _).mono ?_;rintro e w' ⟨rfl,rfl⟩;go_wp2_with fail;refine (HD.out _).mono ?_;rintro e w' ⟨rfl,rfl⟩;go_wp2_with fail;refine (rOf_any _ _ (by omega) (by omega)).mono ?_;rintro e w3 ⟨rfl,hb3⟩;have ha3:=ha2.below hb3 ha2.lt;have hr3:=hr2.below hb3 hr2.lt;have hB3:Below B w w3:=hB2.trans (hb3.mono (Nat.le_of_lt ha2.lt));have hc3:=ha3.cells;clear hc2 hb3 ha2 hr2 hB2;go_wp2_with fail;refine (HE.out _).mono ?_;rintro e w' ⟨rfl,rfl⟩;go_wp2_with fail;refine (rOf_any _ _ (by omega) (by omega)).mono ?_;rintro e w4 ⟨rfl,hb4⟩;have ha4:=ha3.below hb4 ha3.lt;have hr4:=hr3.below hb4 hr3.lt;have hB4:Below B w w4:=hB3.trans (hb4.mono (Nat.le_of_lt ha3.lt));have hc4:=ha4.cells;clear hc3 hb4 ha3 hr3 hB3;have hm:(m1,m2)=(xd.toNat,(1+xe).toNat):=HMD.out;injection hm with hm1 hm2;have HM1:=Lib.hid hm1;have HM2:=Lib.hid hm2;clear hm1 hm2
  have HLW2:Hid (∀W:World,Calls Tryz.prog 67 #[.bool (decide (q0<0)),.string (nbs (xd.toNat)),.string (nbs ((1+xe).toNat))] W fun e w'=>e=.returned (.agg #[.bool rn,.string ru,.string rd])∧Below W.heap.size W w'):=by
   show ∀W,_;rw[←HM1.out,←HM2.out];exact HLW.out
  go_wp2_with fail;refine (HLW2.out _).mono ?_;rintro e w9 ⟨rfl,hb9⟩;have hr9:=hr4.below hb9 hr4.lt;have HB9:=Lib.hid (hB4.trans (hb9.mono (Nat.le_of_lt ha4.lt)));have hc9:=hr9.cells;have hf9:=hr9.froz;clear hb9 ha4 hr4 hB4 hc4;go_wp2;refine bodyPost_ret (v:=.agg #[.bool rn,.string ru,.string rd]) (by simp[results,Tryz.results31,go_sem,hc9]) rfl ⟨rfl,?_⟩;rw[←HB.out];exact below_at HB9.out (Nat.le_succ _) _ _ _
def centR:Ra:=(mkR false (nbs 1) (nbs 100)).1
set_option maxRecDepth 100000 in
set_option maxHeartbeats 800000 in
theorem sCent_any (w:World):Calls Tryz.prog 70 #[] w fun e w'=>e=.returned centR.v∧Below w.heap.size w w':=by
 have HM:=Lib.hid (fun W=>sMake_any false (nbs 1) (nbs 100) W (by decide) (by decide));have HC:Hid (centR=(mkR false (nbs 1) (nbs 100)).1):=rfl;generalize mkR false (nbs 1) (nbs 100)=mk at*;generalize centR=c at*;obtain⟨⟨mn,mu,md⟩,mb⟩:=mk;unfold Ra.v at HM⊢;simp only at HM HC;obtain⟨W,hW⟩:∃W,W=w.alloc (.cells #[.bool false,.string ⟨#[]⟩,.string ⟨#[]⟩] 31):=⟨_,rfl⟩
 have hba:Below w.heap.size w W:=by rw[hW];exact (Below.refl _ _).alloc (Nat.le_refl _) _
 have hk0:Blk W w.heap.size 31 [.bool false,.string ⟨#[]⟩,.string ⟨#[]⟩]:=by rw[hW];exact Blk.new w _ _
 have hsz:W.heap.size=w.heap.size+1:=by rw[hW];exact Array.size_push _
 obtain⟨B,hB⟩:∃B,B=w.heap.size:=⟨_,rfl⟩
 have HB:=Lib.hid hB;rw[←hB] at hba hsz hk0;go_enter Tryz.func70,Tryz.ntmps70;go_wp2_with fail;simp only[←hW,←hB]
 clear hW hB;refine (rOf_one _).mono ?_;rintro e w1 ⟨rfl,hb1⟩;go_wp2_with fail;refine (rOf_any 100 _ (by omega) (by omega)).mono ?_;rintro e w2 ⟨rfl,hb2⟩;go_wp2_with fail;refine (HM.out _).mono ?_;rintro e w3 ⟨rfl,hb3⟩;have hb:=bstep (bstep hb1 hb2) hb3;have hk:=(hk0.below hb hk0.lt).alloc (.cells #[.bool mn,.string mu,.string md] 31);have hc:=hk.cells;have hf:=hk.froz;have HBW:Hid (Below B w (w3.alloc (.cells #[.bool mn,.string mu,.string md] 31))):=(hba.trans (hb.mono (Nat.le_of_lt hk0.lt))).alloc (by have:=hb.size;have:=hk0.lt;omega) _;clear hb1 hb2 hb3 hb hk hba;go_wp2;refine bodyPost_ret (v:=.agg #[.bool mn,.string mu,.string md]) (by simp[results,Tryz.results70,go_sem,hc]) rfl ⟨by rw[HC.out],?_⟩;rw[←HB.out];exact below_set3 HBW.out _ _ _
def stepR (q0 q1 q2:Int):Ra:=
 let a:=if (madeR q0 q1 q2).neg then negR (madeR q0 q1 q2) else madeR q0 q1 q2
 if signR a=0 then centR else a
def pool:List (List UInt8):=[[97],[98],[116,97,120],[119,97,103,101],[120,95,49],[97,50,51,52,53,54,55,56,57,48,49,50,51,52,53,54,55,56,57,48]]
def poolS (k:Int):ByteArray:=⟨(pool.getD (k % 6).toNat []).toArray⟩
def poolC:List Value:=pool.map fun s=>.string ⟨s.toArray⟩
set_option maxRecDepth 100000 in
set_option maxHeartbeats 800000 in
theorem gPool_any (n:Int) (w:World) (h0:-9223372036854775808≤n∧n≤9223372036854775807):
  Calls Tryz.prog 26 #[.int .i64 n] w fun e w'=>e=.returned (.string (poolS n))∧Below w.heap.size w w':=by
 have HM:=Lib.hid (fun W=>sMod_any n 6 W h0.1 h0.2 (by omega) (by omega));have HP:Hid (poolS n=⟨(pool.getD (n % 6).toNat []).toArray⟩):=rfl;obtain⟨z0,z1⟩:=mod_in n 6 (by omega);generalize n % 6=z at*;obtain⟨k,rfl⟩:∃k:Nat,z=k:=⟨z.toNat,by omega⟩
 rw[Int.toNat_natCast] at HP;generalize poolS n=p at*;have h3:k<6:=by omega
 have hk:poolC[k]?=some (.string p):=by
  rw[HP.out];unfold poolC;rw[List.getElem?_map,List.getD_eq_getElem?_getD,List.getElem?_eq_getElem (show k<pool.length from h3)];rfl
 have hcell:∀W:World,(W.alloc (.cells poolC.toArray 9)).cell? ⟨W.heap.size,k,none⟩=some (.string p):=fun W=>by
  have:=(Blk.new W 9 poolC.toArray).cells k;rw[this];simpa using hk
 unfold poolC at hcell;simp only[pool,List.map_cons,List.map_nil] at hcell;clear hk h3 h0 HP;go_enter Tryz.func26,Tryz.ntmps26;go_wp2_with fail;refine (HM.out _).mono ?_;rintro e w' ⟨rfl,rfl⟩;go_wp2;go_ret;exact⟨rfl,(Below.refl _ _).alloc (Nat.le_refl _) _⟩
theorem madeR_size (q0 q1 q2:Int):(madeR q0 q1 q2).num.size≤536870912∧(madeR q0 q1 q2).den.size≤536870912:=by
 obtain⟨h1,h2,_⟩:=madeN_lt q0 q1 q2;obtain⟨h3,h4⟩:=low_size (decide (q0<0)) _ _ 16 h1 h2;exact⟨Nat.le_trans h3 (by omega),Nat.le_trans h4 (by omega)⟩
theorem negR_size (a:Ra) (hn:a.num.size≤536870912) (hd:a.den.size≤536870912):(negR a).num.size≤536870912∧(negR a).den.size≤536870912:=by
 have h:(valR a).num.size≤536870912∧(valR a).den.size≤536870912:=by
  unfold valR;split
  ·exact⟨hn,hd⟩
  ·exact⟨by decide,by decide⟩
 unfold negR;split<;>exact h
set_option maxRecDepth 100000 in
set_option maxHeartbeats 1600000 in
theorem gStep_any (q0 q1 q2:Int) (w:World) (h0:-9223372036854775808≤q0∧q0≤9223372036854775807) (h1:-9223372036854775808≤q1∧q1≤9223372036854775807) (h2:-9223372036854775808≤q2∧q2≤9223372036854775807):
  Calls Tryz.prog 32 #[.agg #[.int .i64 q0,.int .i64 q1,.int .i64 q2]] w fun e w'=>e=.returned (stepR q0 q1 q2).v∧Below w.heap.size w w':=by
 have HM:=Lib.hid (fun W=>sMade_any q0 q1 q2 W h0 h1 h2);have HS:Hid (stepR q0 q1 q2=if signR (if (madeR q0 q1 q2).neg then negR (madeR q0 q1 q2) else madeR q0 q1 q2)=0 then centR else (if (madeR q0 q1 q2).neg then negR (madeR q0 q1 q2) else madeR q0 q1 q2)):=rfl;obtain⟨s1,s2⟩:=madeR_size q0 q1 q2;generalize stepR q0 q1 q2=r at*;generalize madeR q0 q1 q2=m at*;obtain⟨s3,s4⟩:=negR_size m s1 s2;have HN:=Lib.hid (fun W=>sNeg_any m W s1 s2);have HC:=Lib.hid (fun W=>sCent_any W);have HA:∃a:Ra,a=(if m.neg then negR m else m)∧a.num.size≤536870912∧a.den.size≤536870912:=⟨_,rfl,by split<;>assumption,by split<;>assumption⟩
 obtain⟨a,ha,s5,s6⟩:=HA;rw[←ha] at HS;have HZ:=Lib.hid (fun W=>sSign_any a W s5 s6);generalize negR m=g at*;clear s1 s2 s3 s4 s5 s6 h0 h1 h2;obtain⟨z,hz⟩:∃z,signR a=z:=⟨_,rfl⟩
 rw[hz] at HS HZ;clear hz;generalize centR=c at*;obtain⟨mn,mu,md⟩:=m;obtain⟨gn,gu,gd⟩:=g;obtain⟨cn,cu,cd⟩:=c;simp only at ha;obtain⟨W,hW⟩:∃W,W=(w.alloc (.cells #[.int .i64 q0,.int .i64 q1,.int .i64 q2] 57)).alloc (.cells #[.bool false,.string ⟨#[]⟩,.string ⟨#[]⟩] 31):=⟨_,rfl⟩
 have htwo:=Two.new w 57 31 #[.int .i64 q0,.int .i64 q1,.int .i64 q2] #[.bool false,.string ⟨#[]⟩,.string ⟨#[]⟩];rw[←hW] at htwo;obtain⟨hk0,hk1,hba,hsz⟩:=htwo;obtain⟨B,hB⟩:∃B,B=w.heap.size:=⟨_,rfl⟩
 have HB:=Lib.hid hB;rw[←hB] at hba hsz hk0 hk1;cases mn
 all_goals
  simp only[if_true,if_false,Bool.false_eq_true] at ha;subst ha;unfold Ra.v at HM HN HZ HC⊢;simp only at HM HN HZ HC⊢
 ·go_enter Tryz.func32,Tryz.ntmps32;go_wp2_with fail;simp only[←hW,←hB]
  clear hW hB;refine (HM.out _).mono ?_;rintro e w1 ⟨rfl,hb1⟩;obtain⟨V,hV⟩:∃V,V=w1.alloc (.cells #[.bool false,.string mu,.string md] 31):=⟨_,rfl⟩
  have hbV:Below w1.heap.size w1 V:=by rw[hV];exact (Below.refl _ _).alloc (Nat.le_refl _) _
  have hk:=hk1.below (bstep hb1 hbV) hk1.lt;have hka:Blk V w1.heap.size 31 [.bool false,.string mu,.string md]:=by rw[hV];exact Blk.new w1 _ _
  have hBC:B+2≤w1.heap.size:=by have:=hb1.size;omega
  have HBW:Hid (Below B w V):=hba.trans ((bstep hb1 hbV).mono (by omega));have hx:=hka.cells;rw[hV] at hx;go_wp2_with fail;simp only[←hV]
  clear hV hb1 hbV hx;generalize w1.heap.size=C at*;refine (HZ.out _).mono ?_;rintro e w4 ⟨rfl,hb4⟩;have hk4:=hk.below hb4 hk.lt;have hka4:=hka.below hb4 hka.lt;have HBV:=Lib.hid (HBW.out.trans (hb4.mono (by have:=hka.lt;omega)));have hc:=hk4.cells;have hf:=hk4.froz;have hca:=hka4.cells;clear hk hka HBW hb4;rcases Classical.em (z=0) with hz|hz
  ·subst hz;go_wp2_with fail;clear hc hf hca;refine (HC.out _).mono ?_;rintro e w5 ⟨rfl,hb5⟩;have hk5:=hk4.below hb5 hk4.lt;have HBU:=Lib.hid (HBV.out.trans (hb5.mono (by have:=hka4.lt;omega)));have hc:=hk5.cells;have hf:=hk5.froz;clear hk4 hka4 hb5 hk5 HBV;go_wp2;refine bodyPost_ret (v:=.agg #[.bool cn,.string cu,.string cd]) (by simp[results,Tryz.results32,go_sem,hc]) rfl ⟨by rw[HS.out];rfl,?_⟩;rw[←HB.out];exact below_at HBU.out (Nat.le_succ _) _ _ _
  ·have hz1:decide (z=0)=false:=decide_eq_false hz;have hz2:(z==0)=false:=by simpa using hz
   go_wp2;refine bodyPost_ret (v:=.agg #[.bool false,.string mu,.string md]) (by simp[results,Tryz.results32,go_sem,hc]) rfl ⟨by rw[HS.out,if_neg hz],?_⟩;rw[←HB.out];exact below_at HBV.out (Nat.le_succ _) _ _ _
 ·go_enter Tryz.func32,Tryz.ntmps32;go_wp2_with fail;simp only[←hW,←hB]
  clear hW hB;refine (HM.out _).mono ?_;rintro e w1 ⟨rfl,hb1⟩;obtain⟨V,hV⟩:∃V,V=w1.alloc (.cells #[.bool true,.string mu,.string md] 31):=⟨_,rfl⟩
  have hbV:Below w1.heap.size w1 V:=by rw[hV];exact (Below.refl _ _).alloc (Nat.le_refl _) _
  have hk:=hk1.below (bstep hb1 hbV) hk1.lt;have hka:Blk V w1.heap.size 31 [.bool true,.string mu,.string md]:=by rw[hV];exact Blk.new w1 _ _
  have hBC:B+2≤w1.heap.size:=by have:=hb1.size;omega
  have HBW:Hid (Below B w V):=hba.trans ((bstep hb1 hbV).mono (by omega));have hx:=hka.cells;rw[hV] at hx;go_wp2_with fail;simp only[←hV]
  clear hV hb1 hbV hx;generalize w1.heap.size=C at*;refine (HN.out _).mono ?_;rintro e w2 ⟨rfl,hb2⟩;have hk':=(((hk.below hb2 hk.lt).other (p:=⟨C,0,none⟩) (by show B+1≠C;omega) (.bool gn)).other (p:=⟨C,1,none⟩) (by show B+1≠C;omega) (.string gu)).other (p:=⟨C,2,none⟩) (by show B+1≠C;omega) (.string gd);have hka':=(((hka.below hb2 hka.lt).set 0 (.bool gn)).set 1 (.string gu)).set 2 (.string gd);simp only[List.set] at hka';have hfa:=(hka.below hb2 hka.lt).froz;have hca:=(hka.below hb2 hka.lt).cells;have HBW':Hid (Below B w (((w2.setCell ⟨C,0,none⟩ (.bool gn)).setCell ⟨C,1,none⟩ (.string gu)).setCell ⟨C,2,none⟩ (.string gd))):=below_at (HBW.out.trans (hb2.mono (by have:=hka.lt;omega))) (by omega) _ _ _;clear hk hka HBW hb2;obtain⟨V,hV⟩:∃V,V=(((w2.setCell ⟨C,0,none⟩ (.bool gn)).setCell ⟨C,1,none⟩ (.string gu)).setCell ⟨C,2,none⟩ (.string gd)):=⟨_,rfl⟩
  rw[←hV] at hk' hka' HBW';have hx:=hka'.cells;rw[hV] at hx;go_wp2_with fail;simp only[←hV]
  clear hV hx hca hfa;have hk:=hk';have hka:=hka';have HBW:=HBW';clear hk' hka' HBW';refine (HZ.out _).mono ?_;rintro e w4 ⟨rfl,hb4⟩;have hk4:=hk.below hb4 hk.lt;have hka4:=hka.below hb4 hka.lt;have HBV:=Lib.hid (HBW.out.trans (hb4.mono (by have:=hka.lt;omega)));have hc:=hk4.cells;have hf:=hk4.froz;have hca:=hka4.cells;clear hk hka HBW hb4;rcases Classical.em (z=0) with hz|hz
  ·subst hz;go_wp2_with fail;clear hc hf hca;refine (HC.out _).mono ?_;rintro e w5 ⟨rfl,hb5⟩;have hk5:=hk4.below hb5 hk4.lt;have HBU:=Lib.hid (HBV.out.trans (hb5.mono (by have:=hka4.lt;omega)));have hc:=hk5.cells;have hf:=hk5.froz;clear hk4 hka4 hb5 hk5 HBV;go_wp2;refine bodyPost_ret (v:=.agg #[.bool cn,.string cu,.string cd]) (by simp[results,Tryz.results32,go_sem,hc]) rfl ⟨by rw[HS.out];rfl,?_⟩;rw[←HB.out];exact below_at HBU.out (Nat.le_succ _) _ _ _
  ·have hz1:decide (z=0)=false:=decide_eq_false hz;have hz2:(z==0)=false:=by simpa using hz
   go_wp2;refine bodyPost_ret (v:=.agg #[.bool gn,.string gu,.string gd]) (by simp[results,Tryz.results32,go_sem,hc]) rfl ⟨by rw[HS.out,if_neg hz],?_⟩;rw[←HB.out];exact below_at HBV.out (Nat.le_succ _) _ _ _
def befN (a b:Nd):Bool:=decide (a.op<b.op)||(decide (a.op=b.op)&&Op.bytesLess a.name.toList b.name.toList)
set_option maxRecDepth 100000 in
set_option maxHeartbeats 800000 in
theorem gBefore_any (a b:Nd) (w:World):Calls Tryz.prog 76 #[a.v,b.v] w fun e w'=>e=.returned (.bool (befN a b))∧Below w.heap.size w w':=by
 have HP:Hid (befN a b=(decide (a.op<b.op)||(decide (a.op=b.op)&&Op.bytesLess a.name.toList b.name.toList))):=rfl;generalize befN a b=r at*;obtain⟨op,⟨neg,num,den⟩,nm⟩:=a;obtain⟨op',⟨neg',num',den'⟩,nm'⟩:=b;simp only at HP;obtain⟨s,hs⟩:∃s,Op.bytesLess nm.toList nm'.toList=s:=⟨_,rfl⟩
 rw[hs] at HP;unfold Nd.v;simp only
 rcases Int.lt_trichotomy op op' with h|h|h
 ·have h1:decide (op<op')=true:=decide_eq_true h;rw[h1] at HP;go_enter Tryz.func76,Tryz.ntmps76;go_wp2;go_ret;exact⟨by rw[HP.out];rfl,((Below.refl _ _).alloc (Nat.le_refl _) _).alloc (by rw[World.size_alloc];omega) _⟩
 ·subst h;have h1:decide (op<op)=false:=decide_eq_false (Int.lt_irrefl _);have h1':¬op<op:=Int.lt_irrefl _;rw[h1,decide_eq_true (rfl:op=op)] at HP;cases s
  all_goals
   go_enter Tryz.func76,Tryz.ntmps76;go_wp2;go_ret;exact⟨by rw[HP.out];rfl,((Below.refl _ _).alloc (Nat.le_refl _) _).alloc (by rw[World.size_alloc];omega) _⟩
 ·have h1:decide (op<op')=false:=decide_eq_false (by omega);have h2:decide (op=op')=false:=decide_eq_false (by omega);have h2':(op==op')=false:=by simpa using (show ¬op=op' from by omega)
  have h3:¬op<op':=by omega
  rw[h1,h2] at HP;go_enter Tryz.func76,Tryz.ntmps76;go_wp2;go_ret;exact⟨by rw[HP.out];rfl,((Below.refl _ _).alloc (Nat.le_refl _) _).alloc (by rw[World.size_alloc];omega) _⟩
def leafN (n:Int):Nd:=
 if (shp (1+n % 8)).nam then ⟨1+n % 8,zR,poolS (n.tdiv 8)⟩
 else ⟨1+n % 8,if 1+n % 8=4 then ofI ((n.tdiv 8) % 2) else madeR (n.tdiv 8) (n.tdiv 24) (3*(n.tdiv 8).tmod 2),⟨#[]⟩⟩
theorem tdiv_in (a k:Int) (hk:0<k) (h:-9223372036854775808≤a∧a≤9223372036854775807):-9223372036854775808<a.tdiv k+1∧a.tdiv k≤9223372036854775807:=by
 by_cases ha:0≤a
 ·rw[Int.tdiv_eq_ediv_of_nonneg ha];have h1:=Int.ediv_nonneg ha (Int.le_of_lt hk);have h2:a / k≤a:=Int.ediv_le_self k ha;omega
 ·have h2:=Int.neg_tdiv (-a) k;rw[Int.neg_neg] at h2;rw[h2,Int.tdiv_eq_ediv_of_nonneg (show 0≤ -a by omega)];by_cases hk1:k=1
  ·subst hk1;rw[Int.ediv_one];by_cases hm:a= -9223372036854775808
   ·omega
   ·omega
  have h1:=Int.ediv_nonneg (show 0≤ -a by omega) (Int.le_of_lt hk);have h3:(-a) / k< -a:=Int.ediv_lt_self_of_pos_of_ne_one (by omega) hk1;omega
theorem below_at5 {B C:Nat} {w w':World} (h:Below B w w') (hC:B≤C) (x y z u v:Value):Below B w (((((w'.setCell ⟨C,0,none⟩ x).setCell ⟨C,1,none⟩ y).setCell ⟨C,2,none⟩ z).setCell ⟨C,3,none⟩ u).setCell ⟨C,4,none⟩ v):=
 ((below_at h hC x y z).setCell (p:=⟨C,3,none⟩) hC _).setCell (p:=⟨C,4,none⟩) hC _
set_option maxRecDepth 100000 in
set_option maxHeartbeats 800000 in
theorem gLeaf_any (n:Int) (w:World) (h0:-9223372036854775808≤n∧n≤9223372036854775807):
  Calls Tryz.prog 45 #[.int .i64 n] w fun e w'=>e=.returned (leafN n).v∧Below w.heap.size w w':=by
 obtain⟨z0,z1⟩:=mod_in n 8 (by omega);obtain⟨x0,x1⟩:=tdiv_in n 8 (by omega) h0;obtain⟨y0,y1⟩:=tdiv_in n 24 (by omega) h0
 have HL:Hid (leafN n=if (shp (1+n % 8)).nam then ⟨1+n % 8,zR,poolS (n.tdiv 8)⟩
  else ⟨1+n % 8,if 1+n % 8=4 then ofI ((n.tdiv 8) % 2) else madeR (n.tdiv 8) (n.tdiv 24) (3*(n.tdiv 8).tmod 2),⟨#[]⟩⟩):=rfl
 have HMo:=Lib.hid (fun W=>sMod_any n 8 W h0.1 h0.2 (by omega) (by omega));obtain⟨x,hx⟩:∃x,n.tdiv 8=x:=⟨_,rfl⟩
 obtain⟨y,hy⟩:∃y,n.tdiv 24=y:=⟨_,rfl⟩
 obtain⟨u,hu⟩:∃u,x.tmod 2=u:=⟨_,rfl⟩
 obtain⟨p0,p1⟩:=mod_in x 2 (by omega);have hub:-2≤u∧u≤2:=by rw[←hu];rcases tmod_ways x 2 (by omega) with⟨h4,h5⟩|⟨h4,h5⟩<;>omega
 rw[hx] at x0 x1 HL;rw[hy] at y0 y1 HL;rw[hu] at HL;have hw8:IntKind.i64.wrap x=x:=IntWalk.i64_in _ (by omega);have hw24:IntKind.i64.wrap y=y:=IntWalk.i64_in _ (by omega);have hwu:IntKind.i64.wrap u=u:=IntWalk.i64_in _ (by omega);have hwv:IntKind.i64.wrap (3*u)=3*u:=IntWalk.i64_in _ (by omega);have hwz:IntKind.i64.wrap (1+n % 8)=1+n % 8:=IntWalk.i64_in _ (by omega);have HM2:=Lib.hid (fun W=>sMod_any x 2 W (by omega) x1 (by omega) (by omega));have HMa:=Lib.hid (fun W=>sMade_any x y (3*u) W ⟨by omega,x1⟩ ⟨by omega,y1⟩ (by omega));have HOf:=Lib.hid (fun W=>sOf_any (x % 2) W (by omega) (by omega));have HP:=Lib.hid (fun W=>gPool_any x W ⟨by omega,x1⟩);have HNm:=Lib.hid (fun W=>gNamed_any (1+n % 8) W);generalize leafN n=r at*;generalize madeR x y (3*u)=m at*;generalize poolS x=s at*;generalize ofI (x % 2)=o at*;generalize x % 2=x2 at*;clear p0 p1 hub x0 x1 y0 y1 h0;generalize n % 8=z at*
 have h4:(1+z=4∧(shp (1+z)).nam=false)∨(¬(1+z=4)):=by
  by_cases h:1+z=4
  ·exact .inl ⟨h,by rw[h];rfl⟩
  ·exact .inr h
 clear z0 z1;obtain⟨op,hop⟩:∃op,1+z=op:=⟨_,rfl⟩
 have hwo:IntKind.i64.wrap (1+z)=op:=hwz.trans hop;clear hwz;rw[hop] at HL h4;have HNm:Hid (∀W:World,Calls Tryz.prog 46 #[.int .i64 op] W fun e w'=>e=.returned (.bool (shp op).nam)∧W=w'):=by rw[←hop];exact HNm
 clear hop;generalize (shp op).nam=nm at*;obtain⟨mn,mu,md⟩:=m;obtain⟨on,ou,od⟩:=o;unfold Ra.v at HMa HOf;unfold Nd.v;simp only at HMa HOf;obtain⟨W,hW⟩:∃W,W=w.alloc (.cells #[.int .i64 0,.bool false,.string ⟨#[]⟩,.string ⟨#[]⟩,.string ⟨#[]⟩] 33):=⟨_,rfl⟩
 have hba:Below w.heap.size w W:=by rw[hW];exact (Below.refl _ _).alloc (Nat.le_refl _) _
 have hk0:Blk W w.heap.size 33 [.int .i64 0,.bool false,.string ⟨#[]⟩,.string ⟨#[]⟩,.string ⟨#[]⟩]:=by rw[hW];exact Blk.new w _ _
 have hsz:W.heap.size=w.heap.size+1:=by rw[hW];exact Array.size_push _
 obtain⟨B,hB⟩:∃B,B=w.heap.size:=⟨_,rfl⟩
 have HB:=Lib.hid hB;rw[←hB] at hba hsz hk0;rcases h4 with⟨rfl,rfl⟩|h4
 ·go_enter Tryz.func45,Tryz.ntmps45;go_wp2_with fail;simp only[←hW,←hB]
  clear hW hB;refine (HMo.out _).mono ?_;rintro e w1 ⟨rfl,rfl⟩;go_wp2_with fail;refine (HMa.out _).mono ?_;rintro e w1 ⟨rfl,hb1⟩;obtain⟨V,hV⟩:∃V,V=w1.alloc (.cells #[.bool mn,.string mu,.string md] 31):=⟨_,rfl⟩
  have hbV:Below w1.heap.size w1 V:=by rw[hV];exact (Below.refl _ _).alloc (Nat.le_refl _) _
  have hk:=hk0.below (bstep hb1 hbV) hk0.lt;have hka:Blk V w1.heap.size 31 [.bool mn,.string mu,.string md]:=by rw[hV];exact Blk.new w1 _ _
  have hBC:B+1≤w1.heap.size:=by have:=hb1.size;omega
  have HBW:Hid (Below B w V):=hba.trans ((bstep hb1 hbV).mono (by omega));go_wp2_with fail;simp only[←hV]
  clear hV hb1 hbV;generalize w1.heap.size=C at*;refine (HM2.out _).mono ?_;rintro e w2 ⟨rfl,rfl⟩;go_wp2_with fail;refine (HOf.out _).mono ?_;rintro e w2 ⟨rfl,hb2⟩;have hk':=(((hk.below hb2 hk.lt).other (p:=⟨C,0,none⟩) (by show B≠C;omega) (.bool on)).other (p:=⟨C,1,none⟩) (by show B≠C;omega) (.string ou)).other (p:=⟨C,2,none⟩) (by show B≠C;omega) (.string od);have hka':=(((hka.below hb2 hka.lt).set 0 (.bool on)).set 1 (.string ou)).set 2 (.string od);simp only[List.set] at hka';have hfa:=(hka.below hb2 hka.lt).froz;have hcb:=(hka.below hb2 hka.lt).cells;have HBV:Hid (Below B w (((w2.setCell ⟨C,0,none⟩ (.bool on)).setCell ⟨C,1,none⟩ (.string ou)).setCell ⟨C,2,none⟩ (.string od))):=below_at (HBW.out.trans (hb2.mono (by have:=hka.lt;omega))) (by omega) _ _ _;clear hk hka HBW hb2;obtain⟨V,hV⟩:∃V,V=(((w2.setCell ⟨C,0,none⟩ (.bool on)).setCell ⟨C,1,none⟩ (.string ou)).setCell ⟨C,2,none⟩ (.string od)):=⟨_,rfl⟩
  rw[←hV] at hk' hka' HBV;go_wp2_with fail;simp only[←hV]
  clear hV hfa hcb;refine (HNm.out _).mono ?_;rintro e w3 ⟨rfl,rfl⟩;have hc:=hk'.cells;have hf:=hk'.froz;have hca:=hka'.cells;go_wp2;refine bodyPost_ret (v:=.agg #[.int .i64 4,.bool on,.string ou,.string od,.string ⟨#[]⟩]) (by simp[results,Tryz.results45,go_sem,hc]) rfl ⟨by rw[HL.out];rfl,?_⟩;rw[←HB.out];exact below_at5 HBV.out (Nat.le_refl _) _ _ _ _ _
 ·have h4':(op==4)=false:=beq_eq_false_iff_ne.2 h4;cases nm
  ·go_enter Tryz.func45,Tryz.ntmps45;go_wp2_with fail;simp only[←hW,←hB]
   clear hW hB;refine (HMo.out _).mono ?_;rintro e w1 ⟨rfl,rfl⟩;go_wp2_with fail;refine (HMa.out _).mono ?_;rintro e w1 ⟨rfl,hb1⟩;obtain⟨V,hV⟩:∃V,V=w1.alloc (.cells #[.bool mn,.string mu,.string md] 31):=⟨_,rfl⟩
   have hbV:Below w1.heap.size w1 V:=by rw[hV];exact (Below.refl _ _).alloc (Nat.le_refl _) _
   have hk:=hk0.below (bstep hb1 hbV) hk0.lt;have hka:Blk V w1.heap.size 31 [.bool mn,.string mu,.string md]:=by rw[hV];exact Blk.new w1 _ _
   have hBC:B+1≤w1.heap.size:=by have:=hb1.size;omega
   have HBW:Hid (Below B w V):=hba.trans ((bstep hb1 hbV).mono (by omega));go_wp2_with fail;simp only[←hV]
   clear hV hb1 hbV;generalize w1.heap.size=C at*;refine (HNm.out _).mono ?_;rintro e w3 ⟨rfl,rfl⟩;have hc:=hk.cells;have hf:=hk.froz;have hca:=hka.cells;go_wp2;refine bodyPost_ret (v:=.agg #[.int .i64 op,.bool mn,.string mu,.string md,.string ⟨#[]⟩]) (by simp[results,Tryz.results45,go_sem,hc]) rfl ⟨by rw[HL.out];simp only[Bool.false_eq_true,if_false,if_neg h4],?_⟩;rw[←HB.out];exact below_at5 HBW.out (Nat.le_refl _) _ _ _ _ _
  ·go_enter Tryz.func45,Tryz.ntmps45;go_wp2_with fail;simp only[←hW,←hB]
   clear hW hB;refine (HMo.out _).mono ?_;rintro e w1 ⟨rfl,rfl⟩;go_wp2_with fail;refine (HMa.out _).mono ?_;rintro e w1 ⟨rfl,hb1⟩;obtain⟨V,hV⟩:∃V,V=w1.alloc (.cells #[.bool mn,.string mu,.string md] 31):=⟨_,rfl⟩
   have hbV:Below w1.heap.size w1 V:=by rw[hV];exact (Below.refl _ _).alloc (Nat.le_refl _) _
   have hk:=hk0.below (bstep hb1 hbV) hk0.lt;have hka:Blk V w1.heap.size 31 [.bool mn,.string mu,.string md]:=by rw[hV];exact Blk.new w1 _ _
   have hBC:B+1≤w1.heap.size:=by have:=hb1.size;omega
   have HBW:Hid (Below B w V):=hba.trans ((bstep hb1 hbV).mono (by omega));go_wp2_with fail;simp only[←hV]
   clear hV hb1 hbV;generalize w1.heap.size=C at*;refine (HNm.out _).mono ?_;rintro e w3 ⟨rfl,rfl⟩;go_wp2_with fail;refine (HP.out _).mono ?_;rintro e w4 ⟨rfl,hb4⟩;have hk4:=hk.below hb4 hk.lt;have HBV:=Lib.hid (HBW.out.trans (hb4.mono (by have:=hka.lt;omega)));have hc:=hk4.cells;have hf:=hk4.froz;clear hk hka HBW hb4;go_wp2;refine bodyPost_ret (v:=.agg #[.int .i64 op,.bool false,.string ⟨#[]⟩,.string ⟨#[]⟩,.string s]) (by simp[results,Tryz.results45,go_sem,hc]) rfl ⟨by rw[HL.out];rfl,?_⟩;rw[←HB.out];exact below_at5 HBV.out (Nat.le_refl _) _ _ _ _ _
def begB (s p:ByteArray):Bool:=decide (p.size≤s.size)&&decide (s.extract 0 p.size=p)
set_option maxRecDepth 100000 in
set_option maxHeartbeats 800000 in
theorem gIs_any (s p:ByteArray) (R:Nat) (t:TypeId) (l:List Value) (w:World) (hR:Blk w R t (.string s::l)):
  Calls Tryz.prog 91 #[.pointer (some ⟨R,0,none⟩),.string p] w fun e w'=>e=.returned (.bool (begB s p))∧w'=(if begB s p then w.setCell ⟨R,0,none⟩ (.string (s.extract p.size s.size)) else w):=by
 have hc:=hR.cells;have hf:=hR.froz;clear hR;rcases Nat.lt_or_ge s.size p.size with h|h
 ·have h1:decide (s.size<p.size)=true:=decide_eq_true h;have h2:decide ((s.size:Int)<(p.size:Int))=true:=decide_eq_true (by omega);have HR:begB s p=false:=by unfold begB;rw[decide_eq_false (show ¬p.size≤s.size by omega)];rfl
  rw[HR];simp only[Bool.false_eq_true,if_false]
  clear HR;go_enter Tryz.func91,Tryz.ntmps91;go_wp2;go_ret;exact⟨rfl,rfl⟩
 ·have h1:decide (s.size<p.size)=false:=decide_eq_false (by omega);have h2:decide ((s.size:Int)<(p.size:Int))=false:=decide_eq_false (by omega);by_cases hq:s.extract 0 p.size=p
  ·have HR:begB s p=true:=by unfold begB;rw[decide_eq_true h,decide_eq_true hq];rfl
   rw[HR];simp only[if_true]
   clear HR;go_enter Tryz.func91,Tryz.ntmps91;go_wp2;go_ret;exact⟨rfl,rfl⟩
  ·have hq1:decide (s.extract 0 p.size=p)=false:=decide_eq_false hq;have HR:begB s p=false:=by unfold begB;rw[decide_eq_true h,hq1];rfl
   rw[HR];simp only[Bool.false_eq_true,if_false]
   have hq2:((s.extract 0 p.size).toList==p.toList)=false:=beq_eq_false_iff_ne.2 (fun h=>hq (toList_inj h));clear HR;go_enter Tryz.func91,Tryz.ntmps91;go_wp2;go_ret;exact⟨rfl,rfl⟩
def noText:List PanicEntry:=[{v:=.iface 80 (.agg #[]),recovered:=false}]
set_option maxRecDepth 100000 in
set_option maxHeartbeats 800000 in
theorem want_yes (s p:ByteArray) (R:Nat) (t:TypeId) (l:List Value) (w:World) (hR:Blk w R t (.string s::l)) (h:Lib.hasPrefix s.data.toList p.data.toList=true):
  Calls Tryz.prog 87 #[.pointer (some ⟨R,0,none⟩),.string p] w fun e w'=>e=.returned (.tuple #[])∧w'=w.setCell ⟨R,0,none⟩ (.string ⟨(Lib.trimPrefix s.data.toList p.data.toList).toArray⟩):=by
 have hc:=hR.cells;have hf:=hR.froz;clear hR;go_enter Tryz.func87,Tryz.ntmps87;go_wp2_with fail;refine (Tryz.strings_CutPrefix s p _).mono ?_;rintro e w' ⟨rfl,rfl⟩;go_wp2;go_end0;exact⟨rfl,rfl⟩
set_option maxRecDepth 100000 in
set_option maxHeartbeats 800000 in
theorem want_no (s p:ByteArray) (R:Nat) (t:TypeId) (l:List Value) (w:World) (hR:Blk w R t (.string s::l)) (h:Lib.hasPrefix s.data.toList p.data.toList=false):
  Calls Tryz.prog 87 #[.pointer (some ⟨R,0,none⟩),.string p] w fun e w'=>e=.panicked noText∧w'=w:=by
 have hc:=hR.cells;have hf:=hR.froz;clear hR;go_enter Tryz.func87,Tryz.ntmps87;go_wp2_with fail;refine (Tryz.strings_CutPrefix s p _).mono ?_;rintro e w' ⟨rfl,rfl⟩;go_wp2;exact⟨rfl,rfl,rfl⟩
def restS (s cs:ByteArray):ByteArray:=⟨(Lib.trimLeftS s.data.toList cs.data.toList).toArray⟩
theorem restS_le (s cs:ByteArray):(restS s cs).size≤s.size:=by
 show (Lib.trimLeftS s.data.toList cs.data.toList).toArray.size≤s.data.size;rw[List.size_toArray,←Array.length_toList];exact (List.dropWhile_sublist _).length_le
theorem trimLeft_at (s cs:ByteArray) (w:World) (hcs:cs.size<4294967281) (ha:∀(j:Nat) b,cs.data.toList[j]?=some b→b.toNat<128):
  Calls Tryz.prog 117 #[.string s,.string cs] w fun e w'=>e=.returned (.string (restS s cs))∧Below w.heap.size w w':=
 Any.strings_TrimLeft_laid Tryz.lays161 (by kernel_rfl) s cs w hcs ha
set_option maxRecDepth 100000 in
set_option maxHeartbeats 800000 in
theorem span_any (s cs:ByteArray) (R:Nat) (t:TypeId) (l:List Value) (w:World) (hR:Blk w R t (.string s::l)) (h63:s.size≤9223372036854775807)
  (hcs:cs.size<4294967281) (ha:∀(j:Nat) b,cs.data.toList[j]?=some b→b.toNat<128):
  Calls Tryz.prog 85 #[.pointer (some ⟨R,0,none⟩),.string cs] w fun e w'=>e=.returned (.string (s.extract 0 (s.size-(restS s cs).size)))∧∃W,Below w.heap.size w W∧w'=W.setCell ⟨R,0,none⟩ (.string (restS s cs)):=by
 have HT:=Lib.hid (fun W=>trimLeft_at s cs W hcs ha);have hle:=restS_le s cs;generalize restS s cs=r at*;have hc0:=hR.cells;clear hcs ha;obtain⟨k,hk⟩:∃k,s.size-r.size=k:=⟨_,rfl⟩
 have hw:IntKind.i64.wrap ((s.size:Int)-(r.size:Int))=(k:Int):=by rw[IntWalk.i64_in _ (by omega)];omega
 have hks:k≤s.size:=by omega
 rw[hk];go_enter Tryz.func85,Tryz.ntmps85;go_wp2_with fail;refine (HT.out _).mono ?_;rintro e w1 ⟨rfl,hb1⟩;have hR1:=hR.below hb1 hR.lt;have hc:=hR1.cells;have hf:=hR1.froz;have HB1:=Lib.hid hb1;clear hb1 hR hc0 hR1;go_wp2;go_region;go_wp2;go_ret;exact⟨rfl,w1.drew,below_drewN HB1.out 1,rfl⟩
def Under (R:Nat) (w:World):Prop:=∃w0:World,Laid w0∧Below w0.heap.size w0 w∧w0.heap.size≤R
theorem Under.onl {R:Nat} {w w':World} (h:Under R w) (ho:Onl R w w'):Under R w':=by
 obtain⟨w0,h1,h2,h3⟩:=h;exact⟨w0,h1,h2.trans (ho.below h3 h2.size),h3⟩
theorem Under.laid {R:Nat} {w:World} (h:Under R w):Laid w:=by
 obtain⟨w0,h1,h2,_⟩:=h;exact h1.below h2
theorem Onl.fresh {G b:Nat} {w w':World} (h:Onl G w w') (hb:w.heap.size≤b) (i:Nat) (u:Value):Onl G w (w'.setCell ⟨b,i,none⟩ u):=
 ⟨h.os,h.tape,h.output,by simpa [World.setCell] using h.size,fun k hk hne=>(Below.heap_setCell w' _ u k (by show k≠b;omega)).trans (h.block k hk hne)⟩
theorem span_at (s cs:ByteArray) (R:Nat) (t:TypeId) (l:List Value) (w:World) (hR:Blk w R t (.string s::l)) (h63:s.size≤9223372036854775807)
  (hcs:cs.size<4294967281) (ha:∀(j:Nat) b,cs.data.toList[j]?=some b→b.toNat<128):
  Calls Tryz.prog 85 #[.pointer (some ⟨R,0,none⟩),.string cs] w fun e w'=>e=.returned (.string (s.extract 0 (s.size-(restS s cs).size)))∧Blk w' R t (.string (restS s cs)::l)∧Onl R w w':=
 (span_any s cs R t l w hR h63 hcs ha).mono (by
   rintro e w' ⟨rfl,W,hb,rfl⟩;exact⟨rfl,(hR.below hb hR.lt).set 0 _,(Onl.of_below hb).set 0 _⟩)
def numC:ByteArray:=⟨#[45,47,48,49,50,51,52,53,54,55,56,57]⟩
set_option maxRecDepth 100000 in
set_option maxHeartbeats 800000 in
theorem number_at (s:ByteArray) (R:Nat) (t:TypeId) (l:List Value) (w:World) (hR:Blk w R t (.string s::l)) (hU:Under R w) (hs:s.size≤1048576) (x:ByteArray) (hx:s.extract 0 (s.size-(restS s numC).size)=x):
  Calls Tryz.prog 90 #[.pointer (some ⟨R,0,none⟩)] w fun e w'=>(if (ratParse x).2 then e=.returned (ratParse x).1.v else e=.panicked noText)∧Blk w' R t (.string (restS s numC)::l)∧Onl R w w':=by
 have hxs:x.size≤1048576:=by rw[←hx,ByteArray.size_extract];omega
 have HS:=fun (W:World) (h:Blk W R t (.string s::l))=>span_at s numC R t l W h (by omega) (by decide) (ascii_of_all (by decide))
 simp only[hx] at HS;have HQ:=fun (W:World) (h:Laid W)=>qParse_any x W h hxs
 generalize restS s numC=q at*;clear hx hxs;generalize ratParse x=v at*;obtain⟨⟨vn,vu,vd⟩,vb⟩:=v;unfold Ra.v at HQ⊢;simp only at HQ⊢;unfold numC at HS;have HS:=Lib.hid HS;have HQ:=Lib.hid HQ;obtain⟨W,hW⟩:∃W,W=w.alloc (.cells #[.bool false,.string ⟨#[]⟩,.string ⟨#[]⟩] 31):=⟨_,rfl⟩
 have hba:Below w.heap.size w W:=by rw[hW];exact (Below.refl _ _).alloc (Nat.le_refl _) _
 have hk0:Blk W w.heap.size 31 [.bool false,.string ⟨#[]⟩,.string ⟨#[]⟩]:=by rw[hW];exact Blk.new w _ _
 have hsz:W.heap.size=w.heap.size+1:=by rw[hW];exact Array.size_push _
 obtain⟨B,hB⟩:∃B,B=w.heap.size:=⟨_,rfl⟩
 have HB:=Lib.hid hB;rw[←hB] at hba hsz hk0;have hRB:R<B:=by rw[HB.out];exact hR.lt
 have hRW:=hR.below hba hRB;have hUW:Under R W:=hU.onl (Onl.of_below (by rw[←HB.out];exact hba));have HOW:Hid (Onl R w W):=Onl.of_below (by rw[←HB.out];exact hba);clear hR hU hba;cases vb
 all_goals
  simp only[if_true,if_false,Bool.false_eq_true]
  go_enter Tryz.func90,Tryz.ntmps90;go_wp2_with fail;simp only[←hW,←hB]
  clear hW hB;refine (HS.out _ hRW).mono ?_;rintro e w1 ⟨rfl,hk1,ho1⟩;have hr1:=ho1.blk hk0 (by omega);have hl1:=(hUW.onl ho1).laid;have HO1:=Lib.hid (HOW.out.trans ho1);clear hk0 hRW hUW HOW ho1;go_wp2_with fail;refine (HQ.out _ hl1).mono ?_;rintro e w2 ⟨rfl,hb2⟩;have hr2:=(hr1.below hb2 hr1.lt).alloc (.cells #[.bool vn,.string vu,.string vd] 31);have hk2:=(hk1.below hb2 hk1.lt).alloc (.cells #[.bool vn,.string vu,.string vd] 31);have HO2:Hid (Onl R w (w2.alloc (.cells #[.bool vn,.string vu,.string vd] 31))):=(HO1.out.trans (Onl.of_below hb2)).trans (Onl.of_below ((Below.refl _ _).alloc (Nat.le_refl _) _));have HK2:=Lib.hid hk2;have hc:=hr2.cells;have hf:=hr2.froz;clear hl1 hr1 hk1 HO1 hb2 hr2 hk2;go_wp2
 ·exact⟨rfl,rfl,HK2.out,HO2.out⟩
 ·refine bodyPost_ret (v:=.agg #[.bool vn,.string vu,.string vd]) (by simp[results,Tryz.results90,go_sem,hc]) rfl ⟨rfl,?_,?_⟩
  ·exact ((HK2.out.other (p:=⟨B,0,none⟩) (by show R≠B;omega) _).other (p:=⟨B,1,none⟩) (by show R≠B;omega) _).other (p:=⟨B,2,none⟩) (by show R≠B;omega) _
  ·have h:=HB.out;exact ((HO2.out.fresh (by omega) 0 _).fresh (by omega) 1 _).fresh (by omega) 2 _
def wordIs (q:ByteArray) (x:Sh):Bool:=decide ((⟨x.word.toArray⟩:ByteArray)=q)&& !decide (q=⟨#[]⟩)
set_option maxRecDepth 100000 in
set_option maxHeartbeats 800000 in
theorem wordIs_any (x:Sh) (q:ByteArray) (b:Nat) (t:TypeId) (w:World) (hb:Blk w b t [.string q]):
  Calls Tryz.prog 89 #[x.v,.pointer (some ⟨b,0,none⟩)] w fun e w'=>e=.returned (.bool (wordIs q x))∧Below w.heap.size w w':=by
 unfold wordIs Sh.v;obtain⟨wd,ops,lit,nam,stp⟩:=x;simp only
 generalize (⟨wd.toArray⟩:ByteArray)=d;obtain⟨W,hW⟩:∃W,W=w.alloc (.cells #[.string d,.int .i64 (ops:Int),.bool lit,.bool nam,.bool stp] 76):=⟨_,rfl⟩
 have HBW:Hid (Below w.heap.size w W):=by show Below _ _ _;rw[hW];exact (Below.refl _ _).alloc (Nat.le_refl _) _
 have hk0:Blk W w.heap.size 76 [.string d,.int .i64 (ops:Int),.bool lit,.bool nam,.bool stp]:=by rw[hW];exact Blk.new w _ _
 have hc0:=hk0.cells;have hc1:=(hb.below HBW.out hb.lt).cells;clear hk0 hb;rw[hW] at hc0 hc1 HBW;clear hW W;by_cases h1:d=q
 ·subst h1;by_cases h2:d=⟨#[]⟩
  ·subst h2;rw[decide_eq_true rfl];go_enter Tryz.func89,Tryz.ntmps89;go_wp2;go_ret;exact⟨rfl,HBW.out⟩
  ·have h3:(d.toList==(⟨#[]⟩:ByteArray).toList)=false:=beq_eq_false_iff_ne.2 (fun h=>h2 (toList_inj h));have h4:=h3;rw[show (⟨#[]⟩:ByteArray).toList=[] by rw[ByteArray.toList_eq]] at h4;rw[decide_eq_true rfl,decide_eq_false h2];go_enter Tryz.func89,Tryz.ntmps89;go_wp2;go_ret;exact⟨rfl,HBW.out⟩
 ·have h3:(d.toList==q.toList)=false:=beq_eq_false_iff_ne.2 (fun h=>h1 (toList_inj h));rw[decide_eq_false h1];go_enter Tryz.func89,Tryz.ntmps89;go_wp2;go_ret;exact⟨rfl,HBW.out⟩
instance instInhabitedSh:Inhabited Sh:=⟨sh0⟩
theorem wordIs_below (q:ByteArray) (b:Nat) (t:TypeId) (w:World) (hb:Blk w b t [.string q]):
  PredBelow Tryz.prog 89 #[.pointer (some ⟨b,0,none⟩)] (fun x=>.agg (Sh.cells x).toArray) (wordIs q) w:=fun W x hW=>by
 refine (wordIs_any x q b t W (hb.below hW hb.lt)).mono ?_;rintro e w' ⟨rfl,h⟩;exact⟨rfl,bstep hW h⟩
def placeOf (q:ByteArray):Int:=Lib.idxBy (fun _ y=>wordIs q y) shs default
theorem placeOf_at (q:ByteArray) (b:Nat) (t:TypeId) (g off c:Nat) (w:World) (hb:Blk w b t [.string q]) (hg:g<w.heap.size)
  (hc:∀j,j<shs.length→∀i v,(Sh.cells shs[j]!)[i]?=some v→w.cell? ⟨g,off+j*5+i,none⟩=some v):
  Calls Tryz.prog 88 #[.slice (some ⟨g,off,none⟩) shs.length c,.func (.func 89) #[] #[.pointer (some ⟨b,0,none⟩)]] w fun e w'=>e=.returned (.int .i64 (placeOf q))∧Below w.heap.size w w':=by
 have eg:∀args w,(callFunc 89 args).run Tryz.prog w=.ok (.enter 89 args) w:=enters_of Tryz.func89 (by kernel_rfl) rfl
 have h:=AnyQ.slices_IndexFunc Tryz.idxN 5 Tryz.isAgg76 Tryz.sizeOf76 Sh.cells (fun _=>rfl) (wordIs q) 89 #[.pointer (some ⟨b,0,none⟩)] eg g off shs.length c shs w
  (wordIs_below q b t w hb) (Nat.le_refl _) (by decide) hg hc
 rw[List.take_length] at h;exact h
set_option maxHeartbeats 800000 in
theorem named_any (A:Option Addr) (n c:Nat) (w:World):
  Calls Tryz.prog 58 #[.slice A n c] w fun e w'=>e=.returned (.func (.func 96) #[] #[.pointer (some ⟨w.heap.size,0,none⟩)])∧w'=w.alloc (.cells #[.slice A n c] 22):=by
 go_enter Tryz.func58,Tryz.ntmps58;go_wp2;go_ret;exact⟨rfl,rfl⟩
def nmN (op:Int) (s:ByteArray):Nd:=⟨op,zR,s⟩
def plN (op:Int):Nd:=⟨op,zR,⟨#[]⟩⟩
def nuN (op n:Int):Nd:=⟨op,ofI n,⟨#[]⟩⟩
set_option maxRecDepth 100000 in
set_option maxHeartbeats 800000 in
theorem lnamed_any (op:Int) (s:ByteArray) (w:World):Calls Tryz.prog 38 #[.int .i64 op,.string s] w fun e w'=>e=.returned (nmN op s).v∧Below w.heap.size w w':=by
 show Calls Tryz.prog 38 #[.int .i64 op,.string s] w fun e w'=>e=.returned (.agg #[.int .i64 op,.bool false,.string ⟨#[]⟩,.string ⟨#[]⟩,.string s])∧Below w.heap.size w w'
 go_enter Tryz.func38,Tryz.ntmps38;go_wp2;have hc:=(Blk.new w 33 #[.int .i64 op,.bool false,.string ⟨#[]⟩,.string ⟨#[]⟩,.string s]).cells;refine bodyPost_ret (v:=.agg #[.int .i64 op,.bool false,.string ⟨#[]⟩,.string ⟨#[]⟩,.string s]) (by simp[results,Tryz.results38,go_sem,hc]) rfl ⟨rfl,(Below.refl _ _).alloc (Nat.le_refl _) _⟩
set_option maxRecDepth 100000 in
set_option maxHeartbeats 800000 in
theorem lplain_any (op:Int) (w:World):Calls Tryz.prog 39 #[.int .i64 op] w fun e w'=>e=.returned (plN op).v∧Below w.heap.size w w':=by
 show Calls Tryz.prog 39 #[.int .i64 op] w fun e w'=>e=.returned (.agg #[.int .i64 op,.bool false,.string ⟨#[]⟩,.string ⟨#[]⟩,.string ⟨#[]⟩])∧Below w.heap.size w w'
 go_enter Tryz.func39,Tryz.ntmps39;go_wp2;have hc:=(Blk.new w 33 #[.int .i64 op,.bool false,.string ⟨#[]⟩,.string ⟨#[]⟩,.string ⟨#[]⟩]).cells;refine bodyPost_ret (v:=.agg #[.int .i64 op,.bool false,.string ⟨#[]⟩,.string ⟨#[]⟩,.string ⟨#[]⟩]) (by simp[results,Tryz.results39,go_sem,hc]) rfl ⟨rfl,(Below.refl _ _).alloc (Nat.le_refl _) _⟩
set_option maxRecDepth 100000 in
set_option maxHeartbeats 800000 in
theorem lnumber_any (op n:Int) (w:World) (h0:-9223372036854775808≤n) (h1:n≤9223372036854775807):Calls Tryz.prog 40 #[.int .i64 op,.int .i64 n] w fun e w'=>e=.returned (nuN op n).v∧Below w.heap.size w w':=by
 have HO:=Lib.hid (fun W=>sOf_any n W h0 h1);have HN:Hid ((nuN op n).v=.agg #[.int .i64 op,.bool (ofI n).neg,.string (ofI n).num,.string (ofI n).den,.string ⟨#[]⟩]):=rfl;generalize nuN op n=nn at*;generalize ofI n=a at*;obtain⟨ng,nu,nd⟩:=a;unfold Ra.v at HO;simp only at HO HN;obtain⟨W,hW⟩:∃W,W=w.alloc (.cells #[.int .i64 0,.bool false,.string ⟨#[]⟩,.string ⟨#[]⟩,.string ⟨#[]⟩] 33):=⟨_,rfl⟩
 have hba:Below w.heap.size w W:=by rw[hW];exact (Below.refl _ _).alloc (Nat.le_refl _) _
 have hk0:Blk W w.heap.size 33 [.int .i64 0,.bool false,.string ⟨#[]⟩,.string ⟨#[]⟩,.string ⟨#[]⟩]:=by rw[hW];exact Blk.new w _ _
 have hsz:W.heap.size=w.heap.size+1:=by rw[hW];exact Array.size_push _
 obtain⟨B,hB⟩:∃B,B=w.heap.size:=⟨_,rfl⟩
 have HB:=Lib.hid hB;rw[←hB] at hba hsz hk0;go_enter Tryz.func40,Tryz.ntmps40;go_wp2_with fail;simp only[←hW,←hB]
 clear hW hB;refine (HO.out _).mono ?_;rintro e w1 ⟨rfl,hb1⟩;have hk:=hk0.below hb1 hk0.lt;have hB1:Below B w w1:=hba.trans (hb1.mono (Nat.le_of_lt hk0.lt));have hc:=hk.cells;have hf:=hk.froz;have HB1:=Lib.hid hB1;clear hb1 hB1 hba hk hk0;go_wp2;refine bodyPost_ret (v:=.agg #[.int .i64 op,.bool ng,.string nu,.string nd,.string ⟨#[]⟩]) (by simp[results,Tryz.results40,go_sem,hc]) rfl ⟨by rw[HN.out],?_⟩;rw[←HB.out];exact below_at5 HB1.out (Nat.le_refl _) _ _ _ _ _
def Zs (l:List Int):List Value:=l.map fun n=>.int .i64 n
theorem Zs_length (l:List Int):(Zs l).length=l.length:=by simp[Zs]
def nodeN (n:Int):Nd:=
 ⟨1+n % 24,if (shp (1+n % 24)).stp then stepR (n.tdiv 24) (n.tdiv 48) 3 else zR,if (shp (1+n % 24)).nam then poolS (n.tdiv 24) else ⟨#[]⟩⟩
def madeS (s:List Nd × Nat) (n:Int):List Nd × Nat:=
 if (shp (1+n % 24)).ops=0∨s.2<(shp (1+n % 24)).ops then (s.1++[leafN (n.tdiv 24)],s.2+1) else (s.1++[nodeN n],s.2-(shp (1+n % 24)).ops+1)
def madeP (l:List Int):List Nd × Nat:=l.foldl madeS ([],0)
def madeF (s:List Nd × Nat):List Nd × Nat:=if s.2=0 then (s.1++[nuN 3 1],1) else s
def madeE (l:List Int):List Nd:=(madeF (madeP (l.take 30))).1++List.replicate ((madeF (madeP (l.take 30))).2-1) (plN 9)
theorem madeP_snoc (l:List Int) (n:Int):madeP (l++[n])=madeS (madeP l) n:=by unfold madeP;rw[List.foldl_append];rfl
theorem madeS_len (s:List Nd × Nat) (n:Int):(madeS s n).1.length=s.1.length+1∧(madeS s n).2≤s.2+1:=by
 unfold madeS;split
 ·simp
 ·refine⟨by simp,?_⟩;show s.2-_+1≤s.2+1;omega
theorem foldS_len (l:List Int):∀s:List Nd × Nat,(l.foldl madeS s).1.length=s.1.length+l.length∧(l.foldl madeS s).2≤s.2+l.length:=by
 induction l with
 |nil=>intro s;exact⟨rfl,Nat.le_refl _⟩
 |cons n l ih=>
  intro s;obtain⟨h1,h2⟩:=ih (madeS s n);obtain⟨h3,h4⟩:=madeS_len s n;rw[List.foldl_cons,List.length_cons];omega
theorem madeP_len (l:List Int):(madeP l).1.length=l.length∧(madeP l).2≤l.length:=by
 have:=foldS_len l ([],0);unfold madeP;simp at this;exact this
end Go.Proofs.YtbicehdehiakgaaGreatDoor
