/- A part of the proof: S3. -/
import Derived.Test.YtimokmplkpbmdaaGreatDoorB15
import Derived.Test.YtimokmplkpbmdaaGreatDoorL00
set_option linter.all false
set_option maxRecDepth 100000
set_option maxHeartbeats 0
namespace Go.Proofs.YtimokmplkpbmdaaGreatDoor
open Go.RowKit
theorem okR_zero {a:Ra} (h:okR a=true) (h0:a.num=⟨#[]⟩):a=ofI 0:=by
 unfold okR at h;simp only[Bool.and_eq_true,decide_eq_true_eq] at h;obtain⟨⟨⟨h1,h2⟩,h3⟩,h4⟩:=h;rw[<-h4,h0];show low a.neg 0 _=_;unfold low;rw[Nat.gcd_zero_left,Nat.div_self h2];simp[ofI]
theorem signR_val (a:Ra):signR a=if (valR a).num.toList.isEmpty then 0 else if (valR a).neg then-1 else 1:=by
 unfold signR valR;cases h:okR a
 ·simp only[Bool.false_eq_true,if_false]
  rw[if_pos (show (ofI 0).num.toList.isEmpty=true from (emp_nil _).2 rfl)]
 ·simp only[if_true]
  by_cases h0:a.num=⟨#[]⟩
  ·rw[if_pos ((emp_nil _).2 h0),if_pos (okR_zero h h0)]
  ·rw[if_neg (fun hh=>h0 ((emp_nil _).1 hh)),if_neg (fun hh=>h0 (by rw[hh];rfl))]
theorem sSign_any (a:Ra) (w:World) (hn:a.num.size<=536870912) (hd:a.den.size<=536870912):
  Calls Tryz.prog 109 #[a.v] w fun e w'=>e=.returned (.int .i64 (signR a))/\Below w.heap.size w w':=by
 have HR:=zH (fun w=>svalue_any a w hn hd);have HV:=zH (signR_val a);generalize signR a=z at*;clear hn hd;generalize valR a=va at*;obtain⟨neg,num,den⟩:=a;obtain⟨vn,vu,vd⟩:=va;unfold Ra.v at HR⊢;simp only at HV;obtain⟨W,hW⟩:=zE (w.alloc (.cells #[.bool neg,.string num,.string den] 43));have hba:Below w.heap.size w W:=by rw[hW];exact zB _ _
 have hk0:Blk W w.heap.size 43 [.bool neg,.string num,.string den]:=by rw[hW];exact Blk.new w _ _
 have hsz:W.heap.size=w.heap.size+1:=by rw[hW];exact Array.size_push _
 obtain⟨B,hB⟩:=zE w.heap.size;have HB:=zH hB;rw[<-hB] at hba hsz hk0;have hc0:=hk0.cells;obtain⟨ve,hve⟩:∃x,vu.toList.isEmpty=x:=⟨_,rfl⟩
 rw[hve] at HV;cases vn<;>cases ve
 all_goals
  go_enter Tryz.func109,Tryz.ntmps109;go_wp2_with fail;simp only[<-hW,<-hB]
  clear hW hB;refine (HR.out _).mono ?_;rintro e w1 ⟨rfl,hb1⟩;have hk:=hk0.below hb1 hk0.lt;have hc:=hk.cells;have hf:=hk.froz;have HBW:=zH (hba.trans (hb1.mono (Nat.le_of_lt hk0.lt)));clear hb1 hk;go_wp2;go_ret;exact⟨by rw[HV.out];rfl,by rw[<-HB.out];exact below_set3 HBW.out _ _ _⟩
theorem sFits_any (a:Ra) (w:World) (hn:a.num.size<=536870912) (hd:a.den.size<=536870912):
  Calls Tryz.prog 107 #[a.v] w fun e w'=>e=.returned (.bool (fitsR a))/\Below w.heap.size w w':=by
 have HR:=zH (fun w=>sRight_any a w hn hd);have HN:=zH (fun w=>rBits_any a.num w (by omega));have HD:=zH (fun w=>rBits_any a.den w (by omega));have HF:Hid (fitsR a=(okR a&&decide (bitsN (vbs a.num)<=400)&&decide (bitsN (vbs a.den)<=400))):=rfl;generalize bitsN (vbs a.num)=bn at*;generalize bitsN (vbs a.den)=bd at*;clear hn hd;obtain⟨o,ho⟩:=zF (okR a);rw[ho] at HR HF;clear ho;generalize fitsR a=r at*;obtain⟨neg,num,den⟩:=a;unfold Ra.v at HR⊢;simp only at HN HD;obtain⟨W,hW⟩:=zE (w.alloc (.cells #[.bool neg,.string num,.string den] 43));have hba:Below w.heap.size w W:=by rw[hW];exact zB _ _
 have hk0:Blk W w.heap.size 43 [.bool neg,.string num,.string den]:=by rw[hW];exact Blk.new w _ _
 have hsz:W.heap.size=w.heap.size+1:=by rw[hW];exact Array.size_push _
 obtain⟨B,hB⟩:=zE w.heap.size;have HB:=zH hB;rw[<-hB] at hba hsz hk0;have hc0:=hk0.cells;cases o
 ·go_enter Tryz.func107,Tryz.ntmps107;go_wp2_with fail;simp only[<-hW,<-hB]
  clear hW hB;refine (HR.out _).mono ?_;rintro e w1 ⟨rfl,hb1⟩;go_wp2;go_ret;exact⟨by rw[HF.out];rfl,by rw[<-HB.out];exact hba.trans (hb1.mono (Nat.le_of_lt hk0.lt))⟩
 ·obtain⟨q,hq⟩:=zF (decide (bn<=400));have hq':decide ((bn:Int)<=400)=q:=by rw[<-hq,decide_eq_decide];omega
  obtain⟨p,hp⟩:=zF (decide (bd<=400));have hp':decide ((bd:Int)<=400)=p:=by rw[<-hp,decide_eq_decide];omega
  rw[hq,hp] at HF;clear hq hp;cases q
  all_goals
   go_enter Tryz.func107,Tryz.ntmps107;go_wp2_with fail;simp only[<-hW,<-hB]
   clear hW hB;refine (HR.out _).mono ?_;rintro e w1 ⟨rfl,hb1⟩;have hk1:=hk0.below hb1 hk0.lt;have hc1:=hk1.cells;have HBW:=zH (hba.trans (hb1.mono (Nat.le_of_lt hk0.lt)));clear hb1;go_wp2_with fail;refine (HN.out _).mono ?_;rintro e w2 ⟨rfl,rfl⟩
  ·go_wp2;go_ret;exact⟨by rw[HF.out];rfl,by rw[<-HB.out];exact HBW.out⟩
  ·go_wp2_with fail;refine (HD.out _).mono ?_;rintro e w2 ⟨rfl,rfl⟩;go_wp2;go_ret;exact⟨by rw[HF.out];rfl,by rw[<-HB.out];exact HBW.out⟩
end Go.Proofs.YtimokmplkpbmdaaGreatDoor
