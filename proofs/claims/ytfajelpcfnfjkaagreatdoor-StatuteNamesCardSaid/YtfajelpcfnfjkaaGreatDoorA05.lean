/- A part of the proof: R3. -/
import Derived.Test.YtfajelpcfnfjkaaGreatDoorA02
import Derived.Test.YtfajelpcfnfjkaaGreatDoorA04
set_option linter.unusedVariables false
set_option linter.unusedSimpArgs false
namespace Go.Proofs.YtfajelpcfnfjkaaGreatDoor
open Go.RowKit
theorem conv_own {w:World} {base:Nat} {v:Value} {n:Nat} {l:List UInt8} (src dst:TypeId) (hs:Tryz.prog.underlying src=some (.slice 5)) (hd:Tryz.prog.underlying dst=some .string)
  (h:w.ownsRow base 5 1 v n (U8 l)):∃A cap,v=.slice A n cap∧(convert src dst (.slice A n cap)).run Tryz.prog w=.ok (.string ⟨l.toArray⟩) w:=by
 obtain⟨A,cap,rfl,h1,h2,h3,h4⟩:=own_rd h;rw[U8_length,Nat.mul_one] at h4;refine⟨A,cap,rfl,?_⟩;rcases h3 with h3|⟨b,off,rfl,hb,hc⟩
 ·have hl:l=[]:=by
   have:=congrArg List.length h3;rw[U8_length] at this;exact List.eq_nil_of_length_eq_zero this
  subst hl;rw[show n=0 from h4.symm];rw[run_convert_bytes_string w src dst 5 A 0 cap hs Tryz.underlying5 hd];cases A<;>(simp[Conv.bytesToString];rfl)
 ·rw[←h4]
  exact run_convert_bytes_back w src dst 5 ⟨b,off,none⟩ cap l hs Tryz.underlying5 hd (fun j hj=>by
   rw[show Addr.add ⟨b,off,none⟩ j=⟨b,off+j,none⟩ from by unfold Addr.add;split<;>simp_all,hc j (by rw[U8_length];exact hj)];simp[U8])
end Go.Proofs.YtfajelpcfnfjkaaGreatDoor
