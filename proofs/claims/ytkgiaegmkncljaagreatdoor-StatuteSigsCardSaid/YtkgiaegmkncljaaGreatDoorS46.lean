/- A part of the proof: the lifted law. -/
import Derived.SevenTiedAt
import Derived.Test.YtkgiaegmkncljaaGreatDoorTie
import Derived.Test.YtkgiaegmkncljaaGreatDoorCards
import Derived.Test.YtkgiaegmkncljaaGreatDoorS39
import Derived.Test.YtkgiaegmkncljaaGreatDoorS40
import Derived.Test.YtkgiaegmkncljaaGreatDoorS41
import Derived.Test.YtkgiaegmkncljaaGreatDoorS45
set_option linter.unusedVariables false
set_option linter.unusedSimpArgs false
set_option maxRecDepth 100000
set_option maxHeartbeats 40000000
namespace Go.Proofs.YtkgiaegmkncljaaGreatDoor
open Go.ChangeShapes Go.WideShapes Go.ChangeAt Go.RowKit
theorem statuteSigs_types:∀t∈Tryz.f3.params.toList,Tryz.prog.readableRec t=true∧t<Tryz.prog.types.size:=by
 have hall:([22,23,24].all fun t=>Tryz.prog.readableRec t&&decide (t<Tryz.prog.types.size))=true:=by kernel_rfl
 rw[Tryz.params3];intro t ht;have hm:t∈[22,23,24]:=by simpa using ht
 simpa using List.all_eq_true.1 hall t hm
theorem statuteSigs_lifted (os:Os) (started:os.Started) (H:Type) (enc:TypeId × Value→H):
  ReturnsInHanded {} Tryz.checked os 3 .any (fun w args=>(Rows.statuteSigsSpec.pre enc Tryz.prog Tryz.f3 [] false w args∧laidMetH Tryz.prog lds w)∧sizedMet enc Tryz.prog Tryz.f3 (OpenSpec.ofChange Rows.statuteSigsSpec) false w args)
   (Rows.statuteSigsSpec.post enc Tryz.prog Tryz.f3 false true false false):=by
 refine returns_shaped (C:=Tryz.checked) (X:=fun w _=>laidMetH Tryz.prog lds w) (fun _ _ _ hh h=>h.of_heap hh) Tryz.own started (by kernel_rfl) Tryz.func3
  (ChangeSpec.witness_shaped (enc:=enc) (C:=Tryz.checked) (os:=os) (X:=fun w _=>laidMetH Tryz.prog lds w) false (World.laidAll Tryz.prog os lds) #[.slice none 0 0,.slice none 0 0,.agg #[.int .i64 0,.int .i64 0]] 8 (World.laidAll_os _ _ _)
    (World.shaped_of_ZipB (by kernel_rfl) (by kernel_rfl)) (by kernel_rfl) (by kernel_rfl) (by kernel_rfl) (world_met os _)) ?_
 intro W base args ds gs before hval0 hW hL hsh;have hval:∀(j:Nat) t v,Tryz.f3.params[j]?=some t→args[j]?=some v→Value.okWide Tryz.prog W .any base t v:=hval0;have hW':DataW.Whole enc Tryz.prog Tryz.f3.params.toList Rows.statuteSigsSpec.vars false W args.toList ds gs before:=hW;obtain⟨p,q,hA0,hV,rfl,_,_⟩:=hW;have hA:DataW.TrodAll enc Tryz.prog W 0 (fun _=>true) true Tryz.f3.params.toList args.toList ds p:=hA0;rw[Tryz.params3] at hA hval;obtain⟨v0,v1,v2,d0,d1,d2,p0,p1,p2,rfl,rfl,rfl,h0,h1,h2⟩:=trodAll_three hA;obtain⟨rfl,rfl⟩:=trodVars_none hV;obtain⟨xs,hh,rfl,hR,hI⟩:=rows_of_trod (hval 0 22 v0 rfl rfl) h0;obtain⟨z,rfl,hZ⟩:=row_of_trod (hval 1 23 v1 rfl rfl) h1;obtain⟨q0,q1,rfl,⟨h00,h01⟩,h10,h11⟩:=pair_of_trod (hval 2 24 v2 rfl rfl) h2;have hK:=laidK_of hL hsh;refine (sigs_core xs hh z q0 q1 h00 h01 h10 h11 W hK hR hI hZ (fun X hX=>sanity_any X (hK.below hX))).mono fun e W' ⟨he,hb⟩=>?_
 subst he;exact⟨_,rfl,post_true (H:=H) (enc:=enc) (P:=Tryz.prog) (f:=Tryz.f3) (s:=Rows.statuteSigsSpec) (tb:=4) Tryz.laidOut rfl rfl rfl Tryz.underlying4 statuteSigs_types hW' hb⟩
end Go.Proofs.YtkgiaegmkncljaaGreatDoor
