/- A part of the proof: X1. -/
import Derived.Test.YtimokmplkpbmdaaGreatDoorTie
import Derived.Test.YtimokmplkpbmdaaGreatDoorCards
import Derived.Test.YtimokmplkpbmdaaGreatDoorB42
import Derived.Test.YtimokmplkpbmdaaGreatDoorL05
set_option linter.all false
set_option maxRecDepth 100000
set_option maxHeartbeats 0
namespace Go.Proofs.YtimokmplkpbmdaaGreatDoor
open Go.ChangeShapes Go.WideShapes Go.ChangeAt Go.RowKit
theorem statuteLess_types:∀t∈Tryz.f3.params.toList,Tryz.prog.readableRec t=true/\t<Tryz.prog.types.size:=by
 have hall:([22,3].all fun t=>Tryz.prog.readableRec t&&decide (t<Tryz.prog.types.size))=true:=by kernel_rfl
 rw[Tryz.params3];intro t ht;have hm:t∈[22,3]:=by simpa using ht
 simpa using List.all_eq_true.1 hall t hm
theorem statuteLess_lifted (os:Os) (started:os.Started) (H:Type) (enc:TypeId × Value->H):
  ReturnsInHanded {} Tryz.checked os 3 .any (fun w args=>(Rows.statuteLessSpec.pre enc Tryz.prog Tryz.f3 [] false w args/\laidMetH Tryz.prog lds w)/\sizedMet enc Tryz.prog Tryz.f3 (OpenSpec.ofChange Rows.statuteLessSpec) false w args)
   (Rows.statuteLessSpec.post enc Tryz.prog Tryz.f3 false true false false):=by
 refine returns_shaped (C:=Tryz.checked) (X:=fun w _=>laidMetH Tryz.prog lds w) (fun _ _ _ hh h=>h.of_heap hh) Tryz.own started (by kernel_rfl) Tryz.func3
  (ChangeSpec.witness_shaped (enc:=enc) (C:=Tryz.checked) (os:=os) (X:=fun w _=>laidMetH Tryz.prog lds w) false (World.laidAll Tryz.prog os lds) #[.slice none 0 0,.int .i64 0] 8 (World.laidAll_os _ _ _)
    (World.shaped_of_ZipB (by kernel_rfl) (by kernel_rfl)) (by kernel_rfl) (by kernel_rfl) (by kernel_rfl) (world_met os _)) ?_
 intro W base args ds gs before hval0 hW hL hsh;have hval:∀(j:Nat) t v,Tryz.f3.params[j]?=some t->args[j]?=some v->Value.okWide Tryz.prog W .any base t v:=hval0;have hW':DataW.Whole enc Tryz.prog Tryz.f3.params.toList Rows.statuteLessSpec.vars false W args.toList ds gs before:=hW;obtain⟨p,q,hA0,hV,rfl,_,_⟩:=hW;have hA:DataW.TrodAll enc Tryz.prog W 0 (fun _=>true) true Tryz.f3.params.toList args.toList ds p:=hA0;rw[Tryz.params3] at hA hval;obtain⟨v0,v1,d0,d1,p0,p1,rfl,rfl,rfl,h0,h1⟩:=trodAll_two hA;obtain⟨rfl,rfl⟩:=trodVars_none hV;obtain⟨xs,hh,rfl,hR,hI⟩:=rows_of_trod (hval 0 22 v0 rfl rfl) h0;obtain⟨q,rfl,h00,h01⟩:=int_of_trod (hval 1 3 v1 rfl rfl) h1;have hK:=laidK_of hL hsh;refine (less_core xs hh q h00 h01 W hK hR hI (fun X hX=>sanity_any X (hK.below hX))).mono fun e W' ⟨he,hb⟩=>?_
 subst he;exact⟨_,rfl,post_true (H:=H) (enc:=enc) (P:=Tryz.prog) (f:=Tryz.f3) (s:=Rows.statuteLessSpec) (tb:=4) Tryz.laidOut rfl rfl rfl Tryz.underlying4 statuteLess_types hW' hb⟩
end Go.Proofs.YtimokmplkpbmdaaGreatDoor
