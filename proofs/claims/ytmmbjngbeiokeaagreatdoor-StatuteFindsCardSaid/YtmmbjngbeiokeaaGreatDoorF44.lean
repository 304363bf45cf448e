/- In every law that is made, the provisions are found by their names, and no others. Conditions: the package-level variables that the row lists hold what the program's own text lays in them. -/
import Derived.SevenTiedAt
import Derived.Test.YtmmbjngbeiokeaaGreatDoorTie
import Derived.Test.YtmmbjngbeiokeaaGreatDoorCards
import Derived.Test.YtmmbjngbeiokeaaGreatDoorF32
import Derived.Test.YtmmbjngbeiokeaaGreatDoorF36
import Derived.Test.YtmmbjngbeiokeaaGreatDoorF37
import Derived.Test.YtmmbjngbeiokeaaGreatDoorF38
import Derived.Test.YtmmbjngbeiokeaaGreatDoorF43
set_option linter.unusedVariables false
set_option linter.unusedSimpArgs false
set_option maxRecDepth 100000
set_option maxHeartbeats 40000000
namespace Go.Proofs.YtmmbjngbeiokeaaGreatDoor
open Go.ChangeShapes Go.WideShapes Go.ChangeAt Go.RowKit
theorem statuteFinds_types:∀t∈Tryz.f3.params.toList,Tryz.prog.readableRec t=true∧t<Tryz.prog.types.size:=by
 have hall:([22,9].all fun t=>Tryz.prog.readableRec t&&decide (t<Tryz.prog.types.size))=true:=by kernel_rfl
 rw[Tryz.params3];intro t ht;have hm:t∈[22,9]:=by simpa using ht
 simpa using List.all_eq_true.1 hall t hm
theorem statuteFinds_lifted (os:Os) (started:os.Started) (H:Type) (enc:TypeId × Value→H):
  ReturnsInHanded {} Tryz.checked os 3 .any (fun w args=>(Rows.statuteFindsSpec.pre enc Tryz.prog Tryz.f3 [] false w args∧laidMetH Tryz.prog lds w)∧sizedMet enc Tryz.prog Tryz.f3 (OpenSpec.ofChange Rows.statuteFindsSpec) false w args)
   (Rows.statuteFindsSpec.post enc Tryz.prog Tryz.f3 false true false false):=by
 refine returns_shaped (C:=Tryz.checked) (X:=fun w _=>laidMetH Tryz.prog lds w) (fun _ _ _ hh h=>h.of_heap hh) Tryz.own started (by kernel_rfl) Tryz.func3
  (ChangeSpec.witness_shaped (enc:=enc) (C:=Tryz.checked) (os:=os) (X:=fun w _=>laidMetH Tryz.prog lds w) false (World.laidAll Tryz.prog os lds) #[.slice none 0 0,.string ⟨#[]⟩] 8 (World.laidAll_os _ _ _)
    (World.shaped_of_ZipB (by kernel_rfl) (by kernel_rfl)) (by kernel_rfl) (by kernel_rfl) (by kernel_rfl) (world_met os _)) ?_
 intro W base args ds gs before hval0 hW hL hsh;have hval:∀(j:Nat) t v,Tryz.f3.params[j]?=some t→args[j]?=some v→Value.okWide Tryz.prog W .any base t v:=hval0;have hW':DataW.Whole enc Tryz.prog Tryz.f3.params.toList Rows.statuteFindsSpec.vars false W args.toList ds gs before:=hW;obtain⟨p,q,hA0,hV,rfl,_,_⟩:=hW;have hA:DataW.TrodAll enc Tryz.prog W 0 (fun _=>true) true Tryz.f3.params.toList args.toList ds p:=hA0;rw[Tryz.params3] at hA hval;obtain⟨v0,v1,d0,d1,p0,p1,rfl,rfl,rfl,h0,h1⟩:=trodAll_two hA;obtain⟨rfl,rfl⟩:=trodVars_none hV;obtain⟨xs,hh,rfl,hR,hI⟩:=rows_of_trod (hval 0 22 v0 rfl rfl) h0;obtain⟨S,rfl⟩:=okWide_string Tryz.underlying9 (hval 1 9 v1 rfl rfl);have hK:=laidK_of hL hsh
 haveI:Inhabited (Pv × Hd):=⟨zPv⟩
 refine (finds_core xs hh S (S.extract 0 (min S.size 25)) (fun W=>nshort_any S W) W hR hI (sanity_any W hK)).mono fun e W' ⟨he,hb⟩=>?_
 subst he;exact⟨_,rfl,post_true (H:=H) (enc:=enc) (P:=Tryz.prog) (f:=Tryz.f3) (s:=Rows.statuteFindsSpec) (tb:=4) Tryz.laidOut rfl rfl rfl Tryz.underlying4 statuteFinds_types hW' hb⟩
theorem statuteFinds_holds:Rows.StatuteFindsSaid:=
 OpenClaim.holds_of_wide 3 Tryz.f3 rfl rfl rfl rfl rfl rfl rfl ⟨rfl,rfl,rfl,rfl,rfl⟩ rfl rfl rfl rfl rfl (by kernel_rfl) Tryz.func3 (by kernel_rfl)
  (of_decide_eq_true (by kernel_rfl)) (by unfold Func.isWrapper;first|(rw[if_pos (by decide+kernel)];kernel_rfl)|(rw[if_neg (by decide+kernel)];exact⟨rfl,rfl⟩))
  (fun os started H enc _=>statuteFinds_lifted os started H enc)
theorem statuteFinds_card:Rows.StatuteFindsCardSaid:=
 Claim7.holds_tied_plain_at .later [] [.data,.data,.data,.data,.sentinel,.sentinel,.widerDeep,.data,.data,.data,.data,.data,.pinned] true Rows.statuteFindsCard.stood.harness true
  statuteFinds_holds (fun _ h=>by cases h) (by kernel_rfl) (fun _ h=>by cases h) statuteFinds_row_tie rfl ⟨rfl,rfl⟩ (by kernel_rfl) rfl
  (fun f fn hf hfn=>by
    obtain rfl:f=3:=Option.some.inj ((show Tryz.prog.funcNamed "tithing/tithinglaw11.StatuteFinds" =some 3 by kernel_rfl).symm.trans hf) |>.symm
    obtain rfl:fn=Tryz.f3:=(Option.some.inj (Tryz.func3.symm.trans hfn)).symm
    exact⟨by kernel_rfl,fun j t ht=>by
     rw[Tryz.params3] at ht;have hm:t∈[22,9]:=by simpa using Array.mem_of_getElem? ht
     have hall:([22,9].all fun u=> !Tryz.prog.wantsStandIn u)=true:=by kernel_rfl
     exact (show Tryz.prog.wantsStandIn t=false by simpa using List.all_eq_true.1 hall t hm)⟩)
  (by kernel_rfl)
end Go.Proofs.YtmmbjngbeiokeaaGreatDoor
