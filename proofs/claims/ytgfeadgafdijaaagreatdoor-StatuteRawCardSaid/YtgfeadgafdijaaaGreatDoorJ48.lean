/- For every law, of whatever size, the errors, sigs and texts that statute returns for it, cut to its sizes, are those of the reference model. Conditions: the package-level variables that the row lists hold what the program's own text lays in them. -/
import Derived.SevenTiedAt
import Derived.Test.YtgfeadgafdijaaaGreatDoorTie
import Derived.Test.YtgfeadgafdijaaaGreatDoorCards
import Derived.Test.YtgfeadgafdijaaaGreatDoorJ41
import Derived.Test.YtgfeadgafdijaaaGreatDoorJ42
import Derived.Test.YtgfeadgafdijaaaGreatDoorJ43
import Derived.Test.YtgfeadgafdijaaaGreatDoorJ47
set_option linter.unusedVariables false
set_option linter.unusedSimpArgs false
set_option maxRecDepth 100000
set_option maxHeartbeats 40000000
namespace Go.Proofs.YtgfeadgafdijaaaGreatDoor
open Go.ChangeShapes Go.WideShapes Go.ChangeAt Go.RowKit
theorem GY:∀t∈Tryz.f3.params.toList,Tryz.prog.readableRec t=true∧t<Tryz.prog.types.size:=by
 have hall:([26].all fun t=>Tryz.prog.readableRec t&&decide (t<Tryz.prog.types.size))=true:=by kernel_rfl
 rw[Tryz.params3];intro t ht;have hm:t∈[26]:=by simpa using ht
 simpa using List.all_eq_true.1 hall t hm
theorem EY (os:Os) (started:os.Started) (H:Type) (enc:TypeId × Value→H):
  ReturnsInHanded {} Tryz.checked os 3 .any (fun w args=>(Rows.statuteRawSpec.pre enc Tryz.prog Tryz.f3 [] false w args∧laidMetH Tryz.prog Px w)∧sizedMet enc Tryz.prog Tryz.f3 (OpenSpec.ofChange Rows.statuteRawSpec) false w args)
   (Rows.statuteRawSpec.post enc Tryz.prog Tryz.f3 false true false false):=by
 refine JW (C:=Tryz.checked) (X:=fun w _=>laidMetH Tryz.prog Px w) (fun _ _ _ hh h=>h.of_heap hh) Tryz.own started (by kernel_rfl) Tryz.func3
  (ChangeSpec.witness_shaped (enc:=enc) (C:=Tryz.checked) (os:=os) (X:=fun w _=>laidMetH Tryz.prog Px w) false (World.laidAll Tryz.prog os Px) #[.agg #[.slice none 0 0,.slice none 0 0,.slice none 0 0]] 8 (World.laidAll_os _ _ _)
    (World.shaped_of_ZipB (by kernel_rfl) (by kernel_rfl)) (by kernel_rfl) (by kernel_rfl) (by kernel_rfl) (Yb os _)) ?_
 intro W base args ds gs before hval0 hW hL hsh;have hval:∀(j:Nat) t v,Tryz.f3.params[j]?=some t→args[j]?=some v→Value.okWide Tryz.prog W .any base t v:=hval0;have hW':DataW.Whole enc Tryz.prog Tryz.f3.params.toList Rows.statuteRawSpec.vars false W args.toList ds gs before:=hW;obtain⟨p,q,hA0,hV,rfl,_,_⟩:=hW;have hA:DataW.TrodAll enc Tryz.prog W 0 (fun _=>true) true Tryz.f3.params.toList args.toList ds p:=hA0;rw[Tryz.params3] at hA hval;obtain⟨v0,d0,rfl,rfl,h0⟩:=trodAll_one hA;obtain⟨rfl,rfl⟩:=trodVars_none hV;obtain⟨l,ss,ps,f,s,p,rfl,hl⟩:=aep (hval 0 26 v0 rfl rfl) h0;have hK:=Z7 hL hsh;refine (ZY l ss ps f s p W hK hl (fun W' hb=>Vj W' (hK.below hb))).mono fun e W' ⟨he,hb⟩=>?_
 subst he;exact⟨_,rfl,Ya (H:=H) (enc:=enc) (P:=Tryz.prog) (f:=Tryz.f3) (s:=Rows.statuteRawSpec) (tb:=4) Tryz.laidOut rfl rfl rfl Tryz.underlying4 GY hW' hb⟩
theorem GZ:Rows.StatuteRawSaid:=
 OpenClaim.holds_of_wide 3 Tryz.f3 rfl rfl rfl rfl rfl rfl rfl ⟨rfl,rfl,rfl,rfl,rfl⟩ rfl rfl rfl rfl rfl (by as_aux_lemma=>kernel_rfl) Tryz.func3 (by as_aux_lemma=>kernel_rfl)
  (of_decide_eq_true (by as_aux_lemma=>kernel_rfl)) (by as_aux_lemma=>unfold Func.isWrapper;first|(rw[if_pos (by decide+kernel)];kernel_rfl)|(rw[if_neg (by decide+kernel)];exact⟨rfl,rfl⟩))
  (fun os started H enc _=>EY os started H enc)
theorem statuteRaw_card:Rows.StatuteRawCardSaid:=
 Claim7.holds_tied_plain_at .later [] [.data,.data,.data,.data,.sentinel,.sentinel,.widerDeep,.data,.data,.data,.data,.data,.pinned] true Rows.statuteRawCard.stood.harness true
  GZ (fun _ h=>by cases h) (by as_aux_lemma=>kernel_rfl) (fun _ h=>by cases h) statuteRaw_row_tie rfl ⟨rfl,rfl⟩ (by as_aux_lemma=>kernel_rfl) rfl
  (fun f fn hf hfn=>by
    obtain rfl:f=3:=Option.some.inj ((show Tryz.prog.funcNamed "tithing/tithinglaw11.StatuteRaw" =some 3 by kernel_rfl).symm.trans hf) |>.symm
    obtain rfl:fn=Tryz.f3:=(Option.some.inj (Tryz.func3.symm.trans hfn)).symm
    exact⟨by kernel_rfl,fun j t ht=>by
     rw[Tryz.params3] at ht;have hm:t∈[26]:=by simpa using Array.mem_of_getElem? ht
     have hall:([26].all fun u=> !Tryz.prog.wantsStandIn u)=true:=by kernel_rfl
     exact (show Tryz.prog.wantsStandIn t=false by simpa using List.all_eq_true.1 hall t hm)⟩)
  (by as_aux_lemma=>kernel_rfl)
end Go.Proofs.YtgfeadgafdijaaaGreatDoor
