/- A part of the proof: ZF. -/
import Derived.Test.YtimokmplkpbmdaaGreatDoorTie
import Derived.Test.YtimokmplkpbmdaaGreatDoorCards
import Derived.Test.YtimokmplkpbmdaaGreatDoorQ44
import Derived.Test.YtimokmplkpbmdaaGreatDoorQ46
set_option linter.all false
set_option maxRecDepth 100000
set_option maxHeartbeats 0
namespace Go.Proofs.YtimokmplkpbmdaaGreatDoor
open Go.ChangeShapes Go.WideShapes Go.ChangeAt Go.RowKit
theorem acd {α:Type} {l:List α} (h:l.length=3):∃a b c,l=[a,b,c]:=by
 match l,h with
 |[a,b,c],_=>exact⟨a,b,c,rfl⟩
theorem OX {H:Type} {enc:TypeId × Value->H} {W:World} {base:Nat} {spare:Nat->Bool} {held:Bool} {r:Reach} {b0:Nat} {v:Value} {d:DataW H} {p:List MemPlace} (hv:Value.okWide Tryz.prog W r b0 58 v) (h:DataW.Trod enc Tryz.prog W base spare held 58 v d p):
  ∃x y z:Int,v=.agg #[.int .i64 x,.int .i64 y,.int .i64 z]/\(-9223372036854775808<=x/\x<=9223372036854775807)/\(-9223372036854775808<=y/\y<=9223372036854775807)/\(-9223372036854775808<=z/\z<=9223372036854775807):=by
 obtain⟨fuel,hf⟩:=h;have k1:Tryz.prog.cellsOf 3=1:=by kernel_rfl
 have k2:Tryz.prog.cellsOf 58=3:=by kernel_rfl
 obtain⟨cs,rfl,hsz⟩:=okWide_arr Tryz.underlying58 hv;obtain⟨cs⟩:=cs;have hcl:cs.length=3:=by rw[<-k2];exact hsz
 obtain⟨a0,a1,a2,rfl⟩:=acd hcl;have hf':DataW.trod enc Tryz.prog W base spare held fuel 58 [a0,a1,a2]=some (d,p):=hf;obtain⟨xs,m,_,ex,hxc,hxl,hx⟩:=DataW.trod_array Tryz.underlying58 hf';rw[k1] at hx;have g0:=hx 0 (by omega);have g1:=hx 1 (by omega);have g2:=hx 2 (by omega);obtain⟨x0,x1,x2,rfl⟩:=acd hxl;simp only[Nat.mul_one,List.drop_zero,List.take_succ_cons,List.take_zero,List.drop_succ_cons,List.getElem?_cons_zero,List.getElem?_cons_succ] at g0 g1 g2;obtain⟨q0,b0',_,w0⟩:=DataW.trod_int Tryz.underlying3 g0;obtain⟨q1,b1',_,w1⟩:=DataW.trod_int Tryz.underlying3 g1;obtain⟨q2,b2',_,w2⟩:=DataW.trod_int Tryz.underlying3 g2;injection b0' with b0';injection b1' with b1';injection b2' with b2';subst b0' b1' b2';exact⟨q0,q1,q2,rfl,AV w0,AV w1,AV w2⟩
theorem D7:∀t∈Tryz.f5.params.toList,Tryz.prog.readableRec t=true/\t<Tryz.prog.types.size:=by
 have hall:([22,22,58].all fun t=>Tryz.prog.readableRec t&&decide (t<Tryz.prog.types.size))=true:=by kernel_rfl
 rw[Tryz.params5];intro t ht;have hm:t∈[22,22,58]:=by simpa using ht
 simpa using List.all_eq_true.1 hall t hm
theorem Dy (os:Os) (started:os.Started) (H:Type) (enc:TypeId × Value->H):
  ReturnsInHanded {} Tryz.checked os 5 .any (fun w args=>(Rows.statuteSameSpec.pre enc Tryz.prog Tryz.f5 [] false w args/\laidMetH Tryz.prog OV w)/\sizedMet enc Tryz.prog Tryz.f5 (OpenSpec.ofChange Rows.statuteSameSpec) false w args)
   (Rows.statuteSameSpec.post enc Tryz.prog Tryz.f5 false true false false):=by
 refine Jh (C:=Tryz.checked) (X:=fun w _=>laidMetH Tryz.prog OV w) (fun _ _ _ hh h=>h.of_heap hh) Tryz.own started (by kernel_rfl) Tryz.func5
  (ChangeSpec.witness_shaped (enc:=enc) (C:=Tryz.checked) (os:=os) (X:=fun w _=>laidMetH Tryz.prog OV w) false (World.laidAll Tryz.prog os OV) #[.slice none 0 0,.slice none 0 0,.agg #[.int .i64 0,.int .i64 0,.int .i64 0]] 8 (World.laidAll_os _ _ _)
    (World.shaped_of_ZipB (by kernel_rfl) (by kernel_rfl)) (by kernel_rfl) (by kernel_rfl) (by kernel_rfl) (YM os _)) ?_
 intro W base args ds gs before hval0 hW hL hsh;have hval:∀(j:Nat) t v,Tryz.f5.params[j]?=some t->args[j]?=some v->Value.okWide Tryz.prog W .any base t v:=hval0;have hW':DataW.Whole enc Tryz.prog Tryz.f5.params.toList Rows.statuteSameSpec.vars false W args.toList ds gs before:=hW;obtain⟨p,q,hA0,hV,rfl,_,_⟩:=hW;have hA:DataW.TrodAll enc Tryz.prog W 0 (fun _=>true) true Tryz.f5.params.toList args.toList ds p:=hA0;rw[Tryz.params5] at hA hval;obtain⟨v0,v1,v2,d0,d1,d2,p0,p1,p2,rfl,rfl,rfl,h0,h1,h2⟩:=trodAll_three hA;obtain⟨rfl,rfl⟩:=trodVars_none hV;obtain⟨xs,hh,rfl,hR,hI⟩:=Dx (hval 0 22 v0 rfl rfl) h0;obtain⟨ys,kk,rfl,kR,kI⟩:=Dx (hval 1 22 v1 rfl rfl) h1;obtain⟨q0,q1,q2,rfl,r0,r1,r2⟩:=OX (hval 2 58 v2 rfl rfl) h2;have hK:=abb hL hsh;refine (YK xs ys hh kk q0 q1 q2 r0 r1 r2 W hK hR hI kR kI (fun X hX=>Vo X (hK.below hX))).mono fun e W' ⟨he,hb⟩=>?_
 subst he;exact⟨_,rfl,YL (H:=H) (enc:=enc) (P:=Tryz.prog) (f:=Tryz.f5) (s:=Rows.statuteSameSpec) (tb:=4) Tryz.laidOut rfl rfl rfl Tryz.underlying4 D7 hW' hb⟩
end Go.Proofs.YtimokmplkpbmdaaGreatDoor
