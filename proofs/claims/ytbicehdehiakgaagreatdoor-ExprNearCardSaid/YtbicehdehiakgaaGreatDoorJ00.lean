/- A part of the proof: M3 M7. -/
import Derived.SevenTiedAt
import Derived.Deep.Slices
import Derived.Test.YtbicehdehiakgaaGreatDoorTie
import Derived.Test.YtbicehdehiakgaaGreatDoorCards
import Derived.Test.YtbicehdehiakgaaGreatDoorG24
import Derived.Test.YtbicehdehiakgaaGreatDoorG38
set_option linter.unusedVariables false
set_option linter.unusedSimpArgs false
namespace Go.Proofs.YtbicehdehiakgaaGreatDoor
open Go.ChangeShapes Go.WideShapes Go.ChangeAt Go.RowKit Go.Deep
theorem len5 {α:Type}:∀{l:List α},l.length=5→∃a b c d e,l=[a,b,c,d,e]
 |[a,b,c,d,e],_=>⟨a,b,c,d,e,rfl⟩
theorem len3 {α:Type}:∀{l:List α},l.length=3→∃a b c,l=[a,b,c]
 |[a,b,c],_=>⟨a,b,c,rfl⟩
set_option maxRecDepth 100000 in
theorem nd_of_trod {H:Type} {enc:TypeId × Value→H} {w:World} {base:Nat} {spare:Nat→Bool} {held:Bool} {fuel:Nat} {cs:List Value} {x:DataW H × List MemPlace} (h:DataW.trod enc Tryz.prog w base spare held fuel 33 cs=some x):∃n:Nd,cs=n.cells:=by
 have k0:Tryz.prog.cellsOf 9=1:=by kernel_rfl
 have k1:Tryz.prog.cellsOf 3=1:=by kernel_rfl
 have k2:Tryz.prog.cellsOf 4=1:=by kernel_rfl
 have k3:Tryz.prog.cellsOf 31=3:=by kernel_rfl
 have k4:Tryz.prog.cellsOf 29=1:=by kernel_rfl
 have k5:Tryz.prog.cellsOf 33=5:=by kernel_rfl
 obtain⟨ys,n',_,ey,hyc,hyl,hf⟩:=DataW.trod_struct Tryz.underlying33 h;rw[k5] at hyc;obtain⟨y0,y1,y2,rfl⟩:=len3 hyl;obtain⟨c0,c1,c2,c3,c4,rfl⟩:=len5 hyc;have f0:=hf 0 _ rfl;have f1:=hf 1 _ rfl;have f2:=hf 2 _ rfl;simp only[List.getElem_toArray,List.getElem_cons_zero,List.getElem_cons_succ,k0,k1,k3,List.drop_zero,List.take_succ_cons,List.take_zero,List.drop_succ_cons,List.getElem?_cons_zero,List.getElem?_cons_succ] at f0 f1 f2;obtain⟨op,a0,_,_⟩:=DataW.trod_int Tryz.underlying3 f0;obtain⟨nm,a4,_,_⟩:=DataW.trod_string Tryz.underlying9 f2;obtain⟨zs,n2,_,ez,hzc,hzl,hg⟩:=DataW.trod_struct Tryz.underlying31 f1;obtain⟨z0,z1,z2,rfl⟩:=len3 hzl;have g0:=hg 0 _ rfl;have g1:=hg 1 _ rfl;have g2:=hg 2 _ rfl;simp only[List.getElem_toArray,List.getElem_cons_zero,List.getElem_cons_succ,k2,k4,List.drop_zero,List.take_succ_cons,List.take_zero,List.drop_succ_cons,List.getElem?_cons_zero,List.getElem?_cons_succ] at g0 g1 g2;obtain⟨neg,a1,_⟩:=DataW.trod_bool Tryz.underlying4 g0;obtain⟨num,a2,_,_⟩:=DataW.trod_string Tryz.underlying29 g1;obtain⟨den,a3,_,_⟩:=DataW.trod_string Tryz.underlying29 g2;injection a0 with a0;injection a1 with a1;injection a2 with a2;injection a3 with a3;injection a4 with a4;subst a0 a1 a2 a3 a4;exact⟨⟨op,⟨neg,num,den⟩,nm⟩,rfl⟩
end Go.Proofs.YtbicehdehiakgaaGreatDoor
namespace Go.Proofs.YtbicehdehiakgaaGreatDoor
open Go.ChangeShapes Go.WideShapes Go.ChangeAt Go.RowKit
theorem okWide_arr {P:Program} {w:World} {r:Reach} {base:Nat} {t:TypeId} {n:Nat} {e:TypeId} {v:Value} (ht:P.underlying t=some (.array n e)) (h:Value.okWide P w r base t v):∃cs,v=.agg cs∧cs.size=P.cellsOf t:=by
 simp only[Value.okWide,ht] at h;obtain⟨cs,h1,h2,_⟩:=h;exact⟨cs,h1,h2⟩
theorem len2t {α:Type}:∀{l:List α},l.length=2→∃a b,l=[a,b]
 |[a,b],_=>⟨a,b,rfl⟩
end Go.Proofs.YtbicehdehiakgaaGreatDoor
