/- A part of the proof: M3 Lo. -/
import Derived.SevenTiedAt
import Derived.Deep.Slices
import Derived.Test.YtbicehdehiakgaaGreatDoorTie
import Derived.Test.YtbicehdehiakgaaGreatDoorCards
import Derived.Test.YtbicehdehiakgaaGreatDoorG24
import Derived.Test.YtbicehdehiakgaaGreatDoorG37
import Derived.Test.YtbicehdehiakgaaGreatDoorG38
set_option linter.unusedVariables false
set_option linter.unusedSimpArgs false
namespace Go.Proofs.YtbicehdehiakgaaGreatDoor
open Go.ChangeShapes Go.WideShapes Go.ChangeAt Go.RowKit Go.Deep
theorem len5 {α:Type}:∀{l:List α},l.length=5→∃a b c d e,l=[a,b,c,d,e]
 |[a,b,c,d,e],_=>⟨a,b,c,d,e,rfl⟩
theorem len3 {α:Type}:∀{l:List α},l.length=3→∃a b c,l=[a,b,c]
 |[a,b,c],_=>⟨a,b,c,rfl⟩
theorem add_none (b off m:Nat):(⟨b,off,none⟩:Addr).add m=⟨b,off+m,none⟩:=by unfold Addr.add;split<;>simp_all
set_option maxRecDepth 100000 in
theorem nd_of_trod {H:Type} {enc:TypeId × Value→H} {w:World} {base:Nat} {spare:Nat→Bool} {held:Bool} {fuel:Nat} {cs:List Value} {x:DataW H × List MemPlace} (h:DataW.trod enc Tryz.prog w base spare held fuel 33 cs=some x):∃n:Nd,cs=n.cells:=by
 have k0:Tryz.prog.cellsOf 9=1:=by kernel_rfl
 have k1:Tryz.prog.cellsOf 3=1:=by kernel_rfl
 have k2:Tryz.prog.cellsOf 4=1:=by kernel_rfl
 have k3:Tryz.prog.cellsOf 31=3:=by kernel_rfl
 have k4:Tryz.prog.cellsOf 29=1:=by kernel_rfl
 have k5:Tryz.prog.cellsOf 33=5:=by kernel_rfl
 obtain⟨ys,n',_,ey,hyc,hyl,hf⟩:=DataW.trod_struct Tryz.underlying33 h;rw[k5] at hyc;obtain⟨y0,y1,y2,rfl⟩:=len3 hyl;obtain⟨c0,c1,c2,c3,c4,rfl⟩:=len5 hyc;have f0:=hf 0 _ rfl;have f1:=hf 1 _ rfl;have f2:=hf 2 _ rfl;simp only[List.getElem_toArray,List.getElem_cons_zero,List.getElem_cons_succ,k0,k1,k3,List.drop_zero,List.take_succ_cons,List.take_zero,List.drop_succ_cons,List.getElem?_cons_zero,List.getElem?_cons_succ] at f0 f1 f2;obtain⟨op,a0,_,_⟩:=DataW.trod_int Tryz.underlying3 f0;obtain⟨nm,a4,_,_⟩:=DataW.trod_string Tryz.underlying9 f2;obtain⟨zs,n2,_,ez,hzc,hzl,hg⟩:=DataW.trod_struct Tryz.underlying31 f1;obtain⟨z0,z1,z2,rfl⟩:=len3 hzl;have g0:=hg 0 _ rfl;have g1:=hg 1 _ rfl;have g2:=hg 2 _ rfl;simp only[List.getElem_toArray,List.getElem_cons_zero,List.getElem_cons_succ,k2,k4,List.drop_zero,List.take_succ_cons,List.take_zero,List.drop_succ_cons,List.getElem?_cons_zero,List.getElem?_cons_succ] at g0 g1 g2;obtain⟨neg,a1,_⟩:=DataW.trod_bool Tryz.underlying4 g0;obtain⟨num,a2,_,_⟩:=DataW.trod_string Tryz.underlying29 g1;obtain⟨den,a3,_,_⟩:=DataW.trod_string Tryz.underlying29 g2;injection a0 with a0;injection a1 with a1;injection a2 with a2;injection a3 with a3;injection a4 with a4;subst a0 a1 a2 a3 a4;exact⟨⟨op,⟨neg,num,den⟩,nm⟩,rfl⟩
set_option maxRecDepth 100000 in
theorem es_of_trod {H:Type} {enc:TypeId × Value→H} {W:World} {base:Nat} {spare:Nat→Bool} {held:Bool} {r:Reach} {b0:Nat} {v:Value} {d:DataW H} {p:List MemPlace} (hv:Value.okWide Tryz.prog W r b0 22 v) (h:DataW.Trod enc Tryz.prog W base spare held 22 v d p):
  ∃es A n c,v=.slice A n c∧Es W es A n c:=by
 obtain⟨fuel,hf⟩:=h;have k5:Tryz.prog.cellsOf 33=5:=by kernel_rfl
 obtain⟨A,n,c,rfl⟩:=okWide_slice Tryz.underlying22 hv;rcases open_slice Tryz.underlying22 hf with⟨hcs,_⟩|⟨a,len,cap,m,n',D,Pl,hcs,hb,hl,hm,hmm,hx,hi⟩
 ·have hcs:[Value.slice A n c]=[.slice none 0 0]:=hcs;injection hcs with hcs _;injection hcs with h1 h2 h3;subst h1 h2 h3;exact⟨[],none,0,0,rfl,Es.nil W⟩
 ·have hcs:[Value.slice A n c]=[.slice (some a) len cap]:=hcs;injection hcs with hcs _;injection hcs with h1 h2 h3;subst h1 h2 h3;have hlm:n≤m:=by rw[hmm];split<;>omega
  rw[k5] at hi
  have hex:∀i,∃x:Nd,i<n→∀j,j<5→W.cell? ((a.add (i*5)).add j)=x.cells[j]?:=by
   intro i;by_cases hin:i<n
   ·obtain⟨cs',h1,h2⟩:=hi i (Nat.lt_of_lt_of_le hin hlm);obtain⟨_,_,h3⟩:=World.cells?_some h1;obtain⟨x,rfl⟩:=nd_of_trod h2;exact⟨x,fun _ j hj=>h3 j hj⟩
   ·exact⟨⟨0,zR,⟨#[]⟩⟩,fun h=>absurd h hin⟩
  obtain⟨f,hf⟩:=Classical.axiomOfChoice hex;refine⟨(List.range n).map f,some a,n,c,rfl,by simp,hl,hm,?_⟩;by_cases hn:n=0
  ·subst hn;exact .inl rfl
  ·have h00:=hf 0 (by omega) 0 (by omega);obtain⟨b,off,spot⟩:=a
   have hspot:spot=none:=by
    have:=World.cell?_spot h00;simpa [Addr.add] using this
   subst hspot;refine .inr ⟨b,off,rfl,?_,fun i hil=>?_⟩
   ·rw[add_none,add_none] at h00;exact cell_lt h00
   ·rw[nds_length,List.length_map,List.length_range] at hil;obtain⟨k,j,hj,rfl⟩:∃k j,j<5∧i=k*5+j:=⟨i / 5,i % 5,Nat.mod_lt _ (by omega),by omega⟩
    have h1:=hf k (by omega) j hj;rw[add_none,add_none,Nat.add_assoc] at h1;rw[h1];have h2:=nds_get ((List.range n).map f) k j (by simp;omega) hj;rw[←List.getElem?_eq_getElem,h2];simp
end Go.Proofs.YtbicehdehiakgaaGreatDoor
namespace Go.Proofs.YtbicehdehiakgaaGreatDoor
open Go.RowKit
set_option maxRecDepth 100000 in
set_option maxHeartbeats 3200000 in
theorem loccurs_any (es:List Nd) (name:ByteArray) (A1:Option Addr) (l1 c1:Nat) (w:World) (hL:LaidE w) (h1:Es w es A1 l1 c1) (hf1:∀n∈es,Fine n):
  Calls Tryz.prog 29 #[.slice A1 l1 c1,.string name] w fun e w'=>e=.returned (.bool (occB es name))∧Below w.heap.size w w':=by
 have HR:=Lib.hid (eRefs_any es A1 l1 c1 w hL h1 hf1);have HO:Hid (occB es name=(refsE es).any fun n=>decide (n.op=6)&&decide (n.name=name)):=rfl;generalize occB es name=oc at*;generalize refsE es=rs at*;clear hL h1 hf1;go_enter Tryz.func29,Tryz.ntmps29;go_wp2_with fail;refine HR.out.mono ?_;rintro e w1 ⟨A,n,c,rfl,hr,hb1⟩;obtain rfl:n=rs.length:=hr.len;have hmx:rs.length≤maxLen:=Nat.le_trans hr.cap hr.max;unfold maxLen at hmx;have HRS:=Lib.hid hr;have HB:=Lib.hid hb1;clear hr hb1 HR;go_wp2
 go_loopg [6] rs.length (fun g iv wr=>∃k:Nat,k+g=rs.length∧iv=.int .i64 k∧Hid (oc=(rs.drop k).any fun n=>decide (n.op=6)&&decide (n.name=name))∧Below w1.heap.size w1 wr)
 case atStart=>exact⟨0,by omega,rfl,HO.out,Below.refl _ _⟩
 case round=>
  obtain⟨k,hk,rfl,hoc,hbr⟩:=hrel;by_cases hlt:k<rs.length
  ·obtain⟨b,off,hA,hb,y0,y1,y2,y3,y4⟩:=HRS.out.rd.nd hlt;subst hA
   have HD:Hid (oc=((decide (rs[k].op=6)&&decide (rs[k].name=name))||(rs.drop (k+1)).any fun n=>decide (n.op=6)&&decide (n.name=name))):=by
    show _=_;rw[hoc.out,List.drop_eq_getElem_cons hlt,List.any_cons]
   generalize rs[k]=x at*;obtain⟨xop,⟨xneg,xnum,xden⟩,xnm⟩:=x;simp only at y0 y1 y2 y3 y4 HD;have y0:=(hbr.cell hb).trans y0;have y4:=(hbr.cell hb).trans y4;obtain⟨q,hq⟩:∃q,(xop==6)=q:=⟨_,rfl⟩
   obtain⟨p,hp⟩:∃p,(xnm.toList==name.toList)=p:=⟨_,rfl⟩
   have hq':decide (xop=6)=q:=by rw[←hq];rfl
   have hp':decide (xnm=name)=p:=by rw[←hp,beq_toList]
   rw[hq',hp'] at HD;have HBR:=Lib.hid hbr;clear y1 y2 y3 hq' hp' hoc hbr hb;cases q
   ·go_wp2
    go_roundg (rs.length-(k+1))
    case measure=>omega
    case rel=>exact⟨k+1,by omega,by go_num,by show _=_;rw[HD.out];simp,HBR.out⟩
   ·cases p
    ·go_wp2
     go_roundg (rs.length-(k+1))
     case measure=>omega
     case rel=>exact⟨k+1,by omega,by go_num,by show _=_;rw[HD.out];simp,HBR.out⟩
    ·go_wp2;go_ret;exact⟨by rw[HD.out];rfl,HB.out.trans (HBR.out.mono HB.out.size)⟩
  ·have hx1:decide (k<rs.length)=false:=decide_eq_false hlt;have HOC:Hid (oc=false):=by show _=_;rw[hoc.out,List.drop_eq_nil_of_le (by omega)];rfl
   have HBR:=Lib.hid hbr;clear hbr hoc;go_wp2;go_ret;exact⟨by rw[HOC.out];rfl,HB.out.trans (HBR.out.mono HB.out.size)⟩
end Go.Proofs.YtbicehdehiakgaaGreatDoor
