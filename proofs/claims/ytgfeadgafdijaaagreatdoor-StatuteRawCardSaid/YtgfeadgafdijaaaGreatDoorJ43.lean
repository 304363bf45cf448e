/- A part of the proof: Yh. -/
import Derived.Deep.Slices
import Derived.Test.YtgfeadgafdijaaaGreatDoorJ31
import Derived.Test.YtgfeadgafdijaaaGreatDoorJ42
set_option linter.unusedVariables false
set_option linter.unusedSimpArgs false
set_option maxRecDepth 100000
set_option maxHeartbeats 40000000
namespace Go.Proofs.YtgfeadgafdijaaaGreatDoor
open Go.ChangeShapes Go.WideShapes Go.ChangeAt Go.RowKit Go.Deep
theorem lnA {α:Type}:∀{l:List α},l.length=2→∃a b,l=[a,b]
 |[a,b],_=>⟨a,b,rfl⟩
theorem lnB {α:Type}:∀{l:List α},l.length=3→∃a b c,l=[a,b,c]
 |[a,b,c],_=>⟨a,b,c,rfl⟩
theorem lnC {α:Type}:∀{l:List α},l.length=4→∃a b c d,l=[a,b,c,d]
 |[a,b,c,d],_=>⟨a,b,c,d,rfl⟩
theorem lnD {α:Type}:∀{l:List α},l.length=5→∃a b c d e,l=[a,b,c,d,e]
 |[a,b,c,d,e],_=>⟨a,b,c,d,e,rfl⟩
theorem lnE {α:Type}:∀{l:List α},l.length=6→∃a b c d e f,l=[a,b,c,d,e,f]
 |[a,b,c,d,e,f],_=>⟨a,b,c,d,e,f,rfl⟩
theorem lnF {α:Type}:∀{l:List α},l.length=12→∃a b c d e f g h i j k m,l=[a,b,c,d,e,f,g,h,i,j,k,m]
 |[a,b,c,d,e,f,g,h,i,j,k,m],_=>⟨a,b,c,d,e,f,g,h,i,j,k,m,rfl⟩
theorem addN (b off m:Nat):(⟨b,off,none⟩:Addr).add m=⟨b,off+m,none⟩:=by unfold Addr.add;split<;>simp_all
theorem kS:Tryz.prog.cellsOf 9=1:=by kernel_rfl
theorem kI:Tryz.prog.cellsOf 3=1:=by kernel_rfl
theorem kB:Tryz.prog.cellsOf 4=1:=by kernel_rfl
theorem kR:Tryz.prog.cellsOf 40=3:=by kernel_rfl
theorem kN:Tryz.prog.cellsOf 38=1:=by kernel_rfl
theorem kU:Tryz.prog.cellsOf 30=2:=by kernel_rfl
theorem kT:Tryz.prog.cellsOf 32=3:=by kernel_rfl
section
variable {H:Type} {enc:TypeId × Value→H} {w:World} {base:Nat} {spare:Nat→Bool} {held:Bool} {fuel:Nat} {cs:List Value} {x:DataW H × List MemPlace}
theorem xu {t:TypeId} {fs:Array Field} (ht:Tryz.prog.underlying t=some (.struct fs)) (h:DataW.trod enc Tryz.prog w base spare held fuel t cs=some x) (m:Nat) (hm:Tryz.prog.cellsOf t=m):
  cs.length=m∧∀(i:Nat) (f:Field) (k:Nat),fs[i]?=some f→Tryz.prog.cellsOf f.type=k→∃n y,DataW.trod enc Tryz.prog w base spare held n f.type ((cs.drop f.offset).take k)=some y:=by
 obtain⟨ys,n,_,_,h1,h2,h3⟩:=DataW.trod_struct ht h;refine⟨h1.trans hm,fun i f k hf hk=>?_⟩;have hi:i<ys.length:=by rw[h2];exact (Array.getElem?_eq_some_iff.1 hf).1
 have:=h3 i f hf;rw[hk,List.getElem?_eq_getElem hi] at this;exact⟨n,_,this⟩
theorem Jj (h:DataW.trod enc Tryz.prog w base spare held fuel 40 cs=some x):∃a:Ra,cs=[.bool a.neg,.string a.num,.string a.den]:=by
 obtain⟨hl,hf⟩:=xu Tryz.underlying40 h 3 kR;obtain⟨c0,c1,c2,rfl⟩:=lnB hl;obtain⟨_,_,f0⟩:=hf 0 _ 1 rfl kB;obtain⟨_,_,f1⟩:=hf 1 _ 1 rfl kN;obtain⟨_,_,f2⟩:=hf 2 _ 1 rfl kN;obtain⟨v0,a0,_⟩:=DataW.trod_bool Tryz.underlying4 f0;obtain⟨v1,a1,_,_⟩:=DataW.trod_string Tryz.underlying38 f1;obtain⟨v2,a2,_,_⟩:=DataW.trod_string Tryz.underlying38 f2;have a0:[c0]=_:=a0;simp only[List.cons.injEq,and_true] at a0;subst a0;have a1:[c1]=_:=a1;simp only[List.cons.injEq,and_true] at a1;subst a1;have a2:[c2]=_:=a2;simp only[List.cons.injEq,and_true] at a2;subst a2;exact⟨⟨v0,v1,v2⟩,rfl⟩
theorem aa9 (h:DataW.trod enc Tryz.prog w base spare held fuel 30 cs=some x):∃m d:Int,cs=[.int .i64 m,.int .i64 d]:=by
 obtain⟨hl,hf⟩:=xu Tryz.underlying30 h 2 kU;obtain⟨c0,c1,rfl⟩:=lnA hl;obtain⟨_,_,f0⟩:=hf 0 _ 1 rfl kI;obtain⟨_,_,f1⟩:=hf 1 _ 1 rfl kI;obtain⟨v0,a0,_,_⟩:=DataW.trod_int Tryz.underlying3 f0;obtain⟨v1,a1,_,_⟩:=DataW.trod_int Tryz.underlying3 f1;have a0:[c0]=_:=a0;simp only[List.cons.injEq,and_true] at a0;subst a0;have a1:[c1]=_:=a1;simp only[List.cons.injEq,and_true] at a1;subst a1;exact⟨v0,v1,rfl⟩
theorem abb (h:DataW.trod enc Tryz.prog w base spare held fuel 32 cs=some x):∃t:Ty,cs=[.bool t.truth,.int .i64 t.aH,.int .i64 t.days]:=by
 obtain⟨hl,hf⟩:=xu Tryz.underlying32 h 3 kT;obtain⟨c0,c1,c2,rfl⟩:=lnB hl;obtain⟨_,_,f0⟩:=hf 0 _ 1 rfl kB;obtain⟨_,_,f1⟩:=hf 1 _ 2 rfl kU;obtain⟨v0,a0,_⟩:=DataW.trod_bool Tryz.underlying4 f0;obtain⟨m,d,a1⟩:=aa9 f1;have a0:[c0]=_:=a0;simp only[List.cons.injEq,and_true] at a0;subst a0;have a1:[c1,c2]=_:=a1;simp only[List.cons.injEq,and_true] at a1;obtain⟨rfl,rfl⟩:=a1;exact⟨⟨v0,m,d⟩,rfl⟩
theorem aeP (h:DataW.trod enc Tryz.prog w base spare held fuel 48 cs=some x):∃n:Nd,cs=n.cells:=by
 obtain⟨hl,hf⟩:=xu Tryz.underlying48 h 5 (by kernel_rfl);obtain⟨c0,c1,c2,c3,c4,rfl⟩:=lnD hl;obtain⟨_,_,f0⟩:=hf 0 _ 1 rfl kI;obtain⟨_,_,f1⟩:=hf 1 _ 3 rfl kR;obtain⟨_,_,f2⟩:=hf 2 _ 1 rfl kS;obtain⟨v0,a0,_,_⟩:=DataW.trod_int Tryz.underlying3 f0;obtain⟨q,a1⟩:=Jj f1;obtain⟨v2,a4,_,_⟩:=DataW.trod_string Tryz.underlying9 f2;have a0:[c0]=_:=a0;simp only[List.cons.injEq,and_true] at a0;subst a0;have a1:[c1,c2,c3]=_:=a1;simp only[List.cons.injEq,and_true] at a1;obtain⟨rfl,rfl,rfl⟩:=a1;have a4:[c4]=_:=a4;simp only[List.cons.injEq,and_true] at a4;subst a4;exact⟨⟨v0,q,v2⟩,rfl⟩
theorem aeQ (h:DataW.trod enc Tryz.prog w base spare held fuel 42 cs=some x):∃b:Bk,cs=b.cells:=by
 obtain⟨hl,hf⟩:=xu Tryz.underlying42 h 6 (by kernel_rfl);obtain⟨c0,c1,c2,c3,c4,c5,rfl⟩:=lnE hl;obtain⟨_,_,f0⟩:=hf 0 _ 3 rfl kR;obtain⟨_,_,f1⟩:=hf 1 _ 3 rfl kR;obtain⟨q,a0⟩:=Jj f0;obtain⟨r,a3⟩:=Jj f1;have a0:[c0,c1,c2]=_:=a0;simp only[List.cons.injEq,and_true] at a0;obtain⟨rfl,rfl,rfl⟩:=a0;have a3:[c3,c4,c5]=_:=a3;simp only[List.cons.injEq,and_true] at a3;obtain⟨rfl,rfl,rfl⟩:=a3;exact⟨⟨q,r⟩,rfl⟩
theorem aeR (h:DataW.trod enc Tryz.prog w base spare held fuel 34 cs=some x):∃d:Dc,cs=d.cells:=by
 obtain⟨hl,hf⟩:=xu Tryz.underlying34 h 4 (by kernel_rfl);obtain⟨c0,c1,c2,c3,rfl⟩:=lnC hl;obtain⟨_,_,f0⟩:=hf 0 _ 1 rfl kS;obtain⟨_,_,f1⟩:=hf 1 _ 3 rfl kT;obtain⟨v0,a0,_,_⟩:=DataW.trod_string Tryz.underlying9 f0;obtain⟨t,a1⟩:=abb f1;have a0:[c0]=_:=a0;simp only[List.cons.injEq,and_true] at a0;subst a0;have a1:[c1,c2,c3]=_:=a1;simp only[List.cons.injEq,and_true] at a1;obtain⟨rfl,rfl,rfl⟩:=a1;exact⟨⟨v0,t⟩,rfl⟩
theorem row_of {α:Type} [Inhabited α] {ec:α→List Value} (m:Nat) (hm:∀a,(ec a).length=m) (h0:0<m) (G:α→Prop) {ts te:TypeId} (ht:Tryz.prog.underlying ts=some (.slice te)) (hk:Tryz.prog.cellsOf te=m)
  (hd:∀n cs x,DataW.trod enc Tryz.prog w base spare held n te cs=some x→∃a,cs=ec a∧G a)
  (h:DataW.trod enc Tryz.prog w base spare held fuel ts cs=some x):∃(xs:List α) (hh:Hd),cs=[.slice hh.a hh.n hh.c]∧aU w ec xs hh∧∀a∈xs,G a:=by
 rcases open_slice ht h with⟨rfl,_⟩|⟨a,n,c,q,n',D,Pl,rfl,hb,hl,hx,hq,_,hi⟩
 ·exact⟨[],⟨none,0,0⟩,rfl,aU.nil _ _,fun a ha=>by cases ha⟩
 ·have hlm:n≤q:=by rw[hq];split<;>omega
  rw[hk] at hi
  have hex:∀i,∃x:α,i<n→G x∧∀j,j<m→w.cell? ((a.add (i*m)).add j)=(ec x)[j]?:=by
   intro i;by_cases hin:i<n
   ·obtain⟨cs',h1,h2⟩:=hi i (Nat.lt_of_lt_of_le hin hlm);obtain⟨_,_,h3⟩:=World.cells?_some h1;obtain⟨x,rfl,hg⟩:=hd _ _ _ h2;exact⟨x,fun _=>⟨hg,fun j hj=>h3 j hj⟩⟩
   ·exact⟨default,fun h=>absurd h hin⟩
  obtain⟨f,hf⟩:=Classical.axiomOfChoice hex;refine⟨(List.range n).map f,⟨some a,n,c⟩,rfl,⟨by simp,hl,hx,?_⟩,fun y hy=>?_⟩
  ·by_cases hn:n=0
   ·subst hn;exact .inl rfl
   ·have h00:=(hf 0 (by omega)).2 0 h0;rw[List.getElem?_eq_getElem (by rw[hm];exact h0)] at h00;obtain⟨b,off,spot⟩:=a
    have hspot:spot=none:=by
     have:=World.cell?_spot h00;simpa [Addr.add] using this
    subst hspot;refine .inr ⟨b,off,rfl,?_,fun i hil=>?_⟩
    ·rw[addN,addN] at h00;exact cell_lt h00
    ·obtain⟨k,j,hj,rfl⟩:∃k j,j<m∧i=k*m+j:=⟨i / m,i % m,Nat.mod_lt _ h0,(Nat.div_add_mod' i m).symm⟩
     have h2:=qy ec m hm ((List.range n).map f) k j hj;by_cases hkn:k<n
     ·have h1:=(hf k hkn).2 j hj;rw[addN,addN,Nat.add_assoc] at h1;rw[h1,←List.getElem?_eq_getElem,h2];simp[hkn]
     ·rw[List.getElem?_eq_getElem hil,List.getElem?_eq_none (by simp;omega)] at h2;cases h2
  ·obtain⟨i,hi,rfl⟩:=List.mem_map.1 hy;exact (hf i (by simpa using hi)).1
instance:Inhabited Nd:=⟨⟨0,⟨false,⟨#[]⟩,⟨#[]⟩⟩,⟨#[]⟩⟩⟩
instance:Inhabited Bk:=⟨⟨⟨false,⟨#[]⟩,⟨#[]⟩⟩,⟨false,⟨#[]⟩,⟨#[]⟩⟩⟩⟩
instance:Inhabited Dc:=⟨⟨⟨#[]⟩,⟨false,0,0⟩⟩⟩
instance iSc:Inhabited (Sc × Hd):=⟨⟨⟨#[]⟩,0,0,[]⟩,⟨none,0,0⟩⟩
instance iPv:Inhabited (Pv × Hd):=⟨⟨⟨#[]⟩,⟨false,0,0⟩,false,⟨false,⟨#[]⟩,⟨#[]⟩⟩,⟨false,⟨#[]⟩,⟨#[]⟩⟩,[]⟩,⟨none,0,0⟩⟩
theorem aeS (h:DataW.trod enc Tryz.prog w base spare held fuel 37 cs=some x):∃s:Sc × Hd,cs=fU s∧aU w Bk.cells s.1.bQ s.2:=by
 obtain⟨hl,hf⟩:=xu Tryz.underlying37 h 4 (by kernel_rfl);obtain⟨c0,c1,c2,c3,rfl⟩:=lnC hl;obtain⟨_,_,f0⟩:=hf 0 _ 1 rfl kS;obtain⟨_,_,f1⟩:=hf 1 _ 2 rfl kU;obtain⟨_,_,f2⟩:=hf 2 _ 1 rfl (by kernel_rfl);obtain⟨v0,a0,_,_⟩:=DataW.trod_string Tryz.underlying9 f0;obtain⟨m,d,a1⟩:=aa9 f1;obtain⟨bs,hh,a3,hr,_⟩:=row_of (ec:=Bk.cells) 6 (fun _=>rfl) (by omega) (fun _=>True) Tryz.underlying35 (by kernel_rfl) (fun _ _ _ h=>(aeQ h).imp fun _ h=>⟨h,trivial⟩) f2;have a0:[c0]=_:=a0;simp only[List.cons.injEq,and_true] at a0;subst a0;have a1:[c1,c2]=_:=a1;simp only[List.cons.injEq,and_true] at a1;obtain⟨rfl,rfl⟩:=a1;have a3:[c3]=_:=a3;simp only[List.cons.injEq,and_true] at a3;subst a3;exact⟨(⟨v0,m,d,bs⟩,hh),rfl,hr⟩
theorem aeT (h:DataW.trod enc Tryz.prog w base spare held fuel 46 cs=some x):∃s:Pv × Hd,cs=bg s∧aU w Nd.cells s.1.body s.2:=by
 obtain⟨hl,hf⟩:=xu Tryz.underlying46 h 12 (by kernel_rfl);obtain⟨c0,c1,c2,c3,c4,c5,c6,c7,c8,c9,c10,c11,rfl⟩:=lnF hl;obtain⟨_,_,f0⟩:=hf 0 _ 1 rfl kS;obtain⟨_,_,f1⟩:=hf 1 _ 3 rfl kT;obtain⟨_,_,f2⟩:=hf 2 _ 1 rfl (by kernel_rfl);obtain⟨_,_,f3⟩:=hf 3 _ 1 rfl kB;obtain⟨_,_,f4⟩:=hf 4 _ 3 rfl kR;obtain⟨_,_,f5⟩:=hf 5 _ 3 rfl kR;obtain⟨v0,a0,_,_⟩:=DataW.trod_string Tryz.underlying9 f0;obtain⟨t,a1⟩:=abb f1;obtain⟨bs,hh,a4,hr,_⟩:=row_of (ec:=Nd.cells) 5 (fun _=>rfl) (by omega) (fun _=>True) Tryz.underlying44 (by kernel_rfl) (fun _ _ _ h=>(aeP h).imp fun _ h=>⟨h,trivial⟩) f2;obtain⟨v5,a5,_⟩:=DataW.trod_bool Tryz.underlying4 f3;obtain⟨q,a6⟩:=Jj f4;obtain⟨r,a9⟩:=Jj f5;have a0:[c0]=_:=a0;simp only[List.cons.injEq,and_true] at a0;subst a0;have a1:[c1,c2,c3]=_:=a1;simp only[List.cons.injEq,and_true] at a1;obtain⟨rfl,rfl,rfl⟩:=a1;have a4:[c4]=_:=a4;simp only[List.cons.injEq,and_true] at a4;subst a4;have a5:[c5]=_:=a5;simp only[List.cons.injEq,and_true] at a5;subst a5;have a6:[c6,c7,c8]=_:=a6;simp only[List.cons.injEq,and_true] at a6;obtain⟨rfl,rfl,rfl⟩:=a6;have a9:[c9,c10,c11]=_:=a9;simp only[List.cons.injEq,and_true] at a9;obtain⟨rfl,rfl,rfl⟩:=a9;exact⟨(⟨v0,t,v5,q,r,bs⟩,hh),rfl,hr⟩
end
theorem aep {H:Type} {enc:TypeId × Value→H} {W:World} {base:Nat} {spare:Nat→Bool} {held:Bool} {r:Reach} {b0:Nat} {v:Value} {d:DataW H} {p:List MemPlace} (hv:Value.okWide Tryz.prog W r b0 26 v) (h:DataW.Trod enc Tryz.prog W base spare held 26 v d p):
  ∃l ss ps f s p,v=dQ f s p∧fG W l ss ps f s p:=by
 obtain⟨fuel,hf⟩:=h;have k6:Tryz.prog.cellsOf 26=3:=by kernel_rfl
 obtain⟨cs,rfl,hsz⟩:=okWide_struct Tryz.underlying26 hv;obtain⟨cs⟩:=cs;have hcl:cs.length=3:=by rw[←k6];exact hsz
 obtain⟨c0,c1,c2,rfl⟩:=lnB hcl;have hf':DataW.trod enc Tryz.prog W base spare held fuel 26 [c0,c1,c2]=some (d,p):=hf;obtain⟨_,hg⟩:=xu Tryz.underlying26 hf' 3 k6;obtain⟨_,_,f0⟩:=hg 0 _ 1 rfl (by kernel_rfl);obtain⟨_,_,f1⟩:=hg 1 _ 1 rfl (by kernel_rfl);obtain⟨_,_,f2⟩:=hg 2 _ 1 rfl (by kernel_rfl);obtain⟨fs,f,a0,hF,_⟩:=row_of (ec:=Dc.cells) 4 (fun _=>rfl) (by omega) (fun _=>True) Tryz.underlying22 (by kernel_rfl) (fun _ _ _ h=>(aeR h).imp fun _ h=>⟨h,trivial⟩) f0;obtain⟨ss,s,a1,hS,hs⟩:=row_of (ec:=fU) 4 (fun _=>rfl) (by omega) (fun s=>aU W Bk.cells s.1.bQ s.2) Tryz.underlying23 (by kernel_rfl) (fun _ _ _ h=>aeS h) f1;obtain⟨ps,p,a2,hP,hp⟩:=row_of (ec:=bg) 12 (fun _=>rfl) (by omega) (fun s=>aU W Nd.cells s.1.body s.2) Tryz.underlying24 (by kernel_rfl) (fun _ _ _ h=>aeT h) f2;have a0:[c0]=_:=a0;simp only[List.cons.injEq,and_true] at a0;subst a0;have a1:[c1]=_:=a1;simp only[List.cons.injEq,and_true] at a1;subst a1;have a2:[c2]=_:=a2;simp only[List.cons.injEq,and_true] at a2;subst a2;exact⟨⟨fs,ss.map Prod.fst,ps.map Prod.fst⟩,ss,ps,f,s,p,rfl,hF,hS,hP,rfl,rfl,hs,hp⟩
end Go.Proofs.YtgfeadgafdijaaaGreatDoor
