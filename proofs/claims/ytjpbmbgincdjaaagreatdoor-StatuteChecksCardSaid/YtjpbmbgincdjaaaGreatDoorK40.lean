/- Part: J5 J6 J7 J8 J9. -/
import Derived.Test.YtjpbmbgincdjaaaGreatDoorK38
import Derived.Test.YtjpbmbgincdjaaaGreatDoorK39
set_option linter.all false
set_option maxRecDepth 100000
set_option maxHeartbeats 0
namespace Go.Proofs.YtjpbmbgincdjaaaGreatDoor
open Go.RowKit List Tryz
section
set_option maxRecDepth 100000
set_option maxHeartbeats 2000000
def iU (x:List (List Int)):List (List Int):=(x.take 8).map (List.take 60)
theorem ZK {x:List (List Int)} {k:Nat} (h:k<x.length) (h8:k<8):iU (x.take (k+1))=iU (x.take k)++[x[k].take 60]:=by
 unfold iU;rw[take_take,take_take,show min 8 (k+1)=k+1 by omega,show min 8 k=k by omega,take_succ_eq_append_getElem h,map_append];rfl
variable {Ld:bU}
theorem amO (x:List (List Int)) (hx:x.length≤9223372036854775807) (hl:∀l∈x,l.length≤9223372036854775807):PC prog Ld 23 [.sl 1 (x.map Ef)] (·=.sl 1 ((iU x).map Ef)):=by
 refine dh func23 fun X=>?_
 refine run ?_;refine nK 3 3 106 1 rfl rfl (by decide) ?_;refine mO (min 8 x.length) (fun _=>True) (fun k=>[(.s 4,.s (.v (nP k))),(.s 3,.s (.ow 3 ((iU (x.take k)).map Ef).length)),(.o 3,.o (.row 106 1 ((iU (x.take k)).map Ef)))]) [.s 0] ?_ trivial;intro k hk _ hw;refine run ?_;have e8:(iU (x.take k)).length≤8:=by unfold iU;simp;omega
 by_cases hu:k<x.length
 ·refine mM ?_;refine run ?_;refine aZ (fun h=>?_) fun h=>?_
  ·have h8:k<8:=by omega
   have e:=ZK hu h8;have hm:=hl x[k] (getElem_mem hu);obtain⟨q,hq,hq2⟩:∃q:Nat,min (x[k].length:Int) 60=(q:Int)∧min x[k].length 60=q:=⟨min x[k].length 60,by omega,rfl⟩
   have e9:(x[k].map iP).take q=(x[k].take 60).map iP:=by
    rw[←map_take,←hq2];congr 1;rcases Nat.le_total x[k].length 60 with g|g
    ·rw[Nat.min_eq_left g,take_of_length_le (Nat.le_refl _),take_of_length_le g]
    ·rw[Nat.min_eq_right g]
   have e10:q≤(x[k].map iP).length:=by rw[length_map];omega
   clear hq2;refine run ?_;refine mP trivial
  ·refine run ?_;exact aF (hr:=by rw[show iU (x.take k)=iU x by unfold iU;rw[take_take,show min 8 k=8 by omega]])
 ·refine mM ?_;refine run ?_;exact aF (hr:=by rw[take_of_length_le (by omega)])
theorem abZ (x:List (List Int)):(iU x).length≤8∧∀l∈iU x,l.length≤60:=by
 unfold iU;refine⟨by simp;omega,fun l hl=>?_⟩;obtain⟨a,_,rfl⟩:=mem_map.1 hl;rw[length_take];omega
theorem aiX (x:List (List Int)) (hx:x.length≤9223372036854775807) (hl:∀l∈x,l.length≤9223372036854775807) (hd:∀i,eG ⟨(iU x).getD i [],0⟩):PC prog Ld 6 [.sl 1 (x.map Ef)] (·=(jG (iU x)).p):=by
 have c1:=amO (Ld:=Ld) x hx hl;have c2:=aiW (Ld:=Ld) (iU x) hd;refine dh func6 fun X=>?_
 refine run ?_;exact aF
end
section
set_option maxRecDepth 100000
set_option maxHeartbeats 2000000
variable {Ld:bU}
theorem adp (tJ:∀w,Ld.p w→bT w) (l:Lw) (hl:BU l) (hr:Raw l) (hb:∀p∈l.ay,p.body.length≤100000) (hne:aT l=0→eu l≠[]):PC prog Ld 7 [l.p] (·=bP true):=by
 have c1:=aiU tJ l hr.fine fun hc=>⟨hr.V7 hc,hne hc,hr.text hc⟩
 have c2:=aiP (Ld:=Ld) l hl hr hb;have c3:=(aiV (Ld:=Ld) l hl).pc;have c4:=(VX (Ld:=Ld) l hl).pc;have c5:=ZE tJ l hr.fine;have c6:=Pj (Ld:=Ld) l hl hr.fine hb;have hn:(dO l).length≤1000:=by rw[TM];have:=hl.f;have:=hl.p;have:=hl.s;omega
 generalize (if aT l=0 then (⟨(eu l).toArray⟩:ByteArray) else ⟨#[]⟩)=tx at*;generalize aT l=z at*;generalize dO l=S at*;clear hr hb hne hl;refine dh func7 fun X=>?_
 refine run ?_;refine jr S.length (fun k=>[(.s 9,.s (.v (nP k)))]) [.s 1,.o 1,.s 3,.s 4,.s 5,.s 6,.s 7,.s 8] ?_;intro k hk hw;refine run ?_;refine aZ (fun hu=>?_) fun hu=>?_
 ·refine run ?_;refine gq
 ·refine run ?_;refine mM ?_;refine XO ?_;refine XO ?_;refine XO ?_ (h:=afV (c:=true) (hc:=by simp));refine run ?_;exact aF
end
section
set_option maxRecDepth 100000
set_option maxHeartbeats 2000000
variable {Ld:bU}
structure Meet (l:Lw):Prop where
 s:BU l
 r:Raw l
 b:∀p∈l.ay,p.body.length≤100000
 n:aT l=0→eu l≠[]
theorem aeN (tJ:∀w,Ld.p w→bT w) (x:List (List Int)) (a b c:Int) (hx:x.length≤9223372036854775807) (hl:∀l∈x,l.length≤9223372036854775807) (hd:∀i,eG ⟨(iU x).getD i [],0⟩) (ha:I64 a) (hb:I64 b) (hc:I64 c)
  (m1:Meet (jG (iU x))) (m2:Meet (broken (jG (iU x)) a b c)) (h1:0<(jG (iU x)).facts.length) (h2:0<(jG (iU x)).aH.length) (h3:0<(jG (iU x)).ay.length) (h0:aT (jG (iU x))=0):PC prog Ld 3 [.sl 1 (x.map Ef),.ag [iP a,iP b,iP c]] (·=bP true):=by
 have c1:=aeI tJ;have c2:=aiX (Ld:=Ld) x hx hl hd;have c3:=adp tJ _ m1.s m1.r m1.b m1.n;have c4:=aeM (Ld:=Ld) _ m1.s h1 h2 h3 a b c ha hb hc;have c5:=adp tJ _ m2.s m2.r m2.b m2.n;have c6:=ZE tJ _ m1.r.fine;rw[h0] at c6;generalize broken (jG (iU x)) a b c=B at*;generalize jG (iU x)=l at*;clear m1 m2 h1 h2 h3 h0 ha hb hc hd hx hl;refine dh func3 fun X=>?_
 refine run ?_;refine mM ?_;refine run ?_;exact aF
end
section
set_option maxRecDepth 100000
theorem ab4 {l:Lw} (h0:l.facts≠[]∨l.ay≠[]):eu l≠[]:=fun h=>by
 unfold eu at h;rw[append_eq_nil_iff,append_eq_nil_iff] at h;rcases h0 with g|g
 ·obtain⟨d,hd⟩:=exists_mem_of_ne_nil _ g;have:=congrArg List.length (flatMap_eq_nil_iff.1 h.1.1 d hd);simp[vF,LM,bD,Dt] at this
 ·obtain⟨d,hd⟩:=exists_mem_of_ne_nil _ g;have:=congrArg List.length (flatMap_eq_nil_iff.1 h.2 d hd);simp[uH,Zb,bD,E8] at this
theorem Meet.of {l:Lw} (r:Raw l) (hb:∀p∈l.ay,p.body.length<=100000) (h0:l.facts≠[]∨l.ay≠[]):Meet l:=
 ⟨⟨by have:=r.fn;omega,by have:=r.sn;omega,by have:=r.pn;omega⟩,r,hb,fun _=>ab4 h0⟩
theorem ZM:∀s∈zV,s.size<=25:=by decide
theorem aeO (n:Nat):(zV.getD n ⟨#[]⟩).size<=25:=by
 rw[getD_eq_getElem?_getD];cases h:zV[n]? with
 |none=>exact Nat.zero_le _
 |some s=>exact ZM s (mem_of_getElem? h)
theorem sO {α:Type} {Q:α->Prop} {l:List α} {i:Nat} {x:α} (h:∀y∈l,Q y) (hx:Q x):∀y∈l.set i x,Q y:=fun y hy=>by
 rcases mem_or_eq_of_mem_set hy with h1|rfl
 ·exact h y h1
 ·exact hx
theorem yN {α:Type} {Q:α->Prop} {f:α->α} (hf:∀y,Q y->Q (f y)):∀{l:List α} {i:Nat},(∀y∈l,Q y)->∀y∈l.modify i f,Q y:=fun {l i} h y hy=>by
 obtain⟨j,hj,rfl⟩:=getElem_of_mem hy;rw[getElem_modify];have:=h (l[j]'(by simpa using hj)) (getElem_mem _);split
 ·exact hf _ this
 ·exact this
structure CQ (l:Lw):Prop where
 fn:l.facts.length<=3
 sn:l.aH.length<=2
 pn:l.ay.length<=6
 f:∀d∈l.facts,d.name.size<=25
 s:∀x∈l.aH,x.name.size<=25/\x.bJ.length<=10/\∀b∈x.bJ,lH b
 p:∀x∈l.ay,(x.name.size<=25/\dA x.step/\dA x.cap/\∀n∈x.body,Fine n)/\x.body.length<=100000
theorem CQ.meet {l:Lw} (h:CQ l) (h0:l.facts≠[]∨l.ay≠[]):Meet l:=
 Meet.of ⟨by have:=h.fn;omega,by have:=h.sn;omega,by have:=h.pn;omega,h.f,h.s,fun x hx=>(h.p x hx).1⟩ (fun x hx=>(h.p x hx).2) h0
theorem CQ.amT {l:Lw} (h:CQ l) {m i f r k:Nat} {nm:ByteArray} {b c:Int} {p:Pv} (hn:nm.size<=25) (hp:(p.name.size<=25/\dA p.step/\dA p.cap/\∀n∈p.body,Fine n)/\p.body.length<=100000) (h7:dA (je (c.tmod 7) 2)) (h8:dA (je 1 2)/\dA (je (c % 420) 4)):CQ (jX l m i f r k nm b c p):=by
 obtain⟨h1,h2,h3,hF,hS,hP⟩:=h;unfold jX;split
 ·exact⟨h1,h2,by simp;omega,hF,hS,fun x hx=>by
   rcases mem_append.1 hx with hx|hx
   ·exact hP x (mem_of_mem_take hx)
   ·exact hP x (mem_of_mem_drop hx)⟩
 ·exact⟨by simp;omega,h2,h3,fun x hx=>by
   rcases mem_append.1 hx with hx|hx
   ·exact hF x (mem_of_mem_take hx)
   ·exact hF x (mem_of_mem_drop hx),hS,hP⟩
 ·exact⟨h1,h2,by simpa using h3,hF,hS,sO hP ⟨⟨hn,hp.1.2⟩,hp.2⟩⟩
 ·exact⟨by simpa using h1,h2,h3,fun x hx=>yN (Q:=fun d:Dc=>d.name.size<=25) (f:=fun d=>{d with name:=nm}) (fun _ _=>hn) hF x hx,hS,hP⟩
 ·exact⟨h1,by simpa using h2,h3,hF,yN (fun _ g=>⟨hn,g.2⟩) hS,hP⟩
 ·exact⟨h1,h2,by simpa using h3,hF,hS,sO hP ⟨hp.1,hp.2⟩⟩
 ·exact⟨h1,h2,by simpa using h3,hF,hS,sO hP ⟨hp.1,hp.2⟩⟩
 ·exact⟨h1,h2,by simpa using h3,hF,hS,sO hP ⟨⟨hp.1.1,h7,hp.1.2.2⟩,hp.2⟩⟩
 ·exact⟨h1,h2,by simpa using h3,hF,hS,sO hP ⟨⟨hp.1.1,h8.1,h8.2,hp.1.2.2.2⟩,hp.2⟩⟩
 ·exact⟨by simpa using h1,h2,h3,fun x hx=>yN (Q:=fun d:Dc=>d.name.size<=25) (f:=fun d=>{d with ty:=⟨decide (c.tmod 2=0),c.tmod 5,b.tmod 5⟩}) (fun _ g=>g) hF x hx,hS,hP⟩
 ·exact⟨h1,by simpa using h2,h3,hF,fun x hx=>yN (Q:=fun x:Sc=>x.name.size<=25/\x.bJ.length<=10/\∀b∈x.bJ,lH b) (f:=fun s=>{s with aA:=c.tmod 5,days:=b.tmod 5}) (fun _ g=>g) hS x hx,hP⟩
 ·exact⟨h1,by simpa using h2,h3,hF,yN (fun _ g=>⟨g.1,Nat.zero_le _,fun _ hb=>by cases hb⟩) hS,hP⟩
 ·exact⟨h1,h2,by simpa using h3,hF,hS,sO (sO hP (by
   rw[getD_eq_getElem?_getD];cases hk:l.ay[k]? with
   |none=>exact hp
   |some y=>exact hP y (mem_of_getElem? hk))) hp⟩
 ·exact⟨h1,h2,h3,hF,hS,hP⟩
theorem zW {a:Ra} (h:bQ a=true):dA a:=by
 obtain⟨_,h1,h2⟩:=kC h;exact⟨by omega,by omega⟩
theorem QW {l:Lw} (h:CQ l) (a b c:Int):CQ (broken l a b c):=by
 have t1:=Int.lt_tmod_of_pos c (show (0:Int)<7 by decide);have t2:=Int.tmod_lt_of_pos c (show (0:Int)<7 by decide);unfold broken;refine h.amT (aeO _) ?_ (zW (nG (by omega) (by omega) (by omega) (by omega))) ⟨zW (nG (by omega) (by omega) (by omega) (by omega)),zW (nG (by omega) (by omega) (by omega) (by omega))⟩;rw[getD_eq_getElem?_getD];cases hk:l.ay[(b % l.ay.length).toNat]? with
 |none=>exact⟨⟨Nat.zero_le _,by unfold dA;decide,by unfold dA;decide,fun n hn=>by cases hn⟩,Nat.zero_le _⟩
 |some y=>exact h.p y (mem_of_getElem? hk)
end
theorem ab5 (d:Dr):2<=(ji d).length:=by unfold ji;split<;>simp
theorem ab6 (d:Dr):0<(pR d).1.length:=by unfold pR;dsimp only;split<;>simp
theorem WL (x:List (List Int)):2<=(jG x).facts.length:=ab5 _
theorem ZN (x:List (List Int)):0<(jG x).aH.length:=ab6 _
theorem aeP {l:Lw} (h:2<=l.facts.length) (a b c:Int):(broken l a b c).facts≠[]:=by
 have g:∀m i f r k nm p,1<=(jX l m i f r k nm b c p).facts.length:=by
  intro m i f r k nm p;unfold jX;split<;>first|(show 1<=l.facts.length;omega)|(simp;omega)
 intro h0;have:=g (a % 14).toNat (b % l.ay.length).toNat (b % l.facts.length).toNat (b % l.aH.length).toNat (c % l.ay.length).toNat (zV.getD (c % 8).toNat ⟨#[]⟩) (l.ay.getD (b % l.ay.length).toNat ⟨⟨#[]⟩,aJ,false,zR,zR,[]⟩);unfold broken at h0;rw[h0] at this;exact absurd this (by decide)
theorem ZO (d:Dr) (i:Nat):(jW d i).1.name=six.getD i nE:=by
 unfold jW;split
 ·rfl
 split
 ·rfl
 split<;>rfl
theorem ZP (d:Dr) (z:Int) (ps:List Pv):(Fv d z ps).length=ps.length:=by
 unfold Fv;dsimp only
 have k:∀(d:Dr) (z:Int) (ps:List Pv),(Fq d z ps).length=ps.length:=by
  intro d z ps;unfold Fq
  repeat (first|split|simp)
 rw[k,PZ,PY]
theorem WM (x:List (List Int)):0<(jG x).ay.length:=by
 unfold jG;dsimp only
 rw[ZP,length_mapIdx];exact P6 _ 6 (by decide)
theorem Uc (z:Int):qy z∈[je 1 1,je 1 2,je 5 1]:=by
 unfold qy;split
 ·simp
 split<;>simp
theorem WO (d:Dr) (p:Pv) (o:ByteArray):dA (iR d p o).1.step/\(iR d p o).1.name=p.name/\(iR d p o).1.body.length<=6:=by
 unfold iR;dsimp only
 refine⟨?_,rfl,?_⟩
 ·have:=ER _ (Uc (d.go.go.go.go.go.go.nx 3));simp only[Bool.and_eq_true,decide_eq_true_eq] at this;unfold dA;omega
 ·split<;>simp[zG]
end Go.Proofs.YtjpbmbgincdjaaaGreatDoor
