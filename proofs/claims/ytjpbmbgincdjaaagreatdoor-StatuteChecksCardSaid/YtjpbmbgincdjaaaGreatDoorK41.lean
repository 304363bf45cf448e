/- Part: J0. -/
import Derived.Test.YtjpbmbgincdjaaaGreatDoorK40
set_option linter.all false
set_option maxRecDepth 100000
set_option maxHeartbeats 0
namespace Go.Proofs.YtjpbmbgincdjaaaGreatDoor
open Go.RowKit List
section
set_option maxRecDepth 100000
abbrev pr {α:Type} (l:List α):List (α × Hd):=l.map fun x=>(x,⟨none,0,0⟩)
theorem Iu {α β:Type} (f:α->β) (l:List α):(pr l).map (fun x=>f x.1)=l.map f:=by rw[map_map];rfl
theorem ads (fs:List Dc) (ss:List Sc) (ps:List Pv):CP fs (pr ss) (pr ps)=⟨fs,ss,ps⟩:=by
 unfold CP;rw[show (pr ss).map Prod.fst=ss from (Iu id ss).trans (map_id _),show (pr ps).map Prod.fst=ps from (Iu id ps).trans (map_id _)]
theorem ZQ (c:Int) (hc:c=0∨c= -2):∀(n k:Nat) (f:Int) (d:Dr) (o:List Bk),0<=f->f<=100*(3-(n:Int))->n<=3->
  (∃fs:List Nat,o.map Bk.fr=fs.map (fun (n:Nat)=>aK (n:Int))/\(∃r,fs=0::r)/\fs.Pairwise (·<·)/\∀n∈fs,(n:Int)<=f)->(∀b∈o,bQ b.rt=true)->o.length+n<=8->BQ (KD c n k f d o).1
 |0,k,f,d,o,h0,h1,h3,⟨fs,e1,e2,e3,e4⟩,hr,hl=>⟨⟨fs,e1,e2,e3,fun n hn=>by have:=e4 n hn;omega⟩,hr,hl⟩
 |n+1,k,f,d,o,h0,h1,h3,⟨fs,e1,e2,e3,e4⟩,hr,hl=>by
  have g1:=d.go.lt 100;have g2:=d.go.go.lt 6;unfold KD;split
  ·obtain⟨m,hm⟩:∃m:Nat,f+1+d.go.nx 100=(m:Int):=⟨_,(Int.toNat_of_nonneg (by omega)).symm⟩
   obtain⟨r,e2⟩:=e2;refine ZQ c hc n (k+1) _ _ _ (by omega) (by omega) (by omega) ⟨fs++[m],?_,⟨r++[m],by rw[e2];rfl⟩,?_,fun i hi=>?_⟩ (fun b hb=>?_) (by simp;omega)
   ·rw[map_append,map_append,e1,hm];rfl
   ·refine pairwise_append.2 ⟨e3,pairwise_singleton _ _,fun i hi j hj=>?_⟩;rw[mem_singleton.1 hj];have:=e4 i hi;omega
   ·rcases mem_append.1 hi with hi|hi
    ·have:=e4 i hi;omega
    ·rw[mem_singleton.1 hi,hm];exact Int.le_refl _
   ·rcases mem_append.1 hb with hb|hb
    ·exact hr b hb
    ·rw[mem_singleton.1 hb];exact nG (by omega) (by omega) (by omega) (by omega)
  ·exact⟨⟨fs,e1,e2,e3,fun n hn=>by have:=e4 n hn;omega⟩,hr,by show o.length<=8;omega⟩
theorem ab7 (c:Int) (hc:c=0∨c= -2) (d:Dr):BQ (uX c d).1:=by
 have g:=d.lt 5;refine ZQ c hc 3 0 0 d.go _ (by omega) (by omega) (by omega) ⟨[0],rfl,⟨[],rfl⟩,pairwise_singleton _ _,fun i hi=>?_⟩ (fun b hb=>?_) (by simp)
 ·rw[mem_singleton.1 hi];decide
 ·rw[mem_singleton.1 hb];exact nG (by omega) (by omega) (by omega) (by omega)
theorem aiY (d:Dr):Iq (ji d):=by
 unfold ji;split
 ·exact amQ
 ·exact amP
theorem aiZ (d:Dr):Ir (pr (pR d).1):=by
 unfold pR;dsimp only
 split
 ·exact amS (ab7 0 (.inl rfl) _) (ab7 (-2) (.inr rfl) _) _ _
 ·exact amR (ab7 0 (.inl rfl) _) _
theorem ahX (d:Dr) (i:Nat):PkX (jW d i).1/\dX (jW d i).1=true:=by
 have k:∀n t c,dX (pz n t c)=true:=fun n t c=>by unfold dX pz;simp
 unfold jW;split
 ·exact⟨⟨.inl rfl,fun _=>rfl⟩,k _ _ _⟩
 split
 ·next e=>
  subst e;refine⟨⟨?_,fun h=>by cases h⟩,k _ _ _⟩;dsimp only
  split
  ·exact .inr ⟨rfl,rfl⟩
  ·exact .inl rfl
 split
 ·exact⟨⟨.inl rfl,fun _=>rfl⟩,k _ _ _⟩
 ·exact⟨⟨.inl rfl,fun _=>rfl⟩,k _ _ _⟩
theorem adt (d:Dr):∀i,i<=6->Pk i (pr (iw d i).2)/\∀p∈(iw d i).2,dX p=true
 |0,_=>⟨Pk.zero,fun _ h=>by cases h⟩
 |i+1,h=>by
  have k:=adt d i (by omega);have hl:i<six.length:=by show i<6;omega
  have g:=ahX (iw d i).1 i;have e:=ZO (iw d i).1 i;rw[getD_eq_getElem?_getD,getElem?_eq_getElem hl,Option.getD_some] at e;unfold iw;dsimp only
  split
  ·unfold pr;rw[map_append];refine⟨k.1.push hl (_,_) e g.1,fun p hp=>?_⟩;rcases mem_append.1 hp with hp|hp
   ·exact k.2 p hp
   ·rw[mem_singleton.1 hp];exact g.2
  ·next hh=>exact⟨k.1.skip hl (fun e=>hh (by subst e;simp[jW])),k.2⟩
section
variable {fs:List Dc} {ss:List (Sc × Hd)} {ps:List Pv} {sg:List Sg}
theorem ai0 {x:List (List Int)} (hx:∀i,eG ⟨x.getD i [],0⟩) (b:Bool) (hg:qK (CP fs ss (pr ps))) (hk:Pk 6 (pr ps)) (hz:∀p∈ps,dX p=true) (hs:dO (CP fs ss (pr ps))=sg):PG sg fs ss (pr (ps.mapIdx (sK x sg b))):=by
 have key:∀k,k<=ps.length->Qc sg fs ss (pr (oQ x sg b ps k)) k:=by
  intro k
  induction k with
  |zero=>exact fun _=>⟨hk,hs,fun i _ h=>by omega,fun x hx=>by obtain⟨p,hp,rfl⟩:=mem_map.1 hx;exact hz p hp⟩
  |succ k ih=>
   intro hl;have h:=ih (by omega);have m2:=P7 x sg b ps k;have hj:k<(pr (oQ x sg b ps k)).length:=by rw[length_map];omega
   have e:((pr (oQ x sg b ps k))[k]).1=ps[k]:=by
    have:=Ub x sg b ps k (by omega);rw[getElem?_eq_getElem (by omega)] at this;rw[getElem_map];exact Option.some.inj this
   have ht:=hg.tp ps[k] (by show _∈(pr ps).map Prod.fst;rw[show (pr ps).map Prod.fst=ps from (Iu id ps).trans (map_id _)];exact getElem_mem _);have te:TE sg ps[k].ty (sK x sg b k ps[k]).body:=(O6 (sg:=beforeL ps[k].name b sg) (fun s h=>hg.nok s (hs ▸ (filter_sublist.mem h))) 2 _ _ (by rcases ht with h|h<;>simp[pI,h])).mono (aeK (hs ▸ hg.key) filter_sublist);have hn:(sK x sg b k ps[k]).body.length<=60:=Nat.le_trans (zI _ 2 _ _ (hx (k+1))).2 (by decide);have q:=h.body hj (ns:=(sK x sg b k ps[k]).body) (by rw[e];exact te) hn ⟨none,0,0⟩;rw[P8 x sg b ps k (by omega)];unfold pr;rw[map_set];rw[e] at q;exact q
 have h:=(key _ (Nat.le_refl _))
 rw[P9 x sg b ps _ (Nat.le_refl _)] at h;exact Qc.all (by rw[length_map,length_mapIdx];exact h)
theorem Jj {s:ByteArray} {l:List Pv} (h:(gV s l).2=true):(l.map Pv.name)[(gV s l).1]?=some s:=by
 unfold gV at h⊢;cases hf:l.findIdx? (fun x=>decide (x.name=s)) with
 |none=>rw[hf] at h;cases h
 |some i=>
  obtain⟨hi,hp,_⟩:=findIdx?_eq_some_iff_getElem.1 hf;show (l.map Pv.name)[i]?=some s;rw[getElem?_map,getElem?_eq_getElem hi];exact congrArg some (of_decide_eq_true hp)
theorem aeQ {n2:Nd} {q:Ra} {o:Int} {ot:ByteArray} (h2:TE sg aV [n2]) (hq:bQ q=true) (ho:o=6∨o=8) (hot:bY ot=true) (hO:∀op:Int,op=6∨op=8->dZ sg ⟨op,zR,ot⟩=some aV):TE sg aV [n2,⟨3,q,nE⟩,⟨o,zR,ot⟩,⟨11,zR,nE⟩,⟨9,zR,nE⟩]:=by
 have h3:TE sg aV ([[(⟨3,q,nE⟩:Nd)],[⟨o,zR,ot⟩]].flatten++[⟨11,zR,nE⟩]):=TE.two (TE.lit (by omega) hq rfl) (TE.eH (by omega) hot (hO o ho)) (zC (by omega)) rfl (nR rfl rfl);exact TE.sum (op:=9) (.inl rfl) rfl h2 h3
theorem Qd (hf:Iq fs) (hs:Ir ss) (h:PG sg fs ss (pr ps)) (d:Dr) {a b:Nat} {s o:ByteArray} (ha:(ps.map Pv.name)[a]?=some s) (hsn:s≠Qa) (hb:(ps.map Pv.name)[b]?=some o) (hon:o≠Qa) (ho:bY o=true) (w:Pv):PG sg fs ss (pr (ps.set a (iR d (ps.getD a w) o).1))/\(ps.set a (iR d (ps.getD a w) o).1).map Pv.name=ps.map Pv.name:=by
 have e:=Iu Pv.name ps;obtain⟨hk,t1,_⟩:=h.sig hf hs (i:=a) (nm:=s) (by rw[e];exact ha) hsn;obtain⟨_,_,t2⟩:=h.sig hf hs (i:=b) (nm:=o) (by rw[e];exact hb) hon;have tw:=h.Ji hf hs;rw[getElem_map] at t1;rw[length_map] at hk;rw[getD_eq_getElem?_getD,getElem?_eq_getElem hk,Option.getD_some];have g1:=d.go.lt 4;have g2:=d.go.go.lt 3;have g3:=d.go.go.go.lt 40;have g4:=d.go.go.go.go.go.go.lt 3;have g5:=d.go.go.go.go.go.go.go.lt 30;have hn:=(WO d ps[a] o).2.2
 have tb:TE sg aV (zG d o):=by
  unfold zG;refine aeQ ?_ (nG (by omega) (by omega) (by omega) (by omega)) (by split<;>simp) ho t2;split
  ·exact TE.eH (by omega) (by decide) tw
  ·exact TE.lit (by omega) (nG (by omega) (by omega) (by omega) (by omega)) rfl
 have hp:KZ sg (iR d ps[a] o).1:=by
  refine⟨?_,by omega,fun _=>t1,?_⟩
  ·show TE sg ps[a].ty _;rw[t1];unfold iR;dsimp only
   split
   ·have h9:=TE.fQ (op:=21) (by omega) (nG (a:=1) (b:=4) (by omega) (by omega) (by omega) (by omega)) (show 0<dD (je 1 4) by decide+kernel) rfl tb;rw[flatten_cons,flatten_nil,append_nil] at h9;exact h9
   ·exact tb
  ·refine ZL ?_ t1;have h2:=(ER _ (Uc (d.go.go.go.go.go.go.nx 3))).2;obtain⟨r,hr⟩:∃r:Nat,d.go.go.go.go.go.go.go.nx 30=(r:Int):=⟨_,(Int.toNat_of_nonneg g5.1).symm⟩
   have h3:=h2 ⟨r,by omega⟩;show OY (qy _) (mulR (qy _) (aK (1+d.go.go.go.go.go.go.go.nx 30)))=true;rw[hr,Int.add_comm];exact h3
 have q:=h.set a (by rw[length_map];exact hk) ((iR d ps[a] o).1,⟨none,0,0⟩) (by rw[getElem_map];exact⟨rfl,rfl,rfl⟩) hp;refine⟨by unfold pr;rw[map_set];exact q,wS Pv.name ps a hk _ rfl⟩
theorem ai1 (hf:Iq fs) (hs:Ir ss) (h:PG sg fs ss (pr ps)) (d:Dr) (z:Int):PG sg fs ss (pr (Fv d z ps)):=by
 have n1:jk≠Qa/\lX≠Qa/\bY jk=true/\bY lX=true:=by decide
 have k1:PG sg fs ss (pr (uS d z (gV jk ps) (gV lX ps) ps).2)/\(uS d z (gV jk ps) (gV lX ps) ps).2.map Pv.name=ps.map Pv.name:=by
  unfold uS;split
  ·next hh=>
   simp only[Bool.and_eq_true] at hh;have fa:=Jj hh.2.2.1;have fb:=Jj hh.2.2.2;dsimp only
   have c1:=Qd hf hs h d fa n1.1 fb n1.2.1 n1.2.2.2 (pz nE aV false);have c2:=Qd hf hs c1.1 (iR d (ps.getD (gV jk ps).1 (pz nE aV false)) lX).2 (c1.2 ▸ fb) n1.2.1 (c1.2 ▸ fa) n1.1 n1.2.2.1 (pz nE aV false);exact⟨c2.1,c2.2.trans c1.2⟩
  ·exact⟨h,rfl⟩
 unfold Fv;dsimp only
 generalize uS d z (gV jk ps) (gV lX ps) ps=E at*
 have k2:PG sg fs ss (pr (wR E.1 z (gV jk ps) E.2).2):=by
  unfold wR;split
  ·next hh=>
   simp only[Bool.and_eq_true] at hh;have fa:=Jj hh.2;exact (Qd hf hs k1.1 E.1 (k1.2 ▸ fa) n1.1 (k1.2 ▸ fa) n1.1 n1.2.2.1 _).1
  ·exact k1.1
 generalize wR E.1 z (gV jk ps) E.2=G at*;unfold Fq;split
 ·dsimp only
  split
  ·exact k2
  ·next ht=>
   by_cases hk:(G.1.nx G.2.length).toNat<G.2.length
   ·rw[getD_eq_getElem?_getD,getElem?_eq_getElem hk,Option.getD_some] at ht⊢;generalize (G.1.nx G.2.length).toNat=k at*;have hm:(G.2[k],(⟨none,0,0⟩:Hd))∈pr G.2:=mem_map.2 ⟨_,getElem_mem hk,rfl⟩;have ty:G.2[k].ty=aV:=(k2.k.ty _ hm).resolve_right (fun g=>ht (by show G.2[k].ty.truth=true;rw[g.1];rfl));have g:=k2.g _ hm;have g5:=G.1.go.lt 100;obtain⟨r,hr⟩:∃r:Nat,G.1.go.nx 100=(r:Int):=⟨_,(Int.toNat_of_nonneg g5.1).symm⟩
    have h3:=YT ⟨r,by omega⟩;have q:=k2.set k (by rw[length_map];exact hk) ({G.2[k] with step:=je 1 2,cap:=aK (1+G.1.go.nx 100)},⟨none,0,0⟩) (by rw[getElem_map];exact⟨rfl,rfl,rfl⟩) ⟨g.b,g.n,g.c,ZL (by rw[hr,Int.add_comm];exact h3) ty⟩;unfold pr;rw[map_set];exact q
   ·rw[set_eq_of_length_le (by omega)];exact k2
 ·exact k2
end
theorem ahY {x:List (List Int)} (hx:∀i,eG ⟨x.getD i [],0⟩):La (jG x):=by
 have hs:=aiZ ⟨x.getD 0 [],0⟩;have hf:=aiY ⟨x.getD 0 [],0⟩;obtain⟨hk,hz⟩:=adt (pR ⟨x.getD 0 [],0⟩).2 6 (Nat.le_refl _);unfold jG;dsimp only
 generalize iw (pR ⟨x.getD 0 [],0⟩).2 6=q at*;generalize ji ⟨x.getD 0 [],0⟩=fs at*;generalize pR ⟨x.getD 0 [],0⟩=s at*;have g:=nmG hf hs hk;have e:=ads fs s.1 q.2;rw[<-e];have k:=ai1 hf hs (ai0 hx (decide (q.1.nx 8=0)) g hk hz rfl) q.1.go (q.1.nx 8);have m:=k.md hf hs;rw[ads] at m;exact m
theorem La.raw {l:Lw} (h:La l):CQ l:=by
 obtain⟨h1,h2,h3⟩:=h.n.len;have hf:=h.fine;have nk:∀s∈nF++(nS++six),s.size<=25:=by decide
 refine⟨h1,h2,h3,fun d hd=>nk _ ?_,fun x hx=>⟨nk _ ?_,Nat.le_trans (h.b x hx).n (by decide),hf.sb x hx⟩,fun x hx=>⟨⟨nk _ ?_,hf.pb x hx⟩,Nat.le_trans (h.p x hx).n (by decide)⟩⟩
 ·rw[mem_append];exact .inl (h.n.f.mem (mem_map.2 ⟨d,hd,rfl⟩))
 ·rw[mem_append,mem_append];exact .inr (.inl (h.n.s.mem (mem_map.2 ⟨x,hx,rfl⟩)))
 ·rw[mem_append,mem_append];exact .inr (.inr (h.n.p.mem (mem_map.2 ⟨x,hx,rfl⟩)))
end
end Go.Proofs.YtjpbmbgincdjaaaGreatDoor
